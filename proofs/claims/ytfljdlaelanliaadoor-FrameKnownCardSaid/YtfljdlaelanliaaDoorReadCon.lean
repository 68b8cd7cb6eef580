/- The walk of the rest's connect (package read). Conditions: the rest's cells lie in a block of the caller's own; a machine's bound on the text's size; the decoder's tables lie as Go lays them. -/
import Derived.Test.YtfljdlaelanliaaDoorJoinG
namespace Go.Proofs.YtfljdlaelanliaaDoor
open Go.RowKit
set_option maxRecDepth 100000 in
set_option maxHeartbeats 4000000 in
theorem rest_connect {w0 w : World} {X : Nat} {T : TypeId} {B : List Box} {R : List Row} (c0 : Cur) (hc : c0.1.length ≤ 90000000) (HK0 : Keep w0 ((X, curC c0 (pkV { Pk.zero with ty := 1 } none 0).toList, T) :: B) R w) :
    Calls Tryd.prog 86 #[.pointer (some ⟨X, 0, none⟩)] w fun e w' => e = .returned (.tuple #[]) ∧ Keep w0 ((X, curC (conR c0).2 (pkV (conR c0).1 none 0).toList, T) :: B) R w' := by
  obtain ⟨L0, k0⟩ := c0
  have l0 : L0.length ≤ 300000000 := by simp only at hc; omega
  rcases ha : textR (L0, k0) with ⟨a, L1, k1⟩
  have l1 : L1.length ≤ 300000000 := by
    have h1 := text_len (L0, k0)
    rw [ha] at h1
    simp only at h1
    omega
  have HA := Lib.hid (show ∀ w C, Keep w0 ((X, curC (L0, k0) C, T) :: B) R w → Calls Tryd.prog 88 #[.pointer (some ⟨X, 0, none⟩)] w (RetC w0 w X C T B R (.string a) (L1, k1)) from fun w C h => by
    have h2 := cur_text (L0, k0) (by simp only; omega) h
    rw [ha] at h2
    exact h2)
  rcases hb : oneR (L1, k1) with ⟨b, L2, k2⟩
  have l2 : L2.length ≤ 300000000 := by
    have h1 := one_len (L1, k1)
    rw [hb] at h1
    simp only at h1
    omega
  have HBB := Lib.hid (show ∀ w C, Keep w0 ((X, curC (L1, k1) C, T) :: B) R w → Calls Tryd.prog 87 #[.pointer (some ⟨X, 0, none⟩)] w (RetC w0 w X C T B R (.int .u8 (b : Int)) (L2, k2)) from fun w C h => by
    have h2 := cur_one (L1, k1) h
    rw [hb] at h2
    exact h2)
  rcases hf : oneR (L2, k2) with ⟨f, L3, k3⟩
  have l3 : L3.length ≤ 300000000 := by
    have h1 := one_len (L2, k2)
    rw [hf] at h1
    simp only at h1
    omega
  have HF := Lib.hid (show ∀ w C, Keep w0 ((X, curC (L2, k2) C, T) :: B) R w → Calls Tryd.prog 87 #[.pointer (some ⟨X, 0, none⟩)] w (RetC w0 w X C T B R (.int .u8 (f : Int)) (L3, k3)) from fun w C h => by
    have h2 := cur_one (L2, k2) h
    rw [hf] at h2
    exact h2)
  rcases hk : wordR (L3, k3 || (a != mqtt) || decide (f % 2 = 1)) with ⟨k, L4, k4⟩
  have l4 : L4.length ≤ 300000000 := by
    have h1 := word_len (L3, k3 || (a != mqtt) || decide (f % 2 = 1))
    rw [hk] at h1
    simp only at h1
    omega
  have HKK := Lib.hid (show ∀ w C, Keep w0 ((X, curC (L3, k3 || (a != mqtt) || decide (f % 2 = 1)) C, T) :: B) R w → Calls Tryd.prog 89 #[.pointer (some ⟨X, 0, none⟩)] w (RetC w0 w X C T B R (.int .u16 (k : Int)) (L4, k4)) from fun w C h => by
    have h2 := cur_word (L3, k3 || (a != mqtt) || decide (f % 2 = 1)) (by simp only; omega) h
    rw [hk] at h2
    exact h2)
  rcases hn : textR (L4, k4) with ⟨n, L5, k5⟩
  have l5 : L5.length ≤ 300000000 := by
    have h1 := text_len (L4, k4)
    rw [hn] at h1
    simp only at h1
    omega
  have HNN := Lib.hid (show ∀ w C, Keep w0 ((X, curC (L4, k4) C, T) :: B) R w → Calls Tryd.prog 88 #[.pointer (some ⟨X, 0, none⟩)] w (RetC w0 w X C T B R (.string n) (L5, k5)) from fun w C h => by
    have h2 := cur_text (L4, k4) (by simp only; omega) h
    rw [hn] at h2
    exact h2)
  rcases hwt : (if f / 4 % 2 = 1 then textR (L5, k5) else (e0, (L5, k5))) with ⟨wt, L6, k6⟩
  have l6 : L6.length ≤ 300000000 := by
    have h1 := text_len (L5, k5)
    split at hwt
    · rw [hwt] at h1
      simp only at h1
      omega
    · cases hwt
      omega
  have HWT := Lib.hid (show f / 4 % 2 = 1 → ∀ w C, Keep w0 ((X, curC (L5, k5) C, T) :: B) R w → Calls Tryd.prog 88 #[.pointer (some ⟨X, 0, none⟩)] w (RetC w0 w X C T B R (.string wt) (L6, k6)) from fun hif w C h => by
    have h2 := cur_text (L5, k5) (by simp only; omega) h
    rw [if_pos hif] at hwt
    rw [hwt] at h2
    exact h2)
  rcases hwp : (if f / 4 % 2 = 1 then dataR (L6, k6) else (e0, (L6, k6))) with ⟨wp, L7, k7⟩
  have l7 : L7.length ≤ 300000000 := by
    have h1 := data_len (L6, k6)
    split at hwp
    · rw [hwp] at h1
      simp only at h1
      omega
    · cases hwp
      omega
  have HWP := Lib.hid (show f / 4 % 2 = 1 → ∀ w C, Keep w0 ((X, curC (L6, k6) C, T) :: B) R w → Calls Tryd.prog 102 #[.pointer (some ⟨X, 0, none⟩)] w (RetC w0 w X C T B R (.string wp) (L7, k7)) from fun hif w C h => by
    have h2 := cur_data (L6, k6) (by simp only; omega) h
    rw [if_pos hif] at hwp
    rw [hwp] at h2
    exact h2)
  rcases hu : (if f / 128 % 2 = 1 then textR (L7, k7) else (e0, (L7, k7))) with ⟨u, L8, k8⟩
  have l8 : L8.length ≤ 300000000 := by
    have h1 := text_len (L7, k7)
    split at hu
    · rw [hu] at h1
      simp only at h1
      omega
    · cases hu
      omega
  have HU := Lib.hid (show f / 128 % 2 = 1 → ∀ w C, Keep w0 ((X, curC (L7, k7) C, T) :: B) R w → Calls Tryd.prog 88 #[.pointer (some ⟨X, 0, none⟩)] w (RetC w0 w X C T B R (.string u) (L8, k8)) from fun hif w C h => by
    have h2 := cur_text (L7, k7) (by simp only; omega) h
    rw [if_pos hif] at hu
    rw [hu] at h2
    exact h2)
  rcases hs : (if f / 64 % 2 = 1 then dataR (L8, k8) else (e0, (L8, k8))) with ⟨s, L9, k9⟩
  have l9 : L9.length ≤ 300000000 := by
    have h1 := data_len (L8, k8)
    split at hs
    · rw [hs] at h1
      simp only at h1
      omega
    · cases hs
      omega
  have HS := Lib.hid (show f / 64 % 2 = 1 → ∀ w C, Keep w0 ((X, curC (L8, k8) C, T) :: B) R w → Calls Tryd.prog 102 #[.pointer (some ⟨X, 0, none⟩)] w (RetC w0 w X C T B R (.string s) (L9, k9)) from fun hif w C h => by
    have h2 := cur_data (L8, k8) (by simp only; omega) h
    rw [if_pos hif] at hs
    rw [hs] at h2
    exact h2)
  have hf2 : f < 256 := by
    have h1 := one_lt (L2, k2)
    rw [hf] at h1
    exact h1
  have HR : conR (L0, k0) = ({ Pk.zero with ty := 1, level := b, clean := decide (f / 2 % 2 = 1), hasWill := decide (f / 4 % 2 = 1), wqos := f / 8 % 4, wret := decide (f / 32 % 2 = 1), hasPass := decide (f / 64 % 2 = 1), hasUser := decide (f / 128 % 2 = 1), keep := k, client := n, wtopic := wt, wpayload := wp, user := u, pass := s }, (L9, k9)) := by
    unfold conR
    simp only [ha, hb, hf, hk, hn, hwt, hwp, hu, hs]
  rw [HR]
  have HB := Lib.hid (bit_facts f hf2)
  have HQ := Lib.hid (and3_u8 f hf2)
  have HW := Lib.hid (show ¬ f / 4 % 2 = 1 → wt = e0 ∧ wp = e0 ∧ (L7, k7) = (L5, k5) from fun h => by
    rw [if_neg h] at hwt hwp
    cases hwt
    cases hwp
    exact ⟨rfl, rfl, rfl⟩)
  have HU2 := Lib.hid (show ¬ f / 128 % 2 = 1 → u = e0 ∧ (L8, k8) = (L7, k7) from fun h => by
    rw [if_neg h] at hu
    cases hu
    exact ⟨rfl, rfl⟩)
  have HS2 := Lib.hid (show ¬ f / 64 % 2 = 1 → s = e0 ∧ (L9, k9) = (L8, k8) from fun h => by
    rw [if_neg h] at hs
    cases hs
    exact ⟨rfl, rfl⟩)
  have HK := HK0
  clear HK0 HR ha hb hf hk hn hwt hwp hu hs hc
  clear l0 l1 l2 l3 l4 l5 l6 l7 l8 l9
  go_enter Tryd.func86, Tryd.ntmps86
  refine wp_forget (n := 148) (L := [(0, .pointer (some ⟨X, 0, none⟩))]) (FrL.add (FrL.nil ?_ ?_) _ _ ?_) ?_
  iterate 3 rfl
  intro a9 F
  rename World => w9
  refine wp_seq ?_
  refine wp_region_lit ?_
  refine fr_ch F 3 [(6, .pointer (some ⟨X, 0, none⟩)), (4, .pointer (some ⟨X, 0, none⟩))] (by kernel_rfl) ?_
  clear F a9
  intro a9 F
  refine fr_call F (wanted_free rfl) 7 rfl (by decide) 88 #[.pointer (some ⟨X, 0, none⟩)] (by intro a' F'; have h6 := F'.at' 6 _ rfl; go_simp) (HA.out _ _ HK) ?_
  clear HK
  rintro e w8 ⟨rfl, HK, HO⟩
  clear HO
  clear w9
  rename World => w9
  refine ⟨_, rfl, ?_⟩
  clear F a9
  intro a9 F
  refine fr_ch F 1 [(2, .string a)] (by kernel_rfl) ?_
  clear F a9
  intro a9 F
  refine wpList_nil ?_
  show Code.wp _ _ _ _ _
  replace F := F.keep [0, 2]
  replace F : FrL 148 [(2, .string a), (0, .pointer (some ⟨X, 0, none⟩))] a9 := F
  refine wp_seq ?_
  refine wp_region_lit ?_
  refine fr_ch F 4 [(11, .pointer (some ⟨X, 0, none⟩)), (10, .pointer (some ⟨X, 0, none⟩)), (9, .pointer (some ⟨X, 0, none⟩)), (8, .pointer (some ⟨X, 0, none⟩))] (by kernel_rfl) ?_
  clear F a9
  intro a9 F
  refine fr_call F (wanted_free rfl) 12 rfl (by decide) 87 #[.pointer (some ⟨X, 0, none⟩)] (by intro a' F'; have h11 := F'.at' 11 _ rfl; go_simp) (HBB.out _ _ HK) ?_
  clear HK
  rintro e w8 ⟨rfl, HK, HO⟩
  clear HO
  clear w9
  rename World => w9
  refine ⟨_, rfl, ?_⟩
  clear F a9
  intro a9 F
  refine fr_ch F 3 [(15, .pointer (some ⟨X, 9, none⟩)), (14, .pointer (some ⟨X, 2, none⟩)), (13, .pointer (some ⟨X, 0, none⟩))] (by kernel_rfl) ?_
  clear F a9
  intro a9 F
  refine fr_put F HK 0 rfl rfl rfl 5 _ _ rfl 9 (.int .u8 (b : Int)) (fun a' F' => F'.ev 15 rfl) (fun a' F' => F'.ev 12 rfl) z_u8 (Nat.le_of_ble_eq_true (by kernel_rfl)) (by kernel_rfl) ?_
  clear F HK a9 w9
  intro a9 w9 F HK
  replace HK : Keep w0 ((X, curC (L2, k2) (pkV { Pk.zero with ty := 1, level := b } none 0).toList, T) :: B) R w9 := HK
  refine wpList_nil ?_
  show Code.wp _ _ _ _ _
  replace F := F.keep [0, 2]
  replace F : FrL 148 [(2, .string a), (0, .pointer (some ⟨X, 0, none⟩))] a9 := F
  refine wp_seq ?_
  refine wp_region_lit ?_
  refine fr_ch F 3 [(18, .pointer (some ⟨X, 0, none⟩)), (17, .pointer (some ⟨X, 0, none⟩)), (16, .pointer (some ⟨X, 0, none⟩))] (by kernel_rfl) ?_
  clear F a9
  intro a9 F
  refine fr_call F (wanted_free rfl) 19 rfl (by decide) 87 #[.pointer (some ⟨X, 0, none⟩)] (by intro a' F'; have h18 := F'.at' 18 _ rfl; go_simp) (HF.out _ _ HK) ?_
  clear HK
  rintro e w8 ⟨rfl, HK, HO⟩
  clear HO
  clear w9
  rename World => w9
  refine ⟨_, rfl, ?_⟩
  clear F a9
  intro a9 F
  refine fr_ch F 1 [(3, .int .u8 (f : Int))] (by kernel_rfl) ?_
  clear F a9
  intro a9 F
  refine wpList_nil ?_
  show Code.wp _ _ _ _ _
  replace F := F.keep [0, 2, 3]
  replace F : FrL 148 [(3, .int .u8 (f : Int)), (2, .string a), (0, .pointer (some ⟨X, 0, none⟩))] a9 := F
  refine wp_seq_meet (fun a' w' => FrL 148 [(3, .int .u8 (f : Int)), (0, .pointer (some ⟨X, 0, none⟩))] a' ∧ Keep w0 ((X, curC (L3, (k3 || (a != mqtt) || decide (f % 2 = 1))) (pkV { Pk.zero with ty := 1, level := b } none 0).toList, T) :: B) R w') ?_ ?_
  · obtain ⟨v, hv⟩ : ∃ v, k3 = v := ⟨_, rfl⟩
    obtain ⟨q, hq⟩ : ∃ q, (a != mqtt) = q := ⟨_, rfl⟩
    have HV := Lib.hid hv
    have HQQ := Lib.hid hq
    have HN := Lib.hid (show (a.toList != mqtt.toList) = q from (ne_toList a mqtt).trans hq)
    rw [hv] at HK
    clear hv hq
    cases v
    · cases q
      · skip
        refine wp_region_lit ?_
        refine fr_ch F 5 [(24, .pointer (some ⟨X, 1, none⟩)), (23, .pointer (some ⟨X, 0, none⟩)), (22, .pointer (some ⟨X, 0, none⟩)), (21, .pointer (some ⟨X, 0, none⟩)), (20, .pointer (some ⟨X, 0, none⟩))] (by kernel_rfl) ?_
        clear F a9
        intro a9 F
        have hc : w9.cell? ⟨X, 1, none⟩ = some (.bool false) := (HK.at 0 rfl).cells 1
        refine fr_do F (wanted_free rfl) 25 rfl (by decide) (.bool false) (by intro a' F'; have h24 := F'.at' 24 _ rfl; go_simp) ?_
        clear F a9
        intro a9 F
        clear hc
        refine fr_ch F 2 [(27, .string a), (26, .bool false)] (by kernel_rfl) ?_
        clear F a9
        intro a9 F
        refine fr_do F (by rw [wanted_at F rfl (t := 26) (b := false) (by kernel_rfl) rfl]; rfl) 28 rfl (by decide) (.string mqtt) (by intro a' F'; go_simp; try rfl) ?_
        clear F a9
        intro a9 F
        refine fr_do F (by rw [wanted_at F rfl (t := 26) (b := false) (by kernel_rfl) rfl]; rfl) 29 rfl (by decide) (.bool false) (by intro a' F'; have h27 := F'.at' 27 _ rfl; have h28 := F'.at' 28 _ rfl; have hq := HN.out; go_simp <;> simpa using hq) ?_
        clear F a9
        intro a9 F
        refine fr_ch F 3 [(32, .int .u8 (f : Int)), (31, .bool false), (30, .bool false)] (by kernel_rfl) ?_
        clear F a9
        intro a9 F
        refine fr_do F (by rw [wanted_at F rfl (t := 31) (b := false) (by kernel_rfl) rfl]; rfl) 33 rfl (by decide) (.int .u8 ((bitM 1 f : Nat) : Int)) (by intro a' F'; have h32 := F'.at' 32 _ rfl; have hq := (HB.out 1 (by simp)).1; go_simp <;> exact hq) ?_
        clear F a9
        intro a9 F
        refine fr_do F (by rw [wanted_at F rfl (t := 31) (b := false) (by kernel_rfl) rfl]; rfl) 34 rfl (by decide) (.bool (decide (f % 2 = 1))) (by intro a' F'; have h33 := F'.at' 33 _ rfl; have hq := (HB.out 1 (by simp)).2; rw [Nat.div_one] at hq; go_simp) ?_
        clear F a9
        intro a9 F
        refine fr_ch F 4 [(38, .pointer (some ⟨X, 1, none⟩)), (37, .pointer (some ⟨X, 0, none⟩)), (36, .pointer (some ⟨X, 0, none⟩)), (35, .bool (decide (f % 2 = 1)))] (by kernel_rfl) ?_
        clear F a9
        intro a9 F
        refine fr_put F HK 0 rfl rfl rfl 4 _ _ rfl 1 (.bool (decide (f % 2 = 1))) (fun a' F' => F'.ev 38 rfl) (fun a' F' => F'.ev 35 rfl) z_bool (Nat.le_of_ble_eq_true (by kernel_rfl)) (by kernel_rfl) ?_
        clear F HK a9 w9
        intro a9 w9 F HK
        replace HK : Keep w0 ((X, curC (L3, (decide (f % 2 = 1))) (pkV { Pk.zero with ty := 1, level := b } none 0).toList, T) :: B) R w9 := HK
        refine wpList_nil ?_
        refine ⟨F.keep [0, 3], ?_⟩
        rw [HV.out, HQQ.out]
        exact HK
      · skip
        refine wp_region_lit ?_
        refine fr_ch F 5 [(24, .pointer (some ⟨X, 1, none⟩)), (23, .pointer (some ⟨X, 0, none⟩)), (22, .pointer (some ⟨X, 0, none⟩)), (21, .pointer (some ⟨X, 0, none⟩)), (20, .pointer (some ⟨X, 0, none⟩))] (by kernel_rfl) ?_
        clear F a9
        intro a9 F
        have hc : w9.cell? ⟨X, 1, none⟩ = some (.bool false) := (HK.at 0 rfl).cells 1
        refine fr_do F (wanted_free rfl) 25 rfl (by decide) (.bool false) (by intro a' F'; have h24 := F'.at' 24 _ rfl; go_simp) ?_
        clear F a9
        intro a9 F
        clear hc
        refine fr_ch F 2 [(27, .string a), (26, .bool false)] (by kernel_rfl) ?_
        clear F a9
        intro a9 F
        refine fr_do F (by rw [wanted_at F rfl (t := 26) (b := false) (by kernel_rfl) rfl]; rfl) 28 rfl (by decide) (.string mqtt) (by intro a' F'; go_simp; try rfl) ?_
        clear F a9
        intro a9 F
        refine fr_do F (by rw [wanted_at F rfl (t := 26) (b := false) (by kernel_rfl) rfl]; rfl) 29 rfl (by decide) (.bool true) (by intro a' F'; have h27 := F'.at' 27 _ rfl; have h28 := F'.at' 28 _ rfl; have hq := HN.out; go_simp <;> simpa using hq) ?_
        clear F a9
        intro a9 F
        refine fr_ch F 9 [(38, .pointer (some ⟨X, 1, none⟩)), (37, .pointer (some ⟨X, 0, none⟩)), (36, .pointer (some ⟨X, 0, none⟩)), (35, .bool true), (34, undef), (33, undef), (32, undef), (31, .bool true), (30, .bool true)] (by kernel_rfl) ?_
        clear F a9
        intro a9 F
        refine fr_put F HK 0 rfl rfl rfl 4 _ _ rfl 1 (.bool true) (fun a' F' => F'.ev 38 rfl) (fun a' F' => F'.ev 35 rfl) z_bool (Nat.le_of_ble_eq_true (by kernel_rfl)) (by kernel_rfl) ?_
        clear F HK a9 w9
        intro a9 w9 F HK
        replace HK : Keep w0 ((X, curC (L3, true) (pkV { Pk.zero with ty := 1, level := b } none 0).toList, T) :: B) R w9 := HK
        refine wpList_nil ?_
        refine ⟨F.keep [0, 3], ?_⟩
        rw [HV.out, HQQ.out]
        exact HK
    · skip
      refine wp_region_lit ?_
      refine fr_ch F 5 [(24, .pointer (some ⟨X, 1, none⟩)), (23, .pointer (some ⟨X, 0, none⟩)), (22, .pointer (some ⟨X, 0, none⟩)), (21, .pointer (some ⟨X, 0, none⟩)), (20, .pointer (some ⟨X, 0, none⟩))] (by kernel_rfl) ?_
      clear F a9
      intro a9 F
      have hc : w9.cell? ⟨X, 1, none⟩ = some (.bool true) := (HK.at 0 rfl).cells 1
      refine fr_do F (wanted_free rfl) 25 rfl (by decide) (.bool true) (by intro a' F'; have h24 := F'.at' 24 _ rfl; go_simp) ?_
      clear F a9
      intro a9 F
      clear hc
      refine fr_ch F 13 [(38, .pointer (some ⟨X, 1, none⟩)), (37, .pointer (some ⟨X, 0, none⟩)), (36, .pointer (some ⟨X, 0, none⟩)), (35, .bool true), (34, undef), (33, undef), (32, undef), (31, .bool true), (30, .bool true), (29, undef), (28, undef), (27, undef), (26, .bool true)] (by kernel_rfl) ?_
      clear F a9
      intro a9 F
      refine fr_put F HK 0 rfl rfl rfl 4 _ _ rfl 1 (.bool true) (fun a' F' => F'.ev 38 rfl) (fun a' F' => F'.ev 35 rfl) z_bool (Nat.le_of_ble_eq_true (by kernel_rfl)) (by kernel_rfl) ?_
      clear F HK a9 w9
      intro a9 w9 F HK
      replace HK : Keep w0 ((X, curC (L3, true) (pkV { Pk.zero with ty := 1, level := b } none 0).toList, T) :: B) R w9 := HK
      refine wpList_nil ?_
      refine ⟨F.keep [0, 3], ?_⟩
      rw [HV.out, HQQ.out]
      exact HK
  clear HK F a9 w9
  rintro a9 w9 ⟨F, HK⟩
  replace F : FrL 148 [(3, .int .u8 (f : Int)), (0, .pointer (some ⟨X, 0, none⟩))] a9 := F
  refine wp_seq ?_
  refine wp_region_lit ?_
  refine fr_ch F 2 [(40, .int .u8 (f : Int)), (39, .pointer (some ⟨X, 0, none⟩))] (by kernel_rfl) ?_
  clear F a9
  intro a9 F
  refine fr_do F (wanted_free rfl) 41 rfl (by decide) (.int .u8 ((bitM 2 f : Nat) : Int)) (by intro a' F'; have h40 := F'.at' 40 _ rfl; have hq := (HB.out 2 (by simp)).1; go_simp <;> exact hq) ?_
  clear F a9
  intro a9 F
  refine fr_do F (wanted_free rfl) 42 rfl (by decide) (.bool (decide (f / 2 % 2 = 1))) (by intro a' F'; have h41 := F'.at' 41 _ rfl; have hq := (HB.out 2 (by simp)).2; go_simp) ?_
  clear F a9
  intro a9 F
  refine fr_ch F 3 [(45, .pointer (some ⟨X, 10, none⟩)), (44, .pointer (some ⟨X, 2, none⟩)), (43, .pointer (some ⟨X, 0, none⟩))] (by kernel_rfl) ?_
  clear F a9
  intro a9 F
  refine fr_put F HK 0 rfl rfl rfl 4 _ _ rfl 10 (.bool (decide (f / 2 % 2 = 1))) (fun a' F' => F'.ev 45 rfl) (fun a' F' => F'.ev 42 rfl) z_bool (Nat.le_of_ble_eq_true (by kernel_rfl)) (by kernel_rfl) ?_
  clear F HK a9 w9
  intro a9 w9 F HK
  replace HK : Keep w0 ((X, curC (L3, (k3 || (a != mqtt) || decide (f % 2 = 1))) (pkV { Pk.zero with ty := 1, level := b, clean := (decide (f / 2 % 2 = 1)) } none 0).toList, T) :: B) R w9 := HK
  refine wpList_nil ?_
  show Code.wp _ _ _ _ _
  replace F := F.keep [0, 3]
  replace F : FrL 148 [(3, .int .u8 (f : Int)), (0, .pointer (some ⟨X, 0, none⟩))] a9 := F
  refine wp_seq ?_
  refine wp_region_lit ?_
  refine fr_ch F 2 [(47, .int .u8 (f : Int)), (46, .pointer (some ⟨X, 0, none⟩))] (by kernel_rfl) ?_
  clear F a9
  intro a9 F
  refine fr_do F (wanted_free rfl) 48 rfl (by decide) (.int .u8 ((bitM 4 f : Nat) : Int)) (by intro a' F'; have h47 := F'.at' 47 _ rfl; have hq := (HB.out 4 (by simp)).1; go_simp <;> exact hq) ?_
  clear F a9
  intro a9 F
  refine fr_do F (wanted_free rfl) 49 rfl (by decide) (.bool (decide (f / 4 % 2 = 1))) (by intro a' F'; have h48 := F'.at' 48 _ rfl; have hq := (HB.out 4 (by simp)).2; go_simp) ?_
  clear F a9
  intro a9 F
  refine fr_ch F 3 [(52, .pointer (some ⟨X, 13, none⟩)), (51, .pointer (some ⟨X, 2, none⟩)), (50, .pointer (some ⟨X, 0, none⟩))] (by kernel_rfl) ?_
  clear F a9
  intro a9 F
  refine fr_put F HK 0 rfl rfl rfl 4 _ _ rfl 13 (.bool (decide (f / 4 % 2 = 1))) (fun a' F' => F'.ev 52 rfl) (fun a' F' => F'.ev 49 rfl) z_bool (Nat.le_of_ble_eq_true (by kernel_rfl)) (by kernel_rfl) ?_
  clear F HK a9 w9
  intro a9 w9 F HK
  replace HK : Keep w0 ((X, curC (L3, (k3 || (a != mqtt) || decide (f % 2 = 1))) (pkV { Pk.zero with ty := 1, level := b, clean := (decide (f / 2 % 2 = 1)), hasWill := (decide (f / 4 % 2 = 1)) } none 0).toList, T) :: B) R w9 := HK
  refine wpList_nil ?_
  show Code.wp _ _ _ _ _
  replace F := F.keep [0, 3]
  replace F : FrL 148 [(3, .int .u8 (f : Int)), (0, .pointer (some ⟨X, 0, none⟩))] a9 := F
  refine wp_seq ?_
  refine wp_region_lit ?_
  refine fr_ch F 2 [(54, .int .u8 (f : Int)), (53, .pointer (some ⟨X, 0, none⟩))] (by kernel_rfl) ?_
  clear F a9
  intro a9 F
  refine fr_do F (wanted_free rfl) 55 rfl (by decide) (.int .u8 ((f : Int) / 8)) (by intro a' F'; have h54 := F'.at' 54 _ rfl; go_simp) ?_
  clear F a9
  intro a9 F
  refine fr_do F (wanted_free rfl) 56 rfl (by decide) (.int .u8 ((f / 8 % 4 : Nat) : Int)) (by intro a' F'; have h55 := F'.at' 55 _ rfl; have hq := HQ.out; go_simp) ?_
  clear F a9
  intro a9 F
  refine fr_ch F 4 [(60, .pointer (some ⟨X, 16, none⟩)), (59, .pointer (some ⟨X, 14, none⟩)), (58, .pointer (some ⟨X, 2, none⟩)), (57, .pointer (some ⟨X, 0, none⟩))] (by kernel_rfl) ?_
  clear F a9
  intro a9 F
  refine fr_put F HK 0 rfl rfl rfl 5 _ _ rfl 16 (.int .u8 ((f / 8 % 4 : Nat) : Int)) (fun a' F' => F'.ev 60 rfl) (fun a' F' => F'.ev 56 rfl) z_u8 (Nat.le_of_ble_eq_true (by kernel_rfl)) (by kernel_rfl) ?_
  clear F HK a9 w9
  intro a9 w9 F HK
  replace HK : Keep w0 ((X, curC (L3, (k3 || (a != mqtt) || decide (f % 2 = 1))) (pkV { Pk.zero with ty := 1, level := b, clean := (decide (f / 2 % 2 = 1)), hasWill := (decide (f / 4 % 2 = 1)), wqos := (f / 8 % 4 : Nat) } none 0).toList, T) :: B) R w9 := HK
  refine wpList_nil ?_
  show Code.wp _ _ _ _ _
  replace F := F.keep [0, 3]
  replace F : FrL 148 [(3, .int .u8 (f : Int)), (0, .pointer (some ⟨X, 0, none⟩))] a9 := F
  refine wp_seq ?_
  refine wp_region_lit ?_
  refine fr_ch F 2 [(62, .int .u8 (f : Int)), (61, .pointer (some ⟨X, 0, none⟩))] (by kernel_rfl) ?_
  clear F a9
  intro a9 F
  refine fr_do F (wanted_free rfl) 63 rfl (by decide) (.int .u8 ((bitM 32 f : Nat) : Int)) (by intro a' F'; have h62 := F'.at' 62 _ rfl; have hq := (HB.out 32 (by simp)).1; go_simp <;> exact hq) ?_
  clear F a9
  intro a9 F
  refine fr_do F (wanted_free rfl) 64 rfl (by decide) (.bool (decide (f / 32 % 2 = 1))) (by intro a' F'; have h63 := F'.at' 63 _ rfl; have hq := (HB.out 32 (by simp)).2; go_simp) ?_
  clear F a9
  intro a9 F
  refine fr_ch F 4 [(68, .pointer (some ⟨X, 17, none⟩)), (67, .pointer (some ⟨X, 14, none⟩)), (66, .pointer (some ⟨X, 2, none⟩)), (65, .pointer (some ⟨X, 0, none⟩))] (by kernel_rfl) ?_
  clear F a9
  intro a9 F
  refine fr_put F HK 0 rfl rfl rfl 4 _ _ rfl 17 (.bool (decide (f / 32 % 2 = 1))) (fun a' F' => F'.ev 68 rfl) (fun a' F' => F'.ev 64 rfl) z_bool (Nat.le_of_ble_eq_true (by kernel_rfl)) (by kernel_rfl) ?_
  clear F HK a9 w9
  intro a9 w9 F HK
  replace HK : Keep w0 ((X, curC (L3, (k3 || (a != mqtt) || decide (f % 2 = 1))) (pkV { Pk.zero with ty := 1, level := b, clean := (decide (f / 2 % 2 = 1)), hasWill := (decide (f / 4 % 2 = 1)), wqos := (f / 8 % 4 : Nat), wret := (decide (f / 32 % 2 = 1)) } none 0).toList, T) :: B) R w9 := HK
  refine wpList_nil ?_
  show Code.wp _ _ _ _ _
  replace F := F.keep [0, 3]
  replace F : FrL 148 [(3, .int .u8 (f : Int)), (0, .pointer (some ⟨X, 0, none⟩))] a9 := F
  refine wp_seq ?_
  refine wp_region_lit ?_
  refine fr_ch F 2 [(70, .int .u8 (f : Int)), (69, .pointer (some ⟨X, 0, none⟩))] (by kernel_rfl) ?_
  clear F a9
  intro a9 F
  refine fr_do F (wanted_free rfl) 71 rfl (by decide) (.int .u8 ((bitM 64 f : Nat) : Int)) (by intro a' F'; have h70 := F'.at' 70 _ rfl; have hq := (HB.out 64 (by simp)).1; go_simp <;> exact hq) ?_
  clear F a9
  intro a9 F
  refine fr_do F (wanted_free rfl) 72 rfl (by decide) (.bool (decide (f / 64 % 2 = 1))) (by intro a' F'; have h71 := F'.at' 71 _ rfl; have hq := (HB.out 64 (by simp)).2; go_simp) ?_
  clear F a9
  intro a9 F
  refine fr_ch F 3 [(75, .pointer (some ⟨X, 19, none⟩)), (74, .pointer (some ⟨X, 2, none⟩)), (73, .pointer (some ⟨X, 0, none⟩))] (by kernel_rfl) ?_
  clear F a9
  intro a9 F
  refine fr_put F HK 0 rfl rfl rfl 4 _ _ rfl 19 (.bool (decide (f / 64 % 2 = 1))) (fun a' F' => F'.ev 75 rfl) (fun a' F' => F'.ev 72 rfl) z_bool (Nat.le_of_ble_eq_true (by kernel_rfl)) (by kernel_rfl) ?_
  clear F HK a9 w9
  intro a9 w9 F HK
  replace HK : Keep w0 ((X, curC (L3, (k3 || (a != mqtt) || decide (f % 2 = 1))) (pkV { Pk.zero with ty := 1, level := b, clean := (decide (f / 2 % 2 = 1)), hasWill := (decide (f / 4 % 2 = 1)), wqos := (f / 8 % 4 : Nat), wret := (decide (f / 32 % 2 = 1)), hasPass := (decide (f / 64 % 2 = 1)) } none 0).toList, T) :: B) R w9 := HK
  refine wpList_nil ?_
  show Code.wp _ _ _ _ _
  replace F := F.keep [0, 3]
  replace F : FrL 148 [(3, .int .u8 (f : Int)), (0, .pointer (some ⟨X, 0, none⟩))] a9 := F
  refine wp_seq ?_
  refine wp_region_lit ?_
  refine fr_ch F 2 [(77, .int .u8 (f : Int)), (76, .pointer (some ⟨X, 0, none⟩))] (by kernel_rfl) ?_
  clear F a9
  intro a9 F
  refine fr_do F (wanted_free rfl) 78 rfl (by decide) (.int .u8 ((bitM 128 f : Nat) : Int)) (by intro a' F'; have h77 := F'.at' 77 _ rfl; have hq := (HB.out 128 (by simp)).1; go_simp <;> exact hq) ?_
  clear F a9
  intro a9 F
  refine fr_do F (wanted_free rfl) 79 rfl (by decide) (.bool (decide (f / 128 % 2 = 1))) (by intro a' F'; have h78 := F'.at' 78 _ rfl; have hq := (HB.out 128 (by simp)).2; go_simp) ?_
  clear F a9
  intro a9 F
  refine fr_ch F 3 [(82, .pointer (some ⟨X, 18, none⟩)), (81, .pointer (some ⟨X, 2, none⟩)), (80, .pointer (some ⟨X, 0, none⟩))] (by kernel_rfl) ?_
  clear F a9
  intro a9 F
  refine fr_put F HK 0 rfl rfl rfl 4 _ _ rfl 18 (.bool (decide (f / 128 % 2 = 1))) (fun a' F' => F'.ev 82 rfl) (fun a' F' => F'.ev 79 rfl) z_bool (Nat.le_of_ble_eq_true (by kernel_rfl)) (by kernel_rfl) ?_
  clear F HK a9 w9
  intro a9 w9 F HK
  replace HK : Keep w0 ((X, curC (L3, (k3 || (a != mqtt) || decide (f % 2 = 1))) (pkV { Pk.zero with ty := 1, level := b, clean := (decide (f / 2 % 2 = 1)), hasWill := (decide (f / 4 % 2 = 1)), wqos := (f / 8 % 4 : Nat), wret := (decide (f / 32 % 2 = 1)), hasPass := (decide (f / 64 % 2 = 1)), hasUser := (decide (f / 128 % 2 = 1)) } none 0).toList, T) :: B) R w9 := HK
  refine wpList_nil ?_
  show Code.wp _ _ _ _ _
  replace F := F.keep [0, 3]
  replace F : FrL 148 [(3, .int .u8 (f : Int)), (0, .pointer (some ⟨X, 0, none⟩))] a9 := F
  refine wp_seq ?_
  refine wp_region_lit ?_
  refine fr_ch F 4 [(86, .pointer (some ⟨X, 0, none⟩)), (85, .pointer (some ⟨X, 0, none⟩)), (84, .pointer (some ⟨X, 0, none⟩)), (83, .pointer (some ⟨X, 0, none⟩))] (by kernel_rfl) ?_
  clear F a9
  intro a9 F
  refine fr_call F (wanted_free rfl) 87 rfl (by decide) 89 #[.pointer (some ⟨X, 0, none⟩)] (by intro a' F'; have h86 := F'.at' 86 _ rfl; go_simp) (HKK.out _ _ HK) ?_
  clear HK
  rintro e w8 ⟨rfl, HK, HO⟩
  clear HO
  clear w9
  rename World => w9
  refine ⟨_, rfl, ?_⟩
  clear F a9
  intro a9 F
  refine fr_ch F 3 [(90, .pointer (some ⟨X, 11, none⟩)), (89, .pointer (some ⟨X, 2, none⟩)), (88, .pointer (some ⟨X, 0, none⟩))] (by kernel_rfl) ?_
  clear F a9
  intro a9 F
  refine fr_put F HK 0 rfl rfl rfl 22 _ _ rfl 11 (.int .u16 (k : Int)) (fun a' F' => F'.ev 90 rfl) (fun a' F' => F'.ev 87 rfl) z_u16 (Nat.le_of_ble_eq_true (by kernel_rfl)) (by kernel_rfl) ?_
  clear F HK a9 w9
  intro a9 w9 F HK
  replace HK : Keep w0 ((X, curC (L4, k4) (pkV { Pk.zero with ty := 1, level := b, clean := (decide (f / 2 % 2 = 1)), hasWill := (decide (f / 4 % 2 = 1)), wqos := (f / 8 % 4 : Nat), wret := (decide (f / 32 % 2 = 1)), hasPass := (decide (f / 64 % 2 = 1)), hasUser := (decide (f / 128 % 2 = 1)), keep := k } none 0).toList, T) :: B) R w9 := HK
  refine wpList_nil ?_
  show Code.wp _ _ _ _ _
  replace F := F.keep [0]
  replace F : FrL 148 [(0, .pointer (some ⟨X, 0, none⟩))] a9 := F
  refine wp_seq ?_
  refine wp_region_lit ?_
  refine fr_ch F 4 [(94, .pointer (some ⟨X, 0, none⟩)), (93, .pointer (some ⟨X, 0, none⟩)), (92, .pointer (some ⟨X, 0, none⟩)), (91, .pointer (some ⟨X, 0, none⟩))] (by kernel_rfl) ?_
  clear F a9
  intro a9 F
  refine fr_call F (wanted_free rfl) 95 rfl (by decide) 88 #[.pointer (some ⟨X, 0, none⟩)] (by intro a' F'; have h94 := F'.at' 94 _ rfl; go_simp) (HNN.out _ _ HK) ?_
  clear HK
  rintro e w8 ⟨rfl, HK, HO⟩
  clear HO
  clear w9
  rename World => w9
  refine ⟨_, rfl, ?_⟩
  clear F a9
  intro a9 F
  refine fr_ch F 3 [(98, .pointer (some ⟨X, 12, none⟩)), (97, .pointer (some ⟨X, 2, none⟩)), (96, .pointer (some ⟨X, 0, none⟩))] (by kernel_rfl) ?_
  clear F a9
  intro a9 F
  refine fr_put F HK 0 rfl rfl rfl 9 _ _ rfl 12 (.string n) (fun a' F' => F'.ev 98 rfl) (fun a' F' => F'.ev 95 rfl) z_str (Nat.le_of_ble_eq_true (by kernel_rfl)) (by kernel_rfl) ?_
  clear F HK a9 w9
  intro a9 w9 F HK
  replace HK : Keep w0 ((X, curC (L5, k5) (pkV { Pk.zero with ty := 1, level := b, clean := (decide (f / 2 % 2 = 1)), hasWill := (decide (f / 4 % 2 = 1)), wqos := (f / 8 % 4 : Nat), wret := (decide (f / 32 % 2 = 1)), hasPass := (decide (f / 64 % 2 = 1)), hasUser := (decide (f / 128 % 2 = 1)), keep := k, client := n } none 0).toList, T) :: B) R w9 := HK
  refine wpList_nil ?_
  show Code.wp _ _ _ _ _
  replace F := F.keep [0]
  replace F : FrL 148 [(0, .pointer (some ⟨X, 0, none⟩))] a9 := F
  refine wp_seq_meet (fun a' w' => FrL 148 [(0, .pointer (some ⟨X, 0, none⟩))] a' ∧ Keep w0 ((X, curC (L7, k7) (pkV { Pk.zero with ty := 1, level := b, clean := (decide (f / 2 % 2 = 1)), hasWill := (decide (f / 4 % 2 = 1)), wqos := (f / 8 % 4 : Nat), wret := (decide (f / 32 % 2 = 1)), hasPass := (decide (f / 64 % 2 = 1)), hasUser := (decide (f / 128 % 2 = 1)), keep := k, client := n, wtopic := wt, wpayload := wp } none 0).toList, T) :: B) R w') ?_ ?_
  · skip
    refine wp_seq ?_
    refine wp_region_lit ?_
    refine fr_ch F 4 [(102, .pointer (some ⟨X, 13, none⟩)), (101, .pointer (some ⟨X, 2, none⟩)), (100, .pointer (some ⟨X, 0, none⟩)), (99, .pointer (some ⟨X, 0, none⟩))] (by kernel_rfl) ?_
    clear F a9
    intro a9 F
    have hc : w9.cell? ⟨X, 13, none⟩ = some (.bool ((decide (f / 4 % 2 = 1)))) := (HK.at 0 rfl).cells 13
    refine fr_do F (wanted_free rfl) 103 rfl (by decide) (.bool ((decide (f / 4 % 2 = 1)))) (by intro a' F'; have h102 := F'.at' 102 _ rfl; go_simp) ?_
    clear F a9
    intro a9 F
    clear hc
    refine wpList_nil ?_
    show Code.wp _ _ _ _ _
    by_cases hif : f / 4 % 2 = 1
    · rw [decide_eq_true hif] at F
      refine wp_cond_true (F.ev 103 rfl) ?_
      replace F := F.keep [0]
      replace F : FrL 148 [(0, .pointer (some ⟨X, 0, none⟩))] a9 := F
      refine wp_seq ?_
      refine wp_region_lit ?_
      refine fr_ch F 4 [(107, .pointer (some ⟨X, 0, none⟩)), (106, .pointer (some ⟨X, 0, none⟩)), (105, .pointer (some ⟨X, 0, none⟩)), (104, .pointer (some ⟨X, 0, none⟩))] (by kernel_rfl) ?_
      clear F a9
      intro a9 F
      refine fr_call F (wanted_free rfl) 108 rfl (by decide) 88 #[.pointer (some ⟨X, 0, none⟩)] (by intro a' F'; have h107 := F'.at' 107 _ rfl; go_simp) (HWT.out hif _ _ HK) ?_
      clear HK
      rintro e w8 ⟨rfl, HK, HO⟩
      clear HO
      clear w9
      rename World => w9
      refine ⟨_, rfl, ?_⟩
      clear F a9
      intro a9 F
      refine fr_ch F 4 [(112, .pointer (some ⟨X, 14, none⟩)), (111, .pointer (some ⟨X, 14, none⟩)), (110, .pointer (some ⟨X, 2, none⟩)), (109, .pointer (some ⟨X, 0, none⟩))] (by kernel_rfl) ?_
      clear F a9
      intro a9 F
      refine fr_put F HK 0 rfl rfl rfl 9 _ _ rfl 14 (.string wt) (fun a' F' => F'.ev 112 rfl) (fun a' F' => F'.ev 108 rfl) z_str (Nat.le_of_ble_eq_true (by kernel_rfl)) (by kernel_rfl) ?_
      clear F HK a9 w9
      intro a9 w9 F HK
      replace HK : Keep w0 ((X, curC (L6, k6) (pkV { Pk.zero with ty := 1, level := b, clean := (decide (f / 2 % 2 = 1)), hasWill := (decide (f / 4 % 2 = 1)), wqos := (f / 8 % 4 : Nat), wret := (decide (f / 32 % 2 = 1)), hasPass := (decide (f / 64 % 2 = 1)), hasUser := (decide (f / 128 % 2 = 1)), keep := k, client := n, wtopic := wt } none 0).toList, T) :: B) R w9 := HK
      refine wpList_nil ?_
      show Code.wp _ _ _ _ _
      refine wp_region_lit ?_
      refine fr_ch F 4 [(116, .pointer (some ⟨X, 0, none⟩)), (115, .pointer (some ⟨X, 0, none⟩)), (114, .pointer (some ⟨X, 0, none⟩)), (113, .pointer (some ⟨X, 0, none⟩))] (by kernel_rfl) ?_
      clear F a9
      intro a9 F
      refine fr_call F (wanted_free rfl) 117 rfl (by decide) 102 #[.pointer (some ⟨X, 0, none⟩)] (by intro a' F'; have h116 := F'.at' 116 _ rfl; go_simp) (HWP.out hif _ _ HK) ?_
      clear HK
      rintro e w8 ⟨rfl, HK, HO⟩
      clear HO
      clear w9
      rename World => w9
      refine ⟨_, rfl, ?_⟩
      clear F a9
      intro a9 F
      refine fr_ch F 4 [(121, .pointer (some ⟨X, 15, none⟩)), (120, .pointer (some ⟨X, 14, none⟩)), (119, .pointer (some ⟨X, 2, none⟩)), (118, .pointer (some ⟨X, 0, none⟩))] (by kernel_rfl) ?_
      clear F a9
      intro a9 F
      refine fr_put F HK 0 rfl rfl rfl 9 _ _ rfl 15 (.string wp) (fun a' F' => F'.ev 121 rfl) (fun a' F' => F'.ev 117 rfl) z_str (Nat.le_of_ble_eq_true (by kernel_rfl)) (by kernel_rfl) ?_
      clear F HK a9 w9
      intro a9 w9 F HK
      replace HK : Keep w0 ((X, curC (L7, k7) (pkV { Pk.zero with ty := 1, level := b, clean := (decide (f / 2 % 2 = 1)), hasWill := (decide (f / 4 % 2 = 1)), wqos := (f / 8 % 4 : Nat), wret := (decide (f / 32 % 2 = 1)), hasPass := (decide (f / 64 % 2 = 1)), hasUser := (decide (f / 128 % 2 = 1)), keep := k, client := n, wtopic := wt, wpayload := wp } none 0).toList, T) :: B) R w9 := HK
      refine wpList_nil ?_
      exact ⟨F.keep [0], HK⟩
    · rw [decide_eq_false hif] at F
      refine wp_cond_false (F.ev 103 rfl) ?_
      refine wp_skip ?_
      refine ⟨F.keep [0], ?_⟩
      obtain ⟨e1, e2, e3⟩ := HW.out hif
      injection e3 with e3 e4
      rw [e1, e2, e3, e4]
      exact HK
  clear HK F a9 w9
  rintro a9 w9 ⟨F, HK⟩
  replace F : FrL 148 [(0, .pointer (some ⟨X, 0, none⟩))] a9 := F
  refine wp_seq_meet (fun a' w' => FrL 148 [(0, .pointer (some ⟨X, 0, none⟩))] a' ∧ Keep w0 ((X, curC (L8, k8) (pkV { Pk.zero with ty := 1, level := b, clean := (decide (f / 2 % 2 = 1)), hasWill := (decide (f / 4 % 2 = 1)), wqos := (f / 8 % 4 : Nat), wret := (decide (f / 32 % 2 = 1)), hasPass := (decide (f / 64 % 2 = 1)), hasUser := (decide (f / 128 % 2 = 1)), keep := k, client := n, wtopic := wt, wpayload := wp, user := u } none 0).toList, T) :: B) R w') ?_ ?_
  · skip
    refine wp_seq ?_
    refine wp_region_lit ?_
    refine fr_ch F 4 [(125, .pointer (some ⟨X, 18, none⟩)), (124, .pointer (some ⟨X, 2, none⟩)), (123, .pointer (some ⟨X, 0, none⟩)), (122, .pointer (some ⟨X, 0, none⟩))] (by kernel_rfl) ?_
    clear F a9
    intro a9 F
    have hc : w9.cell? ⟨X, 18, none⟩ = some (.bool ((decide (f / 128 % 2 = 1)))) := (HK.at 0 rfl).cells 18
    refine fr_do F (wanted_free rfl) 126 rfl (by decide) (.bool ((decide (f / 128 % 2 = 1)))) (by intro a' F'; have h125 := F'.at' 125 _ rfl; go_simp) ?_
    clear F a9
    intro a9 F
    clear hc
    refine wpList_nil ?_
    show Code.wp _ _ _ _ _
    by_cases hif : f / 128 % 2 = 1
    · rw [decide_eq_true hif] at F
      refine wp_cond_true (F.ev 126 rfl) ?_
      replace F := F.keep [0]
      replace F : FrL 148 [(0, .pointer (some ⟨X, 0, none⟩))] a9 := F
      refine wp_region_lit ?_
      refine fr_ch F 4 [(130, .pointer (some ⟨X, 0, none⟩)), (129, .pointer (some ⟨X, 0, none⟩)), (128, .pointer (some ⟨X, 0, none⟩)), (127, .pointer (some ⟨X, 0, none⟩))] (by kernel_rfl) ?_
      clear F a9
      intro a9 F
      refine fr_call F (wanted_free rfl) 131 rfl (by decide) 88 #[.pointer (some ⟨X, 0, none⟩)] (by intro a' F'; have h130 := F'.at' 130 _ rfl; go_simp) (HU.out hif _ _ HK) ?_
      clear HK
      rintro e w8 ⟨rfl, HK, HO⟩
      clear HO
      clear w9
      rename World => w9
      refine ⟨_, rfl, ?_⟩
      clear F a9
      intro a9 F
      refine fr_ch F 3 [(134, .pointer (some ⟨X, 20, none⟩)), (133, .pointer (some ⟨X, 2, none⟩)), (132, .pointer (some ⟨X, 0, none⟩))] (by kernel_rfl) ?_
      clear F a9
      intro a9 F
      refine fr_put F HK 0 rfl rfl rfl 9 _ _ rfl 20 (.string u) (fun a' F' => F'.ev 134 rfl) (fun a' F' => F'.ev 131 rfl) z_str (Nat.le_of_ble_eq_true (by kernel_rfl)) (by kernel_rfl) ?_
      clear F HK a9 w9
      intro a9 w9 F HK
      replace HK : Keep w0 ((X, curC (L8, k8) (pkV { Pk.zero with ty := 1, level := b, clean := (decide (f / 2 % 2 = 1)), hasWill := (decide (f / 4 % 2 = 1)), wqos := (f / 8 % 4 : Nat), wret := (decide (f / 32 % 2 = 1)), hasPass := (decide (f / 64 % 2 = 1)), hasUser := (decide (f / 128 % 2 = 1)), keep := k, client := n, wtopic := wt, wpayload := wp, user := u } none 0).toList, T) :: B) R w9 := HK
      refine wpList_nil ?_
      exact ⟨F.keep [0], HK⟩
    · rw [decide_eq_false hif] at F
      refine wp_cond_false (F.ev 126 rfl) ?_
      refine wp_skip ?_
      refine ⟨F.keep [0], ?_⟩
      obtain ⟨e1, e3⟩ := HU2.out hif
      injection e3 with e3 e4
      rw [e1, e3, e4]
      exact HK
  clear HK F a9 w9
  rintro a9 w9 ⟨F, HK⟩
  replace F : FrL 148 [(0, .pointer (some ⟨X, 0, none⟩))] a9 := F
  refine wp_end_meet (fun a' w' => FrL 148 [(0, .pointer (some ⟨X, 0, none⟩))] a' ∧ Keep w0 ((X, curC (L9, k9) (pkV { Pk.zero with ty := 1, level := b, clean := (decide (f / 2 % 2 = 1)), hasWill := (decide (f / 4 % 2 = 1)), wqos := (f / 8 % 4 : Nat), wret := (decide (f / 32 % 2 = 1)), hasPass := (decide (f / 64 % 2 = 1)), hasUser := (decide (f / 128 % 2 = 1)), keep := k, client := n, wtopic := wt, wpayload := wp, user := u, pass := s } none 0).toList, T) :: B) R w') ?_ ?_
  · skip
    refine wp_seq ?_
    refine wp_region_lit ?_
    refine fr_ch F 4 [(138, .pointer (some ⟨X, 19, none⟩)), (137, .pointer (some ⟨X, 2, none⟩)), (136, .pointer (some ⟨X, 0, none⟩)), (135, .pointer (some ⟨X, 0, none⟩))] (by kernel_rfl) ?_
    clear F a9
    intro a9 F
    have hc : w9.cell? ⟨X, 19, none⟩ = some (.bool ((decide (f / 64 % 2 = 1)))) := (HK.at 0 rfl).cells 19
    refine fr_do F (wanted_free rfl) 139 rfl (by decide) (.bool ((decide (f / 64 % 2 = 1)))) (by intro a' F'; have h138 := F'.at' 138 _ rfl; go_simp) ?_
    clear F a9
    intro a9 F
    clear hc
    refine wpList_nil ?_
    show Code.wp _ _ _ _ _
    by_cases hif : f / 64 % 2 = 1
    · rw [decide_eq_true hif] at F
      refine wp_cond_true (F.ev 139 rfl) ?_
      replace F := F.keep [0]
      replace F : FrL 148 [(0, .pointer (some ⟨X, 0, none⟩))] a9 := F
      refine wp_region_lit ?_
      refine fr_ch F 4 [(143, .pointer (some ⟨X, 0, none⟩)), (142, .pointer (some ⟨X, 0, none⟩)), (141, .pointer (some ⟨X, 0, none⟩)), (140, .pointer (some ⟨X, 0, none⟩))] (by kernel_rfl) ?_
      clear F a9
      intro a9 F
      refine fr_call F (wanted_free rfl) 144 rfl (by decide) 102 #[.pointer (some ⟨X, 0, none⟩)] (by intro a' F'; have h143 := F'.at' 143 _ rfl; go_simp) (HS.out hif _ _ HK) ?_
      clear HK
      rintro e w8 ⟨rfl, HK, HO⟩
      clear HO
      clear w9
      rename World => w9
      refine ⟨_, rfl, ?_⟩
      clear F a9
      intro a9 F
      refine fr_ch F 3 [(147, .pointer (some ⟨X, 21, none⟩)), (146, .pointer (some ⟨X, 2, none⟩)), (145, .pointer (some ⟨X, 0, none⟩))] (by kernel_rfl) ?_
      clear F a9
      intro a9 F
      refine fr_put F HK 0 rfl rfl rfl 9 _ _ rfl 21 (.string s) (fun a' F' => F'.ev 147 rfl) (fun a' F' => F'.ev 144 rfl) z_str (Nat.le_of_ble_eq_true (by kernel_rfl)) (by kernel_rfl) ?_
      clear F HK a9 w9
      intro a9 w9 F HK
      replace HK : Keep w0 ((X, curC (L9, k9) (pkV { Pk.zero with ty := 1, level := b, clean := (decide (f / 2 % 2 = 1)), hasWill := (decide (f / 4 % 2 = 1)), wqos := (f / 8 % 4 : Nat), wret := (decide (f / 32 % 2 = 1)), hasPass := (decide (f / 64 % 2 = 1)), hasUser := (decide (f / 128 % 2 = 1)), keep := k, client := n, wtopic := wt, wpayload := wp, user := u, pass := s } none 0).toList, T) :: B) R w9 := HK
      refine wpList_nil ?_
      exact ⟨F.keep [0], HK⟩
    · rw [decide_eq_false hif] at F
      refine wp_cond_false (F.ev 139 rfl) ?_
      refine wp_skip ?_
      refine ⟨F.keep [0], ?_⟩
      obtain ⟨e1, e3⟩ := HS2.out hif
      injection e3 with e3 e4
      rw [e1, e3, e4]
      exact HK
  clear HK F a9 w9
  rintro a9 w9 ⟨F, HK⟩
  replace F : FrL 148 [(0, .pointer (some ⟨X, 0, none⟩))] a9 := F
  exact bodyPost_end (results_void rfl _ _) F.defers ⟨rfl, HK⟩
end Go.Proofs.YtfljdlaelanliaaDoor
