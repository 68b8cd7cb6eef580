/- The walk of OrderBegins. Conditions: the log lies where its slice is, its notes' filters in their rows. -/
import Derived.Test.YtmppkgonkkffhaaDoorJoinV
namespace Go.Proofs.YtmppkgonkkffhaaDoor
open Go.RowKit
set_option maxRecDepth 100000 in
set_option maxHeartbeats 4000000 in
theorem law26_OrderBegins (a : Option Addr) (c : Nat) (T : List NtE) (m : Int) (w : World) (hE : Env w) (_hz : a = none → c = 0) (hlc : T.length ≤ c) (hlen : T.length ≤ 9223372036854775807) (hc : CellsA w a (ntCells T)) (ha : ∀ x ∈ T, NtArg w x) (_hm : Whole m) : Calls Tryd.prog 4 #[.slice a T.length c, .int .i64 m] w fun e w' => e = .returned (.bool true) ∧ Below w.heap.size w w' := by
  obtain ⟨RR, hRR⟩ : ∃ RR : Ending → World → Prop, RR = fun e w' => e = .returned (.bool true) ∧ Below w.heap.size w w' := ⟨_, rfl⟩
  have FIN := Lib.hid (show ∀ w', Below w.heap.size w w' → RR (.returned (.bool true)) w' from fun w' hb => by rw [hRR]; exact ⟨rfl, hb⟩)
  rw [← hRR]
  have HC := Lib.hid hc
  have HA := Lib.hid ha
  have HLC := Lib.hid (And.intro hlc hlen)
  obtain ⟨w9, hw9⟩ : ∃ w9, w9 = w := ⟨_, rfl⟩
  have HK : Keep w [] [] w9 := by rw [hw9]; exact Keep.begin hE _ (by intro r hr; cases hr)
  suffices hgo : Calls Tryd.prog 4 #[.slice a T.length c, .int .i64 m] w9 RR by rw [hw9] at hgo; exact hgo
  clear hw9 hRR hE hc ha
  go_enter Tryd.func4, Tryd.ntmps4
  refine wp_forget (n := 72) (L := [(1, .int .i64 m), (0, .slice a T.length c)]) (FrL.add (FrL.add (FrL.nil ?_ ?_) _ _ ?_) _ _ ?_) ?_
  iterate 4 rfl
  intro a9 F
  refine wp_seq ?_
  refine wp_region_lit ?_
  refine fr_ch F 1 [(4, .bool false)] (by kernel_rfl) ?_
  clear F a9
  intro a9 F
  refine wpList_nil ?_
  show Code.wp _ _ _ _ _
  refine wp_seq ?_
  cases hb : greatNs (T.map (·.1))
  rotate_left
  · skip
    refine wp_seq ?_
    refine wp_region_lit ?_
    refine fr_ch F 1 [(9, .slice a T.length c)] (by kernel_rfl) ?_
    clear F a9
    intro a9 F
    refine fr_call F (wanted_free rfl) 10 rfl (by decide) 9 #[.slice a T.length c] (by intro a' F'; have h9 := F'.at' 9 _ rfl; go_simp) (by have h := law26_Great HK.env T a c (HC.out.below HK.low) (fun x hx => (HA.out x hx).row.below HK.low) HLC.out.1 HLC.out.2; rw [hb] at h; exact h) ?_
    rintro e9 w8 ⟨rfl, hb8⟩
    replace HK := HK.below hb8
    clear hb8
    clear w9
    rename World => w9
    refine ⟨_, rfl, ?_⟩
    clear F a9
    intro a9 F
    refine fr_mv F (wanted_free rfl) 11 rfl (by decide) 10 rfl rfl ?_
    clear F a9
    intro a9 F
    refine fr_ch F 9 [(20, .bool true), (19, undef), (18, undef), (17, undef), (16, undef), (15, .bool true), (14, .bool true), (13, undef), (12, undef)] (by kernel_rfl) ?_
    clear F a9
    intro a9 F
    refine wpList_nil ?_
    show Code.wp _ _ _ _ _
    refine wp_cond_true (F.ev 20 rfl) ?_
    refine wp_seq ?_
    refine wp_region_lit ?_
    refine fr_call F (wanted_free rfl) 21 rfl (by decide) 10 #[] (by intro a' F'; go_simp) (law26_awake HK.env) ?_
    rintro e9 w8 ⟨rfl, hb8⟩
    replace HK := HK.below hb8
    clear hb8
    clear w9
    rename World => w9
    refine ⟨_, rfl, ?_⟩
    clear F a9
    intro a9 F
    refine fr_as F (wanted_free rfl) 4 rfl (by decide) 21 rfl rfl ?_
    clear F a9
    intro a9 F
    refine wpList_nil ?_
    show Code.wp _ _ _ _ _
    refine wp_ret ?_
    exact fr_ret1 F rfl _ rfl (FIN.out _ HK.low)
  by_cases h2 : m < 0
  · skip
    refine wp_seq ?_
    refine wp_region_lit ?_
    refine fr_mv F (wanted_free rfl) 9 rfl (by decide) 0 rfl rfl ?_
    clear F a9
    intro a9 F
    refine fr_call F (wanted_free rfl) 10 rfl (by decide) 9 #[.slice a T.length c] (by intro a' F'; have h9 := F'.at' 9 _ rfl; go_simp) (by have h := law26_Great HK.env T a c (HC.out.below HK.low) (fun x hx => (HA.out x hx).row.below HK.low) HLC.out.1 HLC.out.2; rw [hb] at h; exact h) ?_
    rintro e9 w8 ⟨rfl, hb8⟩
    replace HK := HK.below hb8
    clear hb8
    clear w9
    rename World => w9
    refine ⟨_, rfl, ?_⟩
    clear F a9
    intro a9 F
    refine fr_mv F (wanted_free rfl) 11 rfl (by decide) 10 rfl rfl ?_
    clear F a9
    intro a9 F
    refine fr_mv F (by rw [wanted_at F rfl (t := 11) (b := false) (by kernel_rfl) rfl]; rfl) 12 rfl (by decide) 1 rfl rfl ?_
    clear F a9
    intro a9 F
    refine fr_do F (by rw [wanted_at F rfl (t := 11) (b := false) (by kernel_rfl) rfl]; rfl) 13 rfl (by decide) (.bool true) (by intro a' F'; have h12 := F'.at' 12 _ rfl; go_simp) ?_
    clear F a9
    intro a9 F
    refine fr_ch F 7 [(20, .bool true), (19, undef), (18, undef), (17, undef), (16, undef), (15, .bool true), (14, .bool true)] (by kernel_rfl) ?_
    clear F a9
    intro a9 F
    refine wpList_nil ?_
    show Code.wp _ _ _ _ _
    refine wp_cond_true (F.ev 20 rfl) ?_
    refine wp_seq ?_
    refine wp_region_lit ?_
    refine fr_call F (wanted_free rfl) 21 rfl (by decide) 10 #[] (by intro a' F'; go_simp) (law26_awake HK.env) ?_
    rintro e9 w8 ⟨rfl, hb8⟩
    replace HK := HK.below hb8
    clear hb8
    clear w9
    rename World => w9
    refine ⟨_, rfl, ?_⟩
    clear F a9
    intro a9 F
    refine fr_as F (wanted_free rfl) 4 rfl (by decide) 21 rfl rfl ?_
    clear F a9
    intro a9 F
    refine wpList_nil ?_
    show Code.wp _ _ _ _ _
    refine wp_ret ?_
    exact fr_ret1 F rfl _ rfl (FIN.out _ HK.low)
  by_cases h3 : (T.length : Int) < m
  · skip
    refine wp_seq ?_
    refine wp_region_lit ?_
    refine fr_mv F (wanted_free rfl) 9 rfl (by decide) 0 rfl rfl ?_
    clear F a9
    intro a9 F
    refine fr_call F (wanted_free rfl) 10 rfl (by decide) 9 #[.slice a T.length c] (by intro a' F'; have h9 := F'.at' 9 _ rfl; go_simp) (by have h := law26_Great HK.env T a c (HC.out.below HK.low) (fun x hx => (HA.out x hx).row.below HK.low) HLC.out.1 HLC.out.2; rw [hb] at h; exact h) ?_
    rintro e9 w8 ⟨rfl, hb8⟩
    replace HK := HK.below hb8
    clear hb8
    clear w9
    rename World => w9
    refine ⟨_, rfl, ?_⟩
    clear F a9
    intro a9 F
    refine fr_mv F (wanted_free rfl) 11 rfl (by decide) 10 rfl rfl ?_
    clear F a9
    intro a9 F
    refine fr_mv F (by rw [wanted_at F rfl (t := 11) (b := false) (by kernel_rfl) rfl]; rfl) 12 rfl (by decide) 1 rfl rfl ?_
    clear F a9
    intro a9 F
    refine fr_do F (by rw [wanted_at F rfl (t := 11) (b := false) (by kernel_rfl) rfl]; rfl) 13 rfl (by decide) (.bool false) (by intro a' F'; have h12 := F'.at' 12 _ rfl; go_simp) ?_
    clear F a9
    intro a9 F
    refine fr_ch F 2 [(15, .bool false), (14, .bool false)] (by kernel_rfl) ?_
    clear F a9
    intro a9 F
    refine fr_mv F (by rw [wanted_at F rfl (t := 15) (b := false) (by kernel_rfl) rfl]; rfl) 16 rfl (by decide) 1 rfl rfl ?_
    clear F a9
    intro a9 F
    refine fr_mv F (by rw [wanted_at F rfl (t := 15) (b := false) (by kernel_rfl) rfl]; rfl) 17 rfl (by decide) 0 rfl rfl ?_
    clear F a9
    intro a9 F
    refine fr_ch F 1 [(18, .int .i64 (T.length : Int))] (by kernel_rfl) ?_
    clear F a9
    intro a9 F
    refine fr_do F (by rw [wanted_at F rfl (t := 15) (b := false) (by kernel_rfl) rfl]; rfl) 19 rfl (by decide) (.bool true) (by intro a' F'; have h16 := F'.at' 16 _ rfl; have h18 := F'.at' 18 _ rfl; go_simp) ?_
    clear F a9
    intro a9 F
    refine fr_ch F 1 [(20, .bool true)] (by kernel_rfl) ?_
    clear F a9
    intro a9 F
    refine wpList_nil ?_
    show Code.wp _ _ _ _ _
    refine wp_cond_true (F.ev 20 rfl) ?_
    refine wp_seq ?_
    refine wp_region_lit ?_
    refine fr_call F (wanted_free rfl) 21 rfl (by decide) 10 #[] (by intro a' F'; go_simp) (law26_awake HK.env) ?_
    rintro e9 w8 ⟨rfl, hb8⟩
    replace HK := HK.below hb8
    clear hb8
    clear w9
    rename World => w9
    refine ⟨_, rfl, ?_⟩
    clear F a9
    intro a9 F
    refine fr_as F (wanted_free rfl) 4 rfl (by decide) 21 rfl rfl ?_
    clear F a9
    intro a9 F
    refine wpList_nil ?_
    show Code.wp _ _ _ _ _
    refine wp_ret ?_
    exact fr_ret1 F rfl _ rfl (FIN.out _ HK.low)
  refine wp_seq ?_
  refine wp_region_lit ?_
  refine fr_mv F (wanted_free rfl) 9 rfl (by decide) 0 rfl rfl ?_
  clear F a9
  intro a9 F
  refine fr_call F (wanted_free rfl) 10 rfl (by decide) 9 #[.slice a T.length c] (by intro a' F'; have h9 := F'.at' 9 _ rfl; go_simp) (by have h := law26_Great HK.env T a c (HC.out.below HK.low) (fun x hx => (HA.out x hx).row.below HK.low) HLC.out.1 HLC.out.2; rw [hb] at h; exact h) ?_
  rintro e9 w8 ⟨rfl, hb8⟩
  replace HK := HK.below hb8
  clear hb8
  clear w9
  rename World => w9
  refine ⟨_, rfl, ?_⟩
  clear F a9
  intro a9 F
  refine fr_mv F (wanted_free rfl) 11 rfl (by decide) 10 rfl rfl ?_
  clear F a9
  intro a9 F
  refine fr_mv F (by rw [wanted_at F rfl (t := 11) (b := false) (by kernel_rfl) rfl]; rfl) 12 rfl (by decide) 1 rfl rfl ?_
  clear F a9
  intro a9 F
  refine fr_do F (by rw [wanted_at F rfl (t := 11) (b := false) (by kernel_rfl) rfl]; rfl) 13 rfl (by decide) (.bool false) (by intro a' F'; have h12 := F'.at' 12 _ rfl; go_simp) ?_
  clear F a9
  intro a9 F
  refine fr_ch F 2 [(15, .bool false), (14, .bool false)] (by kernel_rfl) ?_
  clear F a9
  intro a9 F
  refine fr_mv F (by rw [wanted_at F rfl (t := 15) (b := false) (by kernel_rfl) rfl]; rfl) 16 rfl (by decide) 1 rfl rfl ?_
  clear F a9
  intro a9 F
  refine fr_mv F (by rw [wanted_at F rfl (t := 15) (b := false) (by kernel_rfl) rfl]; rfl) 17 rfl (by decide) 0 rfl rfl ?_
  clear F a9
  intro a9 F
  refine fr_ch F 1 [(18, .int .i64 (T.length : Int))] (by kernel_rfl) ?_
  clear F a9
  intro a9 F
  refine fr_do F (by rw [wanted_at F rfl (t := 15) (b := false) (by kernel_rfl) rfl]; rfl) 19 rfl (by decide) (.bool false) (by intro a' F'; have h16 := F'.at' 16 _ rfl; have h18 := F'.at' 18 _ rfl; go_simp) ?_
  clear F a9
  intro a9 F
  refine fr_ch F 1 [(20, .bool false)] (by kernel_rfl) ?_
  clear F a9
  intro a9 F
  refine wpList_nil ?_
  show Code.wp _ _ _ _ _
  refine wp_cond_false (F.ev 20 rfl) ?_
  refine wp_skip ?_
  show Code.wp _ _ _ _ _
  replace F := F.cut [(4, .bool false), (1, .int .i64 m), (0, .slice a T.length c)] (by kernel_rfl)
  obtain ⟨k, rfl⟩ : ∃ k : Nat, m = (k : Int) := ⟨m.toNat, by omega⟩
  have hk : k ≤ T.length := by omega
  obtain ⟨hgd, hfew⟩ := goods HA.out hb
  have HG := Lib.hid hgd
  have HF := Lib.hid hfew
  clear hgd hfew
  have hbg := begins (T.map (·.1)) k (by rw [List.length_map]; exact hk)
  obtain ⟨r, hr⟩ : ∃ r, checkL (T.map (·.1)) = r := ⟨_, rfl⟩
  obtain ⟨i1, y1⟩ := r
  rw [hr] at hbg
  simp only at hbg
  have HR := Lib.hid hr
  have HBG := Lib.hid hbg
  clear hr hbg
  refine wp_seq ?_
  refine wp_region_lit ?_
  refine fr_ch F 1 [(23, .slice a T.length c)] (by kernel_rfl) ?_
  clear F a9
  intro a9 F
  refine fr_call F (wanted_free rfl) 24 rfl (by decide) 11 #[.slice a T.length c] (by intro a' F'; have h23 := F'.at' 23 _ rfl; go_simp) (by have h := check_at (a := a) (m := T.length) (c := c) HK.env HK.low (HC.out.below HK.low) HG.out (by have := HF.out; omega) rfl rfl; rw [HR.out] at h; exact h) ?_
  rintro e9 w8 ⟨rfl, hb8⟩
  replace HK := HK.below hb8
  clear hb8
  clear w9
  rename World => w9
  refine ⟨_, rfl, ?_⟩
  clear F a9
  intro a9 F
  refine fr_mv F (wanted_free rfl) 22 rfl (by decide) 24 rfl rfl ?_
  clear F a9
  intro a9 F
  refine fr_ch F 4 [(6, .int .u8 (y1 : Int)), (5, .int .i64 i1), (26, .int .u8 (y1 : Int)), (25, .int .i64 i1)] (by kernel_rfl) ?_
  clear F a9
  intro a9 F
  refine wpList_nil ?_
  show Code.wp _ _ _ _ _
  replace F := F.cut [(6, .int .u8 (y1 : Int)), (5, .int .i64 i1), (4, .bool false), (1, .int .i64 (k : Int)), (0, .slice a T.length c)] (by kernel_rfl)
  by_cases h4 : i1 < 0 ∨ (k : Int) ≤ i1
  · skip
    obtain ⟨e1, e2⟩ := HBG.out.1 h4
    have HE := Lib.hid e1
    clear e1
    obtain ⟨i0, hi, hz0, hz1, hz2⟩ := info_parts infoNtR
    refine wp_seq ?_
    refine wp_region_lit ?_
    refine fr_ch F 2 [(29, .int .i64 (k : Int)), (28, .slice a T.length c)] (by kernel_rfl) ?_
    clear F a9
    intro a9 F
    refine fr_do F (wanted_free rfl) 30 rfl (by decide) (.slice (if c = 0 then a else a.map (·.add 0)) k c) (fun a' F' => op_cutH Tryd.underlying22 hi hz1 rfl (F'.ev 28 rfl) (F'.ev 29 rfl) (Nat.le_trans hk HLC.out.1) rfl) ?_
    clear F a9
    intro a9 F
    refine fr_call F (wanted_free rfl) 31 rfl (by decide) 11 #[.slice (if c = 0 then a else a.map (·.add 0)) k c] (by intro a' F'; have h30 := F'.at' 30 _ rfl; go_simp) (by have h := check_at (a := (if c = 0 then a else a.map (·.add 0))) (m := k) (c := c) (l := (T.map (·.1)).take k) (T := T.take k) HK.env HK.low (cells_ahead (HC.out.below HK.low)) (fun x hx => HG.out x (List.mem_of_mem_take hx)) (by rw [List.length_take]; have := HF.out; omega) (by rw [List.length_take]; omega) List.map_take; rw [HE.out] at h; exact h) ?_
    rintro e9 w8 ⟨rfl, hb8⟩
    replace HK := HK.below hb8
    clear hb8
    clear w9
    rename World => w9
    refine ⟨_, rfl, ?_⟩
    clear F a9
    intro a9 F
    refine fr_mv F (wanted_free rfl) 27 rfl (by decide) 31 rfl rfl ?_
    clear F a9
    intro a9 F
    refine fr_ch F 4 [(8, .int .u8 0), (7, .int .i64 (-1)), (33, .int .u8 0), (32, .int .i64 (-1))] (by kernel_rfl) ?_
    clear F a9
    intro a9 F
    refine wpList_nil ?_
    show Code.wp _ _ _ _ _
    clear hi hz0 hz1 hz2 i0
    replace F := F.cut [(8, .int .u8 0), (7, .int .i64 (-1)), (6, .int .u8 (y1 : Int)), (5, .int .i64 i1), (4, .bool false), (1, .int .i64 (k : Int))] (by kernel_rfl)
    by_cases h5 : i1 < 0
    · skip
      have h6 : y1 = 0 := by omega
      refine wp_seq ?_
      refine wp_seq ?_
      refine wp_region_lit ?_
      refine fr_ch F 1 [(34, .int .i64 i1)] (by kernel_rfl) ?_
      clear F a9
      intro a9 F
      refine fr_do F (wanted_free rfl) 35 rfl (by decide) (.bool true) (by intro a' F'; have h34 := F'.at' 34 _ rfl; go_simp) ?_
      clear F a9
      intro a9 F
      refine fr_ch F 5 [(40, .bool true), (39, undef), (38, undef), (37, undef), (36, .bool true)] (by kernel_rfl) ?_
      clear F a9
      intro a9 F
      refine wpList_nil ?_
      show Code.wp _ _ _ _ _
      refine wp_cond_true (F.ev 40 rfl) ?_
      refine wp_seq ?_
      refine wp_region_lit ?_
      refine fr_mv F (wanted_free rfl) 41 rfl (by decide) 7 rfl rfl ?_
      clear F a9
      intro a9 F
      refine fr_ch F 2 [(43, .bool true), (42, .bool true)] (by kernel_rfl) ?_
      clear F a9
      intro a9 F
      refine fr_mv F (by rw [wanted_at F rfl (t := 43) (b := true) (by kernel_rfl) rfl]; rfl) 44 rfl (by decide) 8 rfl rfl ?_
      clear F a9
      intro a9 F
      refine fr_ch F 3 [(47, .bool true), (46, .bool true), (45, .bool true)] (by kernel_rfl) ?_
      clear F a9
      intro a9 F
      refine fr_mv F (by rw [wanted_at F rfl (t := 47) (b := true) (by kernel_rfl) rfl]; rfl) 48 rfl (by decide) 5 rfl rfl ?_
      clear F a9
      intro a9 F
      refine fr_do F (by rw [wanted_at F rfl (t := 47) (b := true) (by kernel_rfl) rfl]; rfl) 49 rfl (by decide) (.bool true) (by intro a' F'; have h48 := F'.at' 48 _ rfl; go_simp) ?_
      clear F a9
      intro a9 F
      refine fr_mv F (by rw [wanted_at F rfl (t := 47) (b := true) (by kernel_rfl) rfl]; rfl) 50 rfl (by decide) 6 rfl rfl ?_
      clear F a9
      intro a9 F
      refine fr_do F (by rw [wanted_at F rfl (t := 47) (b := true) (by kernel_rfl) rfl]; rfl) 51 rfl (by decide) (.bool true) (by intro a' F'; have h50 := F'.at' 50 _ rfl; go_simp) ?_
      clear F a9
      intro a9 F
      refine fr_ch F 3 [(54, .bool true), (53, .bool true), (52, .bool true)] (by kernel_rfl) ?_
      clear F a9
      intro a9 F
      refine fr_call F (by rw [wanted_at F rfl (t := 54) (b := true) (by kernel_rfl) rfl]; rfl) 55 rfl (by decide) 10 #[] (by intro a' F'; go_simp) (law26_awake HK.env) ?_
      rintro e9 w8 ⟨rfl, hb8⟩
      replace HK := HK.below hb8
      clear hb8
      clear w9
      rename World => w9
      refine ⟨_, rfl, ?_⟩
      clear F a9
      intro a9 F
      refine fr_ch F 2 [(4, .bool true), (56, .bool true)] (by kernel_rfl) ?_
      clear F a9
      intro a9 F
      refine wpList_nil ?_
      show Code.wp _ _ _ _ _
      refine wp_ret ?_
      exact fr_ret1 F rfl _ rfl (FIN.out _ HK.low)
    · skip
      have h6 : ¬ y1 = 0 := by omega
      refine wp_seq ?_
      refine wp_seq ?_
      refine wp_region_lit ?_
      refine fr_mv F (wanted_free rfl) 34 rfl (by decide) 5 rfl rfl ?_
      clear F a9
      intro a9 F
      refine fr_do F (wanted_free rfl) 35 rfl (by decide) (.bool false) (by intro a' F'; have h34 := F'.at' 34 _ rfl; go_simp) ?_
      clear F a9
      intro a9 F
      refine fr_ch F 1 [(36, .bool false)] (by kernel_rfl) ?_
      clear F a9
      intro a9 F
      refine fr_mv F (by rw [wanted_at F rfl (t := 36) (b := false) (by kernel_rfl) rfl]; rfl) 37 rfl (by decide) 5 rfl rfl ?_
      clear F a9
      intro a9 F
      refine fr_mv F (by rw [wanted_at F rfl (t := 36) (b := false) (by kernel_rfl) rfl]; rfl) 38 rfl (by decide) 1 rfl rfl ?_
      clear F a9
      intro a9 F
      refine fr_do F (by rw [wanted_at F rfl (t := 36) (b := false) (by kernel_rfl) rfl]; rfl) 39 rfl (by decide) (.bool true) (by intro a' F'; have h37 := F'.at' 37 _ rfl; have h38 := F'.at' 38 _ rfl; go_simp <;> omega) ?_
      clear F a9
      intro a9 F
      refine fr_ch F 1 [(40, .bool true)] (by kernel_rfl) ?_
      clear F a9
      intro a9 F
      refine wpList_nil ?_
      show Code.wp _ _ _ _ _
      refine wp_cond_true (F.ev 40 rfl) ?_
      refine wp_seq ?_
      refine wp_region_lit ?_
      refine fr_mv F (wanted_free rfl) 41 rfl (by decide) 7 rfl rfl ?_
      clear F a9
      intro a9 F
      refine fr_ch F 2 [(43, .bool true), (42, .bool true)] (by kernel_rfl) ?_
      clear F a9
      intro a9 F
      refine fr_mv F (by rw [wanted_at F rfl (t := 43) (b := true) (by kernel_rfl) rfl]; rfl) 44 rfl (by decide) 8 rfl rfl ?_
      clear F a9
      intro a9 F
      refine fr_ch F 3 [(47, .bool true), (46, .bool true), (45, .bool true)] (by kernel_rfl) ?_
      clear F a9
      intro a9 F
      refine fr_mv F (by rw [wanted_at F rfl (t := 47) (b := true) (by kernel_rfl) rfl]; rfl) 48 rfl (by decide) 5 rfl rfl ?_
      clear F a9
      intro a9 F
      refine fr_do F (by rw [wanted_at F rfl (t := 47) (b := true) (by kernel_rfl) rfl]; rfl) 49 rfl (by decide) (.bool false) (by intro a' F'; have h48 := F'.at' 48 _ rfl; go_simp) ?_
      clear F a9
      intro a9 F
      refine fr_mv F (by rw [wanted_at F rfl (t := 47) (b := true) (by kernel_rfl) rfl]; rfl) 50 rfl (by decide) 6 rfl rfl ?_
      clear F a9
      intro a9 F
      refine fr_do F (by rw [wanted_at F rfl (t := 47) (b := true) (by kernel_rfl) rfl]; rfl) 51 rfl (by decide) (.bool false) (by intro a' F'; have h50 := F'.at' 50 _ rfl; go_simp) ?_
      clear F a9
      intro a9 F
      refine fr_ch F 3 [(54, .bool true), (53, .bool true), (52, .bool true)] (by kernel_rfl) ?_
      clear F a9
      intro a9 F
      refine fr_call F (by rw [wanted_at F rfl (t := 54) (b := true) (by kernel_rfl) rfl]; rfl) 55 rfl (by decide) 10 #[] (by intro a' F'; go_simp) (law26_awake HK.env) ?_
      rintro e9 w8 ⟨rfl, hb8⟩
      replace HK := HK.below hb8
      clear hb8
      clear w9
      rename World => w9
      refine ⟨_, rfl, ?_⟩
      clear F a9
      intro a9 F
      refine fr_ch F 2 [(4, .bool true), (56, .bool true)] (by kernel_rfl) ?_
      clear F a9
      intro a9 F
      refine wpList_nil ?_
      show Code.wp _ _ _ _ _
      refine wp_ret ?_
      exact fr_ret1 F rfl _ rfl (FIN.out _ HK.low)
  · skip
    obtain ⟨e1, e2⟩ := HBG.out.2 h4
    have HE := Lib.hid e1
    clear e1
    obtain ⟨i0, hi, hz0, hz1, hz2⟩ := info_parts infoNtR
    refine wp_seq ?_
    refine wp_region_lit ?_
    refine fr_mv F (wanted_free rfl) 28 rfl (by decide) 0 rfl rfl ?_
    clear F a9
    intro a9 F
    refine fr_mv F (wanted_free rfl) 29 rfl (by decide) 1 rfl rfl ?_
    clear F a9
    intro a9 F
    refine fr_do F (wanted_free rfl) 30 rfl (by decide) (.slice (if c = 0 then a else a.map (·.add 0)) k c) (fun a' F' => op_cutH Tryd.underlying22 hi hz1 rfl (F'.ev 28 rfl) (F'.ev 29 rfl) (Nat.le_trans hk HLC.out.1) rfl) ?_
    clear F a9
    intro a9 F
    refine fr_call F (wanted_free rfl) 31 rfl (by decide) 11 #[.slice (if c = 0 then a else a.map (·.add 0)) k c] (by intro a' F'; have h30 := F'.at' 30 _ rfl; go_simp) (by have h := check_at (a := (if c = 0 then a else a.map (·.add 0))) (m := k) (c := c) (l := (T.map (·.1)).take k) (T := T.take k) HK.env HK.low (cells_ahead (HC.out.below HK.low)) (fun x hx => HG.out x (List.mem_of_mem_take hx)) (by rw [List.length_take]; have := HF.out; omega) (by rw [List.length_take]; omega) List.map_take; rw [HE.out] at h; exact h) ?_
    rintro e9 w8 ⟨rfl, hb8⟩
    replace HK := HK.below hb8
    clear hb8
    clear w9
    rename World => w9
    refine ⟨_, rfl, ?_⟩
    clear F a9
    intro a9 F
    refine fr_mv F (wanted_free rfl) 27 rfl (by decide) 31 rfl rfl ?_
    clear F a9
    intro a9 F
    refine fr_ch F 4 [(8, .int .u8 (y1 : Int)), (7, .int .i64 i1), (33, .int .u8 (y1 : Int)), (32, .int .i64 i1)] (by kernel_rfl) ?_
    clear F a9
    intro a9 F
    refine wpList_nil ?_
    show Code.wp _ _ _ _ _
    clear hi hz0 hz1 hz2 i0
    replace F := F.cut [(8, .int .u8 (y1 : Int)), (7, .int .i64 i1), (6, .int .u8 (y1 : Int)), (5, .int .i64 i1), (4, .bool false), (1, .int .i64 (k : Int))] (by kernel_rfl)
    refine wp_seq ?_
    refine wp_seq ?_
    refine wp_region_lit ?_
    refine fr_ch F 1 [(34, .int .i64 i1)] (by kernel_rfl) ?_
    clear F a9
    intro a9 F
    refine fr_do F (wanted_free rfl) 35 rfl (by decide) (.bool false) (by intro a' F'; have h34 := F'.at' 34 _ rfl; go_simp <;> omega) ?_
    clear F a9
    intro a9 F
    refine fr_ch F 1 [(36, .bool false)] (by kernel_rfl) ?_
    clear F a9
    intro a9 F
    refine fr_mv F (by rw [wanted_at F rfl (t := 36) (b := false) (by kernel_rfl) rfl]; rfl) 37 rfl (by decide) 5 rfl rfl ?_
    clear F a9
    intro a9 F
    refine fr_mv F (by rw [wanted_at F rfl (t := 36) (b := false) (by kernel_rfl) rfl]; rfl) 38 rfl (by decide) 1 rfl rfl ?_
    clear F a9
    intro a9 F
    refine fr_do F (by rw [wanted_at F rfl (t := 36) (b := false) (by kernel_rfl) rfl]; rfl) 39 rfl (by decide) (.bool false) (by intro a' F'; have h37 := F'.at' 37 _ rfl; have h38 := F'.at' 38 _ rfl; go_simp <;> omega) ?_
    clear F a9
    intro a9 F
    refine fr_ch F 1 [(40, .bool false)] (by kernel_rfl) ?_
    clear F a9
    intro a9 F
    refine wpList_nil ?_
    show Code.wp _ _ _ _ _
    refine wp_cond_false (F.ev 40 rfl) ?_
    refine wp_skip ?_
    show Code.wp _ _ _ _ _
    refine wp_seq ?_
    refine wp_region_lit ?_
    refine fr_mv F (wanted_free rfl) 57 rfl (by decide) 7 rfl rfl ?_
    clear F a9
    intro a9 F
    refine fr_mv F (wanted_free rfl) 58 rfl (by decide) 5 rfl rfl ?_
    clear F a9
    intro a9 F
    refine fr_do F (wanted_free rfl) 59 rfl (by decide) (.bool true) (by intro a' F'; have h57 := F'.at' 57 _ rfl; have h58 := F'.at' 58 _ rfl; go_simp) ?_
    clear F a9
    intro a9 F
    refine fr_ch F 1 [(60, .bool true)] (by kernel_rfl) ?_
    clear F a9
    intro a9 F
    refine fr_mv F (by rw [wanted_at F rfl (t := 60) (b := true) (by kernel_rfl) rfl]; rfl) 61 rfl (by decide) 8 rfl rfl ?_
    clear F a9
    intro a9 F
    refine fr_mv F (by rw [wanted_at F rfl (t := 60) (b := true) (by kernel_rfl) rfl]; rfl) 62 rfl (by decide) 6 rfl rfl ?_
    clear F a9
    intro a9 F
    refine fr_do F (by rw [wanted_at F rfl (t := 60) (b := true) (by kernel_rfl) rfl]; rfl) 63 rfl (by decide) (.bool true) (by intro a' F'; have h61 := F'.at' 61 _ rfl; have h62 := F'.at' 62 _ rfl; go_simp) ?_
    clear F a9
    intro a9 F
    refine fr_ch F 2 [(65, .bool true), (64, .bool true)] (by kernel_rfl) ?_
    clear F a9
    intro a9 F
    refine fr_mv F (by rw [wanted_at F rfl (t := 65) (b := true) (by kernel_rfl) rfl]; rfl) 66 rfl (by decide) 6 rfl rfl ?_
    clear F a9
    intro a9 F
    refine fr_do F (by rw [wanted_at F rfl (t := 65) (b := true) (by kernel_rfl) rfl]; rfl) 67 rfl (by decide) (.bool true) (by intro a' F'; have h66 := F'.at' 66 _ rfl; go_simp) ?_
    clear F a9
    intro a9 F
    refine fr_ch F 2 [(69, .bool true), (68, .bool true)] (by kernel_rfl) ?_
    clear F a9
    intro a9 F
    refine fr_call F (by rw [wanted_at F rfl (t := 69) (b := true) (by kernel_rfl) rfl]; rfl) 70 rfl (by decide) 10 #[] (by intro a' F'; go_simp) (law26_awake HK.env) ?_
    rintro e9 w8 ⟨rfl, hb8⟩
    replace HK := HK.below hb8
    clear hb8
    clear w9
    rename World => w9
    refine ⟨_, rfl, ?_⟩
    clear F a9
    intro a9 F
    refine fr_ch F 2 [(4, .bool true), (71, .bool true)] (by kernel_rfl) ?_
    clear F a9
    intro a9 F
    refine wpList_nil ?_
    show Code.wp _ _ _ _ _
    refine wp_ret ?_
    exact fr_ret1 F rfl _ rfl (FIN.out _ HK.low)
end Go.Proofs.YtmppkgonkkffhaaDoor
