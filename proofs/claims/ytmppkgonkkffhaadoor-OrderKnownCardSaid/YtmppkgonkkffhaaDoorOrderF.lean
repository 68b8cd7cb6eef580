/- The walks of order.keeps, tells. Conditions: notes lie where the pointers are, below the caller's memory; bounds on their texts; the model lies behind its pointer. -/
import Derived.Test.YtmppkgonkkffhaaDoorOrderE
import Derived.Test.YtmppkgonkkffhaaDoorFrameT
namespace Go.Proofs.YtmppkgonkkffhaaDoor
open Go.RowKit
def sameT (s d n : Nt) : Bool := byP s n && (decide (n.codes = d.codes) && decide (n.present = d.present))
set_option maxRecDepth 100000 in
set_option maxHeartbeats 4000000 in
theorem keeps_no1 {w0 w : World} {p N q : Nat} {x : Pa} {n : Nt} {a : Option Addr} {c : Nat} (kv : Value) (HK : Keep w0 [] [] w) (HP : BoxAt w p (paV N x) 83) (hpl : w0.heap.size ≤ p) (hn : NtAt w0 N q n a c) (hx : x.routes = none) : Calls Tryd.prog 27 #[kv, .pointer (some ⟨p, 0, none⟩), .pointer (some ⟨N, q, none⟩)] w (RetS w0 w p N (2) ({ x with keeps := some q })) := by
  obtain ⟨RR, hRR⟩ : ∃ RR : Ending → World → Prop, RR = RetS w0 w p N (2) ({ x with keeps := some q }) := ⟨_, rfl⟩
  have FIN := Lib.hid (show ∀ r w', r = 2 → BoxAt w' p (paV N ({ x with keeps := some q })) 83 → Only (fun j => j = p) w w' → Keep w0 [] [] w' → RR (.returned (.int .u8 (r : Int))) w' from fun r w' h1 h2 h3 h4 => by rw [hRR, h1]; exact ⟨rfl, h2, h3, h4⟩)
  rw [← hRR]
  have HN0 := Lib.hid hn
  obtain ⟨w9, hw9⟩ : ∃ w9, w9 = w := ⟨_, rfl⟩
  have HON : Only (fun j => j = p) w w9 := by rw [hw9]; exact Only.refl _ _
  rw [← hw9] at HK HP
  suffices hgo : Calls Tryd.prog 27 #[kv, .pointer (some ⟨p, 0, none⟩), .pointer (some ⟨N, q, none⟩)] w9 RR by rw [hw9] at hgo; exact hgo
  clear hw9 hRR hn
  go_enter Tryd.func27, Tryd.ntmps27
  refine wp_forget (n := 76) (L := [(2, .pointer (some ⟨N, q, none⟩)), (1, .pointer (some ⟨p, 0, none⟩)), (0, kv)]) (FrL.add (FrL.add (FrL.add (FrL.nil ?_ ?_) _ _ ?_) _ _ ?_) _ _ ?_) ?_
  iterate 5 rfl
  intro a9 F
  refine wp_seq ?_
  refine wp_region_lit ?_
  refine fr_ch F 1 [(6, .int .u8 0)] (by kernel_rfl) ?_
  clear F a9
  intro a9 F
  refine wpList_nil ?_
  show Code.wp _ _ _ _ _
  refine wp_seq ?_
  refine wp_region_lit ?_
  refine fr_ch F 3 [(11, .pointer (some ⟨p, 2, none⟩)), (10, .pointer (some ⟨p, 0, none⟩)), (9, .pointer (some ⟨p, 0, none⟩))] (by kernel_rfl) ?_
  clear F a9
  intro a9 F
  refine fr_do F (wanted_free rfl) 12 rfl (by decide) (.pointer none) (by intro a' F'; have h11 := F'.at' 11 _ rfl; have hc : w9.cell? ⟨p, 2, none⟩ = some (.pointer none) := (HP.cells 2).trans (congrArg (fun z => some (ptrN N z)) hx); go_simp) ?_
  clear F a9
  intro a9 F
  refine fr_ch F 16 [(7, .bool false), (27, .bool false), (26, undef), (25, undef), (24, undef), (23, undef), (22, undef), (21, .bool false), (20, .bool false), (19, undef), (18, undef), (17, undef), (16, undef), (15, undef), (14, .bool false), (13, .bool false)] (by kernel_rfl) ?_
  clear F a9
  intro a9 F
  refine wpList_nil ?_
  show Code.wp _ _ _ _ _
  replace F := F.cut [(7, .bool false), (6, .int .u8 0), (2, .pointer (some ⟨N, q, none⟩)), (1, .pointer (some ⟨p, 0, none⟩)), (0, kv)] (by kernel_rfl)
  refine wp_seq ?_
  refine wp_region_noPanic ?_
  have hb8 : Below w9.heap.size w9 w9.drew := below_draws (n := 1) rfl
  replace HK := HK.below hb8
  replace HP := HP.below hb8
  replace HON := HON.then hb8
  clear hb8
  refine AnyT.begin (S := fun _ => True) (z := 1000) (by kernel_rfl) trivial (fun hS0 => ?_)
  clear hS0
  generalize w9.drew = w8 at *
  clear w9
  rename World => w9
  refine fr_chT F [0, 1, 2, 3, 4, 5, 6, 7, 8, 9, 10, 11, 12, 13, 14, 15, 16, 17, 18, 19, 20, 21, 22, 23, 24, 25, 26, 27, 28, 29, 30, 31, 32, 33, 34, 35, 36] [(64, .bool false), (63, undef), (62, undef), (61, undef), (60, undef), (59, undef), (58, .bool false), (57, .bool false), (56, undef), (55, undef), (54, undef), (53, undef), (52, undef), (51, undef), (50, undef), (49, undef), (48, undef), (47, undef), (46, undef), (45, undef), (44, .bool false), (43, .bool false), (42, undef), (41, undef), (40, undef), (39, undef), (38, undef), (37, undef), (36, undef), (35, undef), (34, undef), (33, undef), (32, undef), (31, undef), (30, .bool false), (29, .bool false), (28, .bool false)] trivial (by kernel_rfl) ?_
  clear F a9
  intro a9 F
  refine fr_stepC (i := 37) (o := ⟨some 65, _, _, _, _, _⟩) F rfl (wanted_free rfl) 65 rfl (by decide) 46 #[.bool false, .bool false] (by intro a' F'; have h28 := F'.at' 28 _ rfl; have h64 := F'.at' 64 _ rfl; go_simp) (order_reason false false w9) ?_
  rintro e9 w8 ⟨rfl, hb8⟩
  replace HK := HK.below hb8
  replace HP := HP.below hb8
  replace HON := HON.then hb8
  clear hb8
  clear w9
  rename World => w9
  refine ⟨_, rfl, trivial, ?_⟩
  clear F a9
  intro a9 F
  refine fr_chT F [38] [(8, .int .u8 (reasonN false false : Int))] trivial (by kernel_rfl) ?_
  clear F a9
  intro a9 F
  refine AnyT.done (by kernel_rfl) ?_ _
  refine NoPanic.normal ?_
  show Code.wp _ _ _ _ _
  replace F := F.cut [(8, .int .u8 (reasonN false false : Int)), (6, .int .u8 0), (2, .pointer (some ⟨N, q, none⟩)), (1, .pointer (some ⟨p, 0, none⟩)), (0, kv)] (by kernel_rfl)
  have HK2 := HK.withBox ⟨p, paV N x, 83⟩ HP hpl (fun z hz => by cases hz)
  clear HK HP
  have HK := HK2
  clear HK2
  replace HK : Keep w0 [(p, (paV N x), 83)] [] w9 := HK
  refine wp_seq ?_
  refine wp_region_lit ?_
  refine fr_ch F 4 [(69, .pointer (some ⟨p, 3, none⟩)), (67, .pointer (some ⟨N, q, none⟩))] (by kernel_rfl) ?_
  clear F a9
  intro a9 F
  refine fr_putO F HK 0 rfl rfl rfl 52 _ _ rfl 3 (.pointer (some ⟨N, q, none⟩)) (fun a' F' => F'.ev 69 rfl) (fun a' F' => F'.ev 67 rfl) z_pn (Nat.le_of_ble_eq_true (by kernel_rfl)) (by kernel_rfl) ?_
  intro a10 w10 F' HK' HO
  replace HON := HON.trans HO (fun j _ h => h)
  clear HK F HO
  clear a9 w9
  rename World => w9
  rename Act => a9
  have HK := HK'
  have F := F'
  clear HK' F'
  replace HK : Keep w0 [(p, (paV N { x with keeps := some q }), 83)] [] w9 := HK
  refine wpList_nil ?_
  show Code.wp _ _ _ _ _
  refine wp_seq ?_
  refine wp_seq ?_
  refine wp_region_lit ?_
  refine fr_mv F (wanted_free rfl) 70 rfl (by decide) 8 rfl rfl ?_
  clear F a9
  intro a9 F
  refine fr_do F (wanted_free rfl) 71 rfl (by decide) (.bool false) (by intro a' F'; have h70 := F'.at' 70 _ rfl; go_simp <;> decide) ?_
  clear F a9
  intro a9 F
  refine wpList_nil ?_
  show Code.wp _ _ _ _ _
  refine wp_cond_false (F.ev 71 rfl) ?_
  refine wp_skip ?_
  show Code.wp _ _ _ _ _
  refine wp_seq ?_
  refine wp_region_lit ?_
  refine fr_mv F (wanted_free rfl) 75 rfl (by decide) 8 rfl rfl ?_
  clear F a9
  intro a9 F
  refine fr_as F (wanted_free rfl) 6 rfl (by decide) 75 rfl rfl ?_
  clear F a9
  intro a9 F
  refine wpList_nil ?_
  show Code.wp _ _ _ _ _
  refine wp_ret ?_
  exact fr_ret1 F rfl _ rfl (FIN.out _ _ (rfl) (HK.at 0 rfl) HON (HK.sub (List.nil_sublist _) (fun r hr => hr)))
set_option maxRecDepth 100000 in
set_option maxHeartbeats 4000000 in
theorem keeps_no2 {w0 w : World} {p N q : Nat} {x : Pa} {n : Nt} {a : Option Addr} {c : Nat} (kv : Value) (HK : Keep w0 [] [] w) (HP : BoxAt w p (paV N x) 83) (hpl : w0.heap.size ≤ p) (hn : NtAt w0 N q n a c) {r s : Nat} (hx : x.routes = some r) (hk : x.keeps = some s) : Calls Tryd.prog 27 #[kv, .pointer (some ⟨p, 0, none⟩), .pointer (some ⟨N, q, none⟩)] w (RetS w0 w p N (2) ({ x with keeps := some q })) := by
  obtain ⟨RR, hRR⟩ : ∃ RR : Ending → World → Prop, RR = RetS w0 w p N (2) ({ x with keeps := some q }) := ⟨_, rfl⟩
  have FIN := Lib.hid (show ∀ r w', r = 2 → BoxAt w' p (paV N ({ x with keeps := some q })) 83 → Only (fun j => j = p) w w' → Keep w0 [] [] w' → RR (.returned (.int .u8 (r : Int))) w' from fun r w' h1 h2 h3 h4 => by rw [hRR, h1]; exact ⟨rfl, h2, h3, h4⟩)
  rw [← hRR]
  have HN0 := Lib.hid hn
  obtain ⟨w9, hw9⟩ : ∃ w9, w9 = w := ⟨_, rfl⟩
  have HON : Only (fun j => j = p) w w9 := by rw [hw9]; exact Only.refl _ _
  rw [← hw9] at HK HP
  suffices hgo : Calls Tryd.prog 27 #[kv, .pointer (some ⟨p, 0, none⟩), .pointer (some ⟨N, q, none⟩)] w9 RR by rw [hw9] at hgo; exact hgo
  clear hw9 hRR hn
  go_enter Tryd.func27, Tryd.ntmps27
  refine wp_forget (n := 76) (L := [(2, .pointer (some ⟨N, q, none⟩)), (1, .pointer (some ⟨p, 0, none⟩)), (0, kv)]) (FrL.add (FrL.add (FrL.add (FrL.nil ?_ ?_) _ _ ?_) _ _ ?_) _ _ ?_) ?_
  iterate 5 rfl
  intro a9 F
  refine wp_seq ?_
  refine wp_region_lit ?_
  refine fr_ch F 1 [(6, .int .u8 0)] (by kernel_rfl) ?_
  clear F a9
  intro a9 F
  refine wpList_nil ?_
  show Code.wp _ _ _ _ _
  refine wp_seq ?_
  refine wp_region_lit ?_
  refine fr_ch F 3 [(11, .pointer (some ⟨p, 2, none⟩)), (10, .pointer (some ⟨p, 0, none⟩)), (9, .pointer (some ⟨p, 0, none⟩))] (by kernel_rfl) ?_
  clear F a9
  intro a9 F
  refine fr_do F (wanted_free rfl) 12 rfl (by decide) (.pointer (some ⟨N, r, none⟩)) (by intro a' F'; have h11 := F'.at' 11 _ rfl; have hc : w9.cell? ⟨p, 2, none⟩ = some (.pointer (some ⟨N, r, none⟩)) := (HP.cells 2).trans (congrArg (fun z => some (ptrN N z)) hx); go_simp) ?_
  clear F a9
  intro a9 F
  refine fr_ch F 2 [(14, .bool true), (13, .bool true)] (by kernel_rfl) ?_
  clear F a9
  intro a9 F
  refine fr_mv F (by rw [wanted_at F rfl (t := 14) (b := true) (by kernel_rfl) rfl]; rfl) 15 rfl (by decide) 1 rfl rfl ?_
  clear F a9
  intro a9 F
  refine fr_nc F (by rw [wanted_at F rfl (t := 14) (b := true) (by kernel_rfl) rfl]; rfl) 16 rfl (by decide) 15 rfl rfl ?_
  clear F a9
  intro a9 F
  refine fr_ch F 1 [(17, .pointer (some ⟨p, 3, none⟩))] (by kernel_rfl) ?_
  clear F a9
  intro a9 F
  refine fr_do F (by rw [wanted_at F rfl (t := 14) (b := true) (by kernel_rfl) rfl]; rfl) 18 rfl (by decide) (.pointer (some ⟨N, s, none⟩)) (by intro a' F'; have h17 := F'.at' 17 _ rfl; have hc : w9.cell? ⟨p, 3, none⟩ = some (.pointer (some ⟨N, s, none⟩)) := (HP.cells 3).trans (congrArg (fun z => some (ptrN N z)) hk); go_simp) ?_
  clear F a9
  intro a9 F
  refine fr_ch F 10 [(7, .bool false), (27, .bool false), (26, undef), (25, undef), (24, undef), (23, undef), (22, undef), (21, .bool false), (20, .bool false), (19, .bool false)] (by kernel_rfl) ?_
  clear F a9
  intro a9 F
  refine wpList_nil ?_
  show Code.wp _ _ _ _ _
  replace F := F.cut [(7, .bool false), (6, .int .u8 0), (2, .pointer (some ⟨N, q, none⟩)), (1, .pointer (some ⟨p, 0, none⟩)), (0, kv)] (by kernel_rfl)
  refine wp_seq ?_
  refine wp_region_noPanic ?_
  have hb8 : Below w9.heap.size w9 w9.drew := below_draws (n := 1) rfl
  replace HK := HK.below hb8
  replace HP := HP.below hb8
  replace HON := HON.then hb8
  clear hb8
  refine AnyT.begin (S := fun _ => True) (z := 1000) (by kernel_rfl) trivial (fun hS0 => ?_)
  clear hS0
  generalize w9.drew = w8 at *
  clear w9
  rename World => w9
  refine fr_chT F [0, 1, 2, 3, 4, 5, 6, 7, 8, 9, 10, 11, 12, 13, 14, 15, 16, 17, 18, 19, 20, 21, 22, 23, 24, 25, 26, 27, 28, 29, 30, 31, 32, 33, 34, 35, 36] [(64, .bool false), (63, undef), (62, undef), (61, undef), (60, undef), (59, undef), (58, .bool false), (57, .bool false), (56, undef), (55, undef), (54, undef), (53, undef), (52, undef), (51, undef), (50, undef), (49, undef), (48, undef), (47, undef), (46, undef), (45, undef), (44, .bool false), (43, .bool false), (42, undef), (41, undef), (40, undef), (39, undef), (38, undef), (37, undef), (36, undef), (35, undef), (34, undef), (33, undef), (32, undef), (31, undef), (30, .bool false), (29, .bool false), (28, .bool false)] trivial (by kernel_rfl) ?_
  clear F a9
  intro a9 F
  refine fr_stepC (i := 37) (o := ⟨some 65, _, _, _, _, _⟩) F rfl (wanted_free rfl) 65 rfl (by decide) 46 #[.bool false, .bool false] (by intro a' F'; have h28 := F'.at' 28 _ rfl; have h64 := F'.at' 64 _ rfl; go_simp) (order_reason false false w9) ?_
  rintro e9 w8 ⟨rfl, hb8⟩
  replace HK := HK.below hb8
  replace HP := HP.below hb8
  replace HON := HON.then hb8
  clear hb8
  clear w9
  rename World => w9
  refine ⟨_, rfl, trivial, ?_⟩
  clear F a9
  intro a9 F
  refine fr_chT F [38] [(8, .int .u8 (reasonN false false : Int))] trivial (by kernel_rfl) ?_
  clear F a9
  intro a9 F
  refine AnyT.done (by kernel_rfl) ?_ _
  refine NoPanic.normal ?_
  show Code.wp _ _ _ _ _
  replace F := F.cut [(8, .int .u8 (reasonN false false : Int)), (6, .int .u8 0), (2, .pointer (some ⟨N, q, none⟩)), (1, .pointer (some ⟨p, 0, none⟩)), (0, kv)] (by kernel_rfl)
  have HK2 := HK.withBox ⟨p, paV N x, 83⟩ HP hpl (fun z hz => by cases hz)
  clear HK HP
  have HK := HK2
  clear HK2
  replace HK : Keep w0 [(p, (paV N x), 83)] [] w9 := HK
  refine wp_seq ?_
  refine wp_region_lit ?_
  refine fr_ch F 4 [(69, .pointer (some ⟨p, 3, none⟩)), (67, .pointer (some ⟨N, q, none⟩))] (by kernel_rfl) ?_
  clear F a9
  intro a9 F
  refine fr_putO F HK 0 rfl rfl rfl 52 _ _ rfl 3 (.pointer (some ⟨N, q, none⟩)) (fun a' F' => F'.ev 69 rfl) (fun a' F' => F'.ev 67 rfl) z_pn (Nat.le_of_ble_eq_true (by kernel_rfl)) (by kernel_rfl) ?_
  intro a10 w10 F' HK' HO
  replace HON := HON.trans HO (fun j _ h => h)
  clear HK F HO
  clear a9 w9
  rename World => w9
  rename Act => a9
  have HK := HK'
  have F := F'
  clear HK' F'
  replace HK : Keep w0 [(p, (paV N { x with keeps := some q }), 83)] [] w9 := HK
  refine wpList_nil ?_
  show Code.wp _ _ _ _ _
  refine wp_seq ?_
  refine wp_seq ?_
  refine wp_region_lit ?_
  refine fr_mv F (wanted_free rfl) 70 rfl (by decide) 8 rfl rfl ?_
  clear F a9
  intro a9 F
  refine fr_do F (wanted_free rfl) 71 rfl (by decide) (.bool false) (by intro a' F'; have h70 := F'.at' 70 _ rfl; go_simp <;> decide) ?_
  clear F a9
  intro a9 F
  refine wpList_nil ?_
  show Code.wp _ _ _ _ _
  refine wp_cond_false (F.ev 71 rfl) ?_
  refine wp_skip ?_
  show Code.wp _ _ _ _ _
  refine wp_seq ?_
  refine wp_region_lit ?_
  refine fr_mv F (wanted_free rfl) 75 rfl (by decide) 8 rfl rfl ?_
  clear F a9
  intro a9 F
  refine fr_as F (wanted_free rfl) 6 rfl (by decide) 75 rfl rfl ?_
  clear F a9
  intro a9 F
  refine wpList_nil ?_
  show Code.wp _ _ _ _ _
  refine wp_ret ?_
  exact fr_ret1 F rfl _ rfl (FIN.out _ _ (rfl) (HK.at 0 rfl) HON (HK.sub (List.nil_sublist _) (fun r hr => hr)))
set_option maxRecDepth 100000 in
set_option maxHeartbeats 4000000 in
theorem keeps_no3 {w0 w : World} {p N q : Nat} {x : Pa} {n : Nt} {a : Option Addr} {c : Nat} (kv : Value) (HK : Keep w0 [] [] w) (HP : BoxAt w p (paV N x) 83) (hpl : w0.heap.size ≤ p) (hn : NtAt w0 N q n a c) {r t : Nat} (hx : x.routes = some r) (hk : x.keeps = none) (ht : x.tells = some t) : Calls Tryd.prog 27 #[kv, .pointer (some ⟨p, 0, none⟩), .pointer (some ⟨N, q, none⟩)] w (RetS w0 w p N (2) ({ x with keeps := some q })) := by
  obtain ⟨RR, hRR⟩ : ∃ RR : Ending → World → Prop, RR = RetS w0 w p N (2) ({ x with keeps := some q }) := ⟨_, rfl⟩
  have FIN := Lib.hid (show ∀ r w', r = 2 → BoxAt w' p (paV N ({ x with keeps := some q })) 83 → Only (fun j => j = p) w w' → Keep w0 [] [] w' → RR (.returned (.int .u8 (r : Int))) w' from fun r w' h1 h2 h3 h4 => by rw [hRR, h1]; exact ⟨rfl, h2, h3, h4⟩)
  rw [← hRR]
  have HN0 := Lib.hid hn
  obtain ⟨w9, hw9⟩ : ∃ w9, w9 = w := ⟨_, rfl⟩
  have HON : Only (fun j => j = p) w w9 := by rw [hw9]; exact Only.refl _ _
  rw [← hw9] at HK HP
  suffices hgo : Calls Tryd.prog 27 #[kv, .pointer (some ⟨p, 0, none⟩), .pointer (some ⟨N, q, none⟩)] w9 RR by rw [hw9] at hgo; exact hgo
  clear hw9 hRR hn
  go_enter Tryd.func27, Tryd.ntmps27
  refine wp_forget (n := 76) (L := [(2, .pointer (some ⟨N, q, none⟩)), (1, .pointer (some ⟨p, 0, none⟩)), (0, kv)]) (FrL.add (FrL.add (FrL.add (FrL.nil ?_ ?_) _ _ ?_) _ _ ?_) _ _ ?_) ?_
  iterate 5 rfl
  intro a9 F
  refine wp_seq ?_
  refine wp_region_lit ?_
  refine fr_ch F 1 [(6, .int .u8 0)] (by kernel_rfl) ?_
  clear F a9
  intro a9 F
  refine wpList_nil ?_
  show Code.wp _ _ _ _ _
  refine wp_seq ?_
  refine wp_region_lit ?_
  refine fr_ch F 3 [(11, .pointer (some ⟨p, 2, none⟩)), (10, .pointer (some ⟨p, 0, none⟩)), (9, .pointer (some ⟨p, 0, none⟩))] (by kernel_rfl) ?_
  clear F a9
  intro a9 F
  refine fr_do F (wanted_free rfl) 12 rfl (by decide) (.pointer (some ⟨N, r, none⟩)) (by intro a' F'; have h11 := F'.at' 11 _ rfl; have hc : w9.cell? ⟨p, 2, none⟩ = some (.pointer (some ⟨N, r, none⟩)) := (HP.cells 2).trans (congrArg (fun z => some (ptrN N z)) hx); go_simp) ?_
  clear F a9
  intro a9 F
  refine fr_ch F 2 [(14, .bool true), (13, .bool true)] (by kernel_rfl) ?_
  clear F a9
  intro a9 F
  refine fr_mv F (by rw [wanted_at F rfl (t := 14) (b := true) (by kernel_rfl) rfl]; rfl) 15 rfl (by decide) 1 rfl rfl ?_
  clear F a9
  intro a9 F
  refine fr_nc F (by rw [wanted_at F rfl (t := 14) (b := true) (by kernel_rfl) rfl]; rfl) 16 rfl (by decide) 15 rfl rfl ?_
  clear F a9
  intro a9 F
  refine fr_ch F 1 [(17, .pointer (some ⟨p, 3, none⟩))] (by kernel_rfl) ?_
  clear F a9
  intro a9 F
  refine fr_do F (by rw [wanted_at F rfl (t := 14) (b := true) (by kernel_rfl) rfl]; rfl) 18 rfl (by decide) (.pointer none) (by intro a' F'; have h17 := F'.at' 17 _ rfl; have hc : w9.cell? ⟨p, 3, none⟩ = some (.pointer none) := (HP.cells 3).trans (congrArg (fun z => some (ptrN N z)) hk); go_simp) ?_
  clear F a9
  intro a9 F
  refine fr_ch F 3 [(21, .bool true), (20, .bool true), (19, .bool true)] (by kernel_rfl) ?_
  clear F a9
  intro a9 F
  refine fr_mv F (by rw [wanted_at F rfl (t := 21) (b := true) (by kernel_rfl) rfl]; rfl) 22 rfl (by decide) 1 rfl rfl ?_
  clear F a9
  intro a9 F
  refine fr_nc F (by rw [wanted_at F rfl (t := 21) (b := true) (by kernel_rfl) rfl]; rfl) 23 rfl (by decide) 22 rfl rfl ?_
  clear F a9
  intro a9 F
  refine fr_ch F 1 [(24, .pointer (some ⟨p, 4, none⟩))] (by kernel_rfl) ?_
  clear F a9
  intro a9 F
  refine fr_do F (by rw [wanted_at F rfl (t := 21) (b := true) (by kernel_rfl) rfl]; rfl) 25 rfl (by decide) (.pointer (some ⟨N, t, none⟩)) (by intro a' F'; have h24 := F'.at' 24 _ rfl; have hc : w9.cell? ⟨p, 4, none⟩ = some (.pointer (some ⟨N, t, none⟩)) := (HP.cells 4).trans (congrArg (fun z => some (ptrN N z)) ht); go_simp) ?_
  clear F a9
  intro a9 F
  refine fr_ch F 3 [(7, .bool false), (27, .bool false), (26, .bool false)] (by kernel_rfl) ?_
  clear F a9
  intro a9 F
  refine wpList_nil ?_
  show Code.wp _ _ _ _ _
  replace F := F.cut [(7, .bool false), (6, .int .u8 0), (2, .pointer (some ⟨N, q, none⟩)), (1, .pointer (some ⟨p, 0, none⟩)), (0, kv)] (by kernel_rfl)
  refine wp_seq ?_
  refine wp_region_noPanic ?_
  have hb8 : Below w9.heap.size w9 w9.drew := below_draws (n := 1) rfl
  replace HK := HK.below hb8
  replace HP := HP.below hb8
  replace HON := HON.then hb8
  clear hb8
  refine AnyT.begin (S := fun _ => True) (z := 1000) (by kernel_rfl) trivial (fun hS0 => ?_)
  clear hS0
  generalize w9.drew = w8 at *
  clear w9
  rename World => w9
  refine fr_chT F [0, 1, 2, 3, 4, 5, 6, 7, 8, 9, 10, 11, 12, 13, 14, 15, 16, 17, 18, 19, 20, 21, 22, 23, 24, 25, 26, 27, 28, 29, 30, 31, 32, 33, 34, 35, 36] [(64, .bool false), (63, undef), (62, undef), (61, undef), (60, undef), (59, undef), (58, .bool false), (57, .bool false), (56, undef), (55, undef), (54, undef), (53, undef), (52, undef), (51, undef), (50, undef), (49, undef), (48, undef), (47, undef), (46, undef), (45, undef), (44, .bool false), (43, .bool false), (42, undef), (41, undef), (40, undef), (39, undef), (38, undef), (37, undef), (36, undef), (35, undef), (34, undef), (33, undef), (32, undef), (31, undef), (30, .bool false), (29, .bool false), (28, .bool false)] trivial (by kernel_rfl) ?_
  clear F a9
  intro a9 F
  refine fr_stepC (i := 37) (o := ⟨some 65, _, _, _, _, _⟩) F rfl (wanted_free rfl) 65 rfl (by decide) 46 #[.bool false, .bool false] (by intro a' F'; have h28 := F'.at' 28 _ rfl; have h64 := F'.at' 64 _ rfl; go_simp) (order_reason false false w9) ?_
  rintro e9 w8 ⟨rfl, hb8⟩
  replace HK := HK.below hb8
  replace HP := HP.below hb8
  replace HON := HON.then hb8
  clear hb8
  clear w9
  rename World => w9
  refine ⟨_, rfl, trivial, ?_⟩
  clear F a9
  intro a9 F
  refine fr_chT F [38] [(8, .int .u8 (reasonN false false : Int))] trivial (by kernel_rfl) ?_
  clear F a9
  intro a9 F
  refine AnyT.done (by kernel_rfl) ?_ _
  refine NoPanic.normal ?_
  show Code.wp _ _ _ _ _
  replace F := F.cut [(8, .int .u8 (reasonN false false : Int)), (6, .int .u8 0), (2, .pointer (some ⟨N, q, none⟩)), (1, .pointer (some ⟨p, 0, none⟩)), (0, kv)] (by kernel_rfl)
  have HK2 := HK.withBox ⟨p, paV N x, 83⟩ HP hpl (fun z hz => by cases hz)
  clear HK HP
  have HK := HK2
  clear HK2
  replace HK : Keep w0 [(p, (paV N x), 83)] [] w9 := HK
  refine wp_seq ?_
  refine wp_region_lit ?_
  refine fr_ch F 4 [(69, .pointer (some ⟨p, 3, none⟩)), (67, .pointer (some ⟨N, q, none⟩))] (by kernel_rfl) ?_
  clear F a9
  intro a9 F
  refine fr_putO F HK 0 rfl rfl rfl 52 _ _ rfl 3 (.pointer (some ⟨N, q, none⟩)) (fun a' F' => F'.ev 69 rfl) (fun a' F' => F'.ev 67 rfl) z_pn (Nat.le_of_ble_eq_true (by kernel_rfl)) (by kernel_rfl) ?_
  intro a10 w10 F' HK' HO
  replace HON := HON.trans HO (fun j _ h => h)
  clear HK F HO
  clear a9 w9
  rename World => w9
  rename Act => a9
  have HK := HK'
  have F := F'
  clear HK' F'
  replace HK : Keep w0 [(p, (paV N { x with keeps := some q }), 83)] [] w9 := HK
  refine wpList_nil ?_
  show Code.wp _ _ _ _ _
  refine wp_seq ?_
  refine wp_seq ?_
  refine wp_region_lit ?_
  refine fr_mv F (wanted_free rfl) 70 rfl (by decide) 8 rfl rfl ?_
  clear F a9
  intro a9 F
  refine fr_do F (wanted_free rfl) 71 rfl (by decide) (.bool false) (by intro a' F'; have h70 := F'.at' 70 _ rfl; go_simp <;> decide) ?_
  clear F a9
  intro a9 F
  refine wpList_nil ?_
  show Code.wp _ _ _ _ _
  refine wp_cond_false (F.ev 71 rfl) ?_
  refine wp_skip ?_
  show Code.wp _ _ _ _ _
  refine wp_seq ?_
  refine wp_region_lit ?_
  refine fr_mv F (wanted_free rfl) 75 rfl (by decide) 8 rfl rfl ?_
  clear F a9
  intro a9 F
  refine fr_as F (wanted_free rfl) 6 rfl (by decide) 75 rfl rfl ?_
  clear F a9
  intro a9 F
  refine wpList_nil ?_
  show Code.wp _ _ _ _ _
  refine wp_ret ?_
  exact fr_ret1 F rfl _ rfl (FIN.out _ _ (rfl) (HK.at 0 rfl) HON (HK.sub (List.nil_sublist _) (fun r hr => hr)))
set_option maxRecDepth 100000 in
set_option maxHeartbeats 4000000 in
theorem keeps_bad {w0 w : World} {p N q : Nat} {x : Pa} {n : Nt} {a : Option Addr} {c : Nat} (kv : Value) (HK : Keep w0 [] [] w) (HP : BoxAt w p (paV N x) 83) (hpl : w0.heap.size ≤ p) (hn : NtAt w0 N q n a c) {r : Nat} {n2 : Nt} {a2 : Option Addr} {c2 : Nat} (hx : x.routes = some r) (hk : x.keeps = none) (ht : x.tells = none) (hs : NtAt w0 N r n2 a2 c2) (hg2 : NtGood w0 n2 a2) (hg : NtGood w0 n a) (hno : sameK n2 n = false) : Calls Tryd.prog 27 #[kv, .pointer (some ⟨p, 0, none⟩), .pointer (some ⟨N, q, none⟩)] w (RetS w0 w p N (3) ({ x with keeps := some q })) := by
  obtain ⟨RR, hRR⟩ : ∃ RR : Ending → World → Prop, RR = RetS w0 w p N (3) ({ x with keeps := some q }) := ⟨_, rfl⟩
  have FIN := Lib.hid (show ∀ r w', r = 3 → BoxAt w' p (paV N ({ x with keeps := some q })) 83 → Only (fun j => j = p) w w' → Keep w0 [] [] w' → RR (.returned (.int .u8 (r : Int))) w' from fun r w' h1 h2 h3 h4 => by rw [hRR, h1]; exact ⟨rfl, h2, h3, h4⟩)
  rw [← hRR]
  have HN0 := Lib.hid hn
  obtain ⟨w9, hw9⟩ : ∃ w9, w9 = w := ⟨_, rfl⟩
  have HON : Only (fun j => j = p) w w9 := by rw [hw9]; exact Only.refl _ _
  rw [← hw9] at HK HP
  suffices hgo : Calls Tryd.prog 27 #[kv, .pointer (some ⟨p, 0, none⟩), .pointer (some ⟨N, q, none⟩)] w9 RR by rw [hw9] at hgo; exact hgo
  clear hw9 hRR hn
  go_enter Tryd.func27, Tryd.ntmps27
  refine wp_forget (n := 76) (L := [(2, .pointer (some ⟨N, q, none⟩)), (1, .pointer (some ⟨p, 0, none⟩)), (0, kv)]) (FrL.add (FrL.add (FrL.add (FrL.nil ?_ ?_) _ _ ?_) _ _ ?_) _ _ ?_) ?_
  iterate 5 rfl
  intro a9 F
  have HG := Lib.hid hg
  have HG2 := Lib.hid hg2
  have HS0 := Lib.hid hs
  clear hg hg2 hs
  refine wp_seq ?_
  refine wp_region_lit ?_
  refine fr_ch F 1 [(6, .int .u8 0)] (by kernel_rfl) ?_
  clear F a9
  intro a9 F
  refine wpList_nil ?_
  show Code.wp _ _ _ _ _
  refine wp_seq ?_
  refine wp_region_lit ?_
  refine fr_ch F 3 [(11, .pointer (some ⟨p, 2, none⟩)), (10, .pointer (some ⟨p, 0, none⟩)), (9, .pointer (some ⟨p, 0, none⟩))] (by kernel_rfl) ?_
  clear F a9
  intro a9 F
  refine fr_do F (wanted_free rfl) 12 rfl (by decide) (.pointer (some ⟨N, r, none⟩)) (by intro a' F'; have h11 := F'.at' 11 _ rfl; have hc : w9.cell? ⟨p, 2, none⟩ = some (.pointer (some ⟨N, r, none⟩)) := (HP.cells 2).trans (congrArg (fun z => some (ptrN N z)) hx); go_simp) ?_
  clear F a9
  intro a9 F
  refine fr_ch F 2 [(14, .bool true), (13, .bool true)] (by kernel_rfl) ?_
  clear F a9
  intro a9 F
  refine fr_mv F (by rw [wanted_at F rfl (t := 14) (b := true) (by kernel_rfl) rfl]; rfl) 15 rfl (by decide) 1 rfl rfl ?_
  clear F a9
  intro a9 F
  refine fr_nc F (by rw [wanted_at F rfl (t := 14) (b := true) (by kernel_rfl) rfl]; rfl) 16 rfl (by decide) 15 rfl rfl ?_
  clear F a9
  intro a9 F
  refine fr_ch F 1 [(17, .pointer (some ⟨p, 3, none⟩))] (by kernel_rfl) ?_
  clear F a9
  intro a9 F
  refine fr_do F (by rw [wanted_at F rfl (t := 14) (b := true) (by kernel_rfl) rfl]; rfl) 18 rfl (by decide) (.pointer none) (by intro a' F'; have h17 := F'.at' 17 _ rfl; have hc : w9.cell? ⟨p, 3, none⟩ = some (.pointer none) := (HP.cells 3).trans (congrArg (fun z => some (ptrN N z)) hk); go_simp) ?_
  clear F a9
  intro a9 F
  refine fr_ch F 3 [(21, .bool true), (20, .bool true), (19, .bool true)] (by kernel_rfl) ?_
  clear F a9
  intro a9 F
  refine fr_mv F (by rw [wanted_at F rfl (t := 21) (b := true) (by kernel_rfl) rfl]; rfl) 22 rfl (by decide) 1 rfl rfl ?_
  clear F a9
  intro a9 F
  refine fr_nc F (by rw [wanted_at F rfl (t := 21) (b := true) (by kernel_rfl) rfl]; rfl) 23 rfl (by decide) 22 rfl rfl ?_
  clear F a9
  intro a9 F
  refine fr_ch F 1 [(24, .pointer (some ⟨p, 4, none⟩))] (by kernel_rfl) ?_
  clear F a9
  intro a9 F
  refine fr_do F (by rw [wanted_at F rfl (t := 21) (b := true) (by kernel_rfl) rfl]; rfl) 25 rfl (by decide) (.pointer none) (by intro a' F'; have h24 := F'.at' 24 _ rfl; have hc : w9.cell? ⟨p, 4, none⟩ = some (.pointer none) := (HP.cells 4).trans (congrArg (fun z => some (ptrN N z)) ht); go_simp) ?_
  clear F a9
  intro a9 F
  refine fr_ch F 3 [(7, .bool true), (27, .bool true), (26, .bool true)] (by kernel_rfl) ?_
  clear F a9
  intro a9 F
  refine wpList_nil ?_
  show Code.wp _ _ _ _ _
  replace F := F.cut [(7, .bool true), (6, .int .u8 0), (2, .pointer (some ⟨N, q, none⟩)), (1, .pointer (some ⟨p, 0, none⟩)), (0, kv)] (by kernel_rfl)
  by_cases ha : n.client = n2.client
  rotate_left
  · skip
    refine wp_seq ?_
    refine wp_region_noPanic ?_
    have hb8 : Below w9.heap.size w9 w9.drew := below_draws (n := 1) rfl
    replace HK := HK.below hb8
    replace HP := HP.below hb8
    replace HON := HON.then hb8
    clear hb8
    refine AnyT.begin (S := fun w' => BoxAt w' p (paV N x) 83 ∧ NtAt w' N q n a c ∧ NtAt w' N r n2 a2 c2) (z := 1000) (by kernel_rfl) ⟨HP, HN0.out.low HK.low, HS0.out.low HK.low⟩ (fun hS0 => ?_)
    clear hS0
    generalize w9.drew = w8 at *
    clear w9
    rename World => w9
    refine fr_chT F [0, 1, 2, 3, 4, 5] [(33, .pointer (some ⟨N, q + 3, none⟩)), (32, .pointer (some ⟨N, q, none⟩)), (31, .pointer (some ⟨N, q, none⟩)), (30, .bool true), (29, .bool true), (28, .bool true)] ⟨HP, HN0.out.low HK.low, HS0.out.low HK.low⟩ (by kernel_rfl) ?_
    clear F a9
    intro a9 F
    refine fr_takeG (i := 6) (o := ⟨some 34, _, _, _, _, _⟩) F ⟨HP, HN0.out.low HK.low, HS0.out.low HK.low⟩ rfl (by rw [wanted_at F rfl (t := 30) (b := true) (by kernel_rfl) rfl]; rfl) 34 rfl (by decide) (.string n.client) (fun w9 hS => (by intro a' F'; have h33 := F'.at' 33 _ rfl; have hc : w9.cell? ⟨N, q + 3, none⟩ = some (.string n.client) := (hS.2.1).cell 3 _ rfl; go_simp)) ?_
    clear F a9
    intro a9 F
    refine fr_chT F [7, 8, 9] [(37, .pointer (some ⟨p, 2, none⟩)), (36, .pointer (some ⟨p, 0, none⟩)), (35, .pointer (some ⟨p, 0, none⟩))] ⟨HP, HN0.out.low HK.low, HS0.out.low HK.low⟩ (by kernel_rfl) ?_
    clear F a9
    intro a9 F
    refine fr_takeG (i := 10) (o := ⟨some 38, _, _, _, _, _⟩) F ⟨HP, HN0.out.low HK.low, HS0.out.low HK.low⟩ rfl (by rw [wanted_at F rfl (t := 30) (b := true) (by kernel_rfl) rfl]; rfl) 38 rfl (by decide) (.pointer (some ⟨N, r, none⟩)) (fun w9 hS => (by intro a' F'; have h37 := F'.at' 37 _ rfl; have hc : w9.cell? ⟨p, 2, none⟩ = some (.pointer (some ⟨N, r, none⟩)) := (hS.1.cells 2).trans (congrArg (fun z => some (ptrN N z)) hx); go_simp)) ?_
    clear F a9
    intro a9 F
    refine fr_chT F [11, 12] [(40, .pointer (some ⟨N, r + 3, none⟩)), (39, .pointer (some ⟨N, r, none⟩))] ⟨HP, HN0.out.low HK.low, HS0.out.low HK.low⟩ (by kernel_rfl) ?_
    clear F a9
    intro a9 F
    refine fr_takeG (i := 13) (o := ⟨some 41, _, _, _, _, _⟩) F ⟨HP, HN0.out.low HK.low, HS0.out.low HK.low⟩ rfl (by rw [wanted_at F rfl (t := 30) (b := true) (by kernel_rfl) rfl]; rfl) 41 rfl (by decide) (.string n2.client) (fun w9 hS => (by intro a' F'; have h40 := F'.at' 40 _ rfl; have hc : w9.cell? ⟨N, r + 3, none⟩ = some (.string n2.client) := (hS.2.2).cell 3 _ rfl; go_simp)) ?_
    clear F a9
    intro a9 F
    refine fr_takeG (i := 14) (o := ⟨some 42, _, _, _, _, _⟩) F ⟨HP, HN0.out.low HK.low, HS0.out.low HK.low⟩ rfl (by rw [wanted_at F rfl (t := 30) (b := true) (by kernel_rfl) rfl]; rfl) 42 rfl (by decide) (.bool false) (fun w9 hS => (fun a' F' => op_eqS (F'.ev 34 rfl) (F'.ev 41 rfl) rfl Tryd.underlying9 rfl (decide_eq_false ha))) ?_
    clear F a9
    intro a9 F
    refine fr_chT F [15, 16, 17, 18, 19, 20, 21, 22, 23, 24, 25, 26, 27, 28, 29, 30, 31, 32, 33, 34, 35, 36] [(64, .bool false), (63, undef), (62, undef), (61, undef), (60, undef), (59, undef), (58, .bool false), (57, .bool false), (56, undef), (55, undef), (54, undef), (53, undef), (52, undef), (51, undef), (50, undef), (49, undef), (48, undef), (47, undef), (46, undef), (45, undef), (44, .bool false), (43, .bool false)] ⟨HP, HN0.out.low HK.low, HS0.out.low HK.low⟩ (by kernel_rfl) ?_
    clear F a9
    intro a9 F
    refine fr_stepC (i := 37) (o := ⟨some 65, _, _, _, _, _⟩) F rfl (wanted_free rfl) 65 rfl (by decide) 46 #[.bool true, .bool false] (by intro a' F'; have h28 := F'.at' 28 _ rfl; have h64 := F'.at' 64 _ rfl; go_simp) (order_reason true false w9) ?_
    rintro e9 w8 ⟨rfl, hb8⟩
    replace HK := HK.below hb8
    replace HP := HP.below hb8
    replace HON := HON.then hb8
    clear hb8
    clear w9
    rename World => w9
    refine ⟨_, rfl, ⟨HP, HN0.out.low HK.low, HS0.out.low HK.low⟩, ?_⟩
    clear F a9
    intro a9 F
    refine fr_chT F [38] [(8, .int .u8 (reasonN true false : Int))] ⟨HP, HN0.out.low HK.low, HS0.out.low HK.low⟩ (by kernel_rfl) ?_
    clear F a9
    intro a9 F
    refine AnyT.done (by kernel_rfl) ?_ _
    refine NoPanic.normal ?_
    show Code.wp _ _ _ _ _
    replace F := F.cut [(8, .int .u8 (reasonN true false : Int)), (6, .int .u8 0), (2, .pointer (some ⟨N, q, none⟩)), (1, .pointer (some ⟨p, 0, none⟩)), (0, kv)] (by kernel_rfl)
    have HK2 := HK.withBox ⟨p, paV N x, 83⟩ HP hpl (fun z hz => by cases hz)
    clear HK HP
    have HK := HK2
    clear HK2
    replace HK : Keep w0 [(p, (paV N x), 83)] [] w9 := HK
    refine wp_seq ?_
    refine wp_region_lit ?_
    refine fr_ch F 4 [(69, .pointer (some ⟨p, 3, none⟩)), (68, .pointer (some ⟨p, 0, none⟩)), (67, .pointer (some ⟨N, q, none⟩)), (66, .pointer (some ⟨p, 0, none⟩))] (by kernel_rfl) ?_
    clear F a9
    intro a9 F
    refine fr_putO F HK 0 rfl rfl rfl 52 _ _ rfl 3 (.pointer (some ⟨N, q, none⟩)) (fun a' F' => F'.ev 69 rfl) (fun a' F' => F'.ev 67 rfl) z_pn (Nat.le_of_ble_eq_true (by kernel_rfl)) (by kernel_rfl) ?_
    intro a10 w10 F' HK' HO
    replace HON := HON.trans HO (fun j _ h => h)
    clear HK F HO
    clear a9 w9
    rename World => w9
    rename Act => a9
    have HK := HK'
    have F := F'
    clear HK' F'
    replace HK : Keep w0 [(p, (paV N { x with keeps := some q }), 83)] [] w9 := HK
    refine wpList_nil ?_
    show Code.wp _ _ _ _ _
    refine wp_seq ?_
    refine wp_seq ?_
    refine wp_region_lit ?_
    refine fr_mv F (wanted_free rfl) 70 rfl (by decide) 8 rfl rfl ?_
    clear F a9
    intro a9 F
    refine fr_do F (wanted_free rfl) 71 rfl (by decide) (.bool false) (by intro a' F'; have h70 := F'.at' 70 _ rfl; go_simp <;> decide) ?_
    clear F a9
    intro a9 F
    refine wpList_nil ?_
    show Code.wp _ _ _ _ _
    refine wp_cond_false (F.ev 71 rfl) ?_
    refine wp_skip ?_
    show Code.wp _ _ _ _ _
    refine wp_seq ?_
    refine wp_region_lit ?_
    refine fr_mv F (wanted_free rfl) 75 rfl (by decide) 8 rfl rfl ?_
    clear F a9
    intro a9 F
    refine fr_as F (wanted_free rfl) 6 rfl (by decide) 75 rfl rfl ?_
    clear F a9
    intro a9 F
    refine wpList_nil ?_
    show Code.wp _ _ _ _ _
    refine wp_ret ?_
    exact fr_ret1 F rfl _ rfl (FIN.out _ _ (rfl) (HK.at 0 rfl) HON (HK.sub (List.nil_sublist _) (fun r hr => hr)))
  by_cases hb : n.msg = n2.msg
  rotate_left
  · skip
    refine wp_seq ?_
    refine wp_region_noPanic ?_
    have hb8 : Below w9.heap.size w9 w9.drew := below_draws (n := 1) rfl
    replace HK := HK.below hb8
    replace HP := HP.below hb8
    replace HON := HON.then hb8
    clear hb8
    refine AnyT.begin (S := fun w' => BoxAt w' p (paV N x) 83 ∧ NtAt w' N q n a c ∧ NtAt w' N r n2 a2 c2) (z := 1000) (by kernel_rfl) ⟨HP, HN0.out.low HK.low, HS0.out.low HK.low⟩ (fun hS0 => ?_)
    clear hS0
    generalize w9.drew = w8 at *
    clear w9
    rename World => w9
    refine fr_chT F [0, 1, 2, 3, 4, 5] [(33, .pointer (some ⟨N, q + 3, none⟩)), (32, .pointer (some ⟨N, q, none⟩)), (31, .pointer (some ⟨N, q, none⟩)), (30, .bool true), (29, .bool true), (28, .bool true)] ⟨HP, HN0.out.low HK.low, HS0.out.low HK.low⟩ (by kernel_rfl) ?_
    clear F a9
    intro a9 F
    refine fr_takeG (i := 6) (o := ⟨some 34, _, _, _, _, _⟩) F ⟨HP, HN0.out.low HK.low, HS0.out.low HK.low⟩ rfl (by rw [wanted_at F rfl (t := 30) (b := true) (by kernel_rfl) rfl]; rfl) 34 rfl (by decide) (.string n.client) (fun w9 hS => (by intro a' F'; have h33 := F'.at' 33 _ rfl; have hc : w9.cell? ⟨N, q + 3, none⟩ = some (.string n.client) := (hS.2.1).cell 3 _ rfl; go_simp)) ?_
    clear F a9
    intro a9 F
    refine fr_chT F [7, 8, 9] [(37, .pointer (some ⟨p, 2, none⟩)), (36, .pointer (some ⟨p, 0, none⟩)), (35, .pointer (some ⟨p, 0, none⟩))] ⟨HP, HN0.out.low HK.low, HS0.out.low HK.low⟩ (by kernel_rfl) ?_
    clear F a9
    intro a9 F
    refine fr_takeG (i := 10) (o := ⟨some 38, _, _, _, _, _⟩) F ⟨HP, HN0.out.low HK.low, HS0.out.low HK.low⟩ rfl (by rw [wanted_at F rfl (t := 30) (b := true) (by kernel_rfl) rfl]; rfl) 38 rfl (by decide) (.pointer (some ⟨N, r, none⟩)) (fun w9 hS => (by intro a' F'; have h37 := F'.at' 37 _ rfl; have hc : w9.cell? ⟨p, 2, none⟩ = some (.pointer (some ⟨N, r, none⟩)) := (hS.1.cells 2).trans (congrArg (fun z => some (ptrN N z)) hx); go_simp)) ?_
    clear F a9
    intro a9 F
    refine fr_chT F [11, 12] [(40, .pointer (some ⟨N, r + 3, none⟩)), (39, .pointer (some ⟨N, r, none⟩))] ⟨HP, HN0.out.low HK.low, HS0.out.low HK.low⟩ (by kernel_rfl) ?_
    clear F a9
    intro a9 F
    refine fr_takeG (i := 13) (o := ⟨some 41, _, _, _, _, _⟩) F ⟨HP, HN0.out.low HK.low, HS0.out.low HK.low⟩ rfl (by rw [wanted_at F rfl (t := 30) (b := true) (by kernel_rfl) rfl]; rfl) 41 rfl (by decide) (.string n2.client) (fun w9 hS => (by intro a' F'; have h40 := F'.at' 40 _ rfl; have hc : w9.cell? ⟨N, r + 3, none⟩ = some (.string n2.client) := (hS.2.2).cell 3 _ rfl; go_simp)) ?_
    clear F a9
    intro a9 F
    refine fr_takeG (i := 14) (o := ⟨some 42, _, _, _, _, _⟩) F ⟨HP, HN0.out.low HK.low, HS0.out.low HK.low⟩ rfl (by rw [wanted_at F rfl (t := 30) (b := true) (by kernel_rfl) rfl]; rfl) 42 rfl (by decide) (.bool true) (fun w9 hS => (fun a' F' => op_eqS (F'.ev 34 rfl) (F'.ev 41 rfl) rfl Tryd.underlying9 rfl (decide_eq_true ha))) ?_
    clear F a9
    intro a9 F
    refine fr_chT F [15, 16, 17, 18, 19] [(47, .pointer (some ⟨N, q + 28, none⟩)), (46, .pointer (some ⟨N, q, none⟩)), (45, .pointer (some ⟨N, q, none⟩)), (44, .bool true), (43, .bool true)] ⟨HP, HN0.out.low HK.low, HS0.out.low HK.low⟩ (by kernel_rfl) ?_
    clear F a9
    intro a9 F
    refine fr_takeG (i := 20) (o := ⟨some 48, _, _, _, _, _⟩) F ⟨HP, HN0.out.low HK.low, HS0.out.low HK.low⟩ rfl (by rw [wanted_at F rfl (t := 44) (b := true) (by kernel_rfl) rfl]; rfl) 48 rfl (by decide) (.agg (msV n.msg)) (fun w9 hS => (fun a' F' => run_load_midF 30 _ rfl N (q + 28) (F'.ev 47 rfl) (msV n.msg).toList _ hS.2.1.msg Tryd.underlying30 rfl infoMs)) ?_
    clear F a9
    intro a9 F
    refine fr_chT F [21, 22, 23] [(51, .pointer (some ⟨p, 2, none⟩)), (50, .pointer (some ⟨p, 0, none⟩)), (49, .pointer (some ⟨p, 0, none⟩))] ⟨HP, HN0.out.low HK.low, HS0.out.low HK.low⟩ (by kernel_rfl) ?_
    clear F a9
    intro a9 F
    refine fr_takeG (i := 24) (o := ⟨some 52, _, _, _, _, _⟩) F ⟨HP, HN0.out.low HK.low, HS0.out.low HK.low⟩ rfl (by rw [wanted_at F rfl (t := 44) (b := true) (by kernel_rfl) rfl]; rfl) 52 rfl (by decide) (.pointer (some ⟨N, r, none⟩)) (fun w9 hS => (by intro a' F'; have h51 := F'.at' 51 _ rfl; have hc : w9.cell? ⟨p, 2, none⟩ = some (.pointer (some ⟨N, r, none⟩)) := (hS.1.cells 2).trans (congrArg (fun z => some (ptrN N z)) hx); go_simp)) ?_
    clear F a9
    intro a9 F
    refine fr_chT F [25, 26] [(54, .pointer (some ⟨N, r + 28, none⟩)), (53, .pointer (some ⟨N, r, none⟩))] ⟨HP, HN0.out.low HK.low, HS0.out.low HK.low⟩ (by kernel_rfl) ?_
    clear F a9
    intro a9 F
    refine fr_takeG (i := 27) (o := ⟨some 55, _, _, _, _, _⟩) F ⟨HP, HN0.out.low HK.low, HS0.out.low HK.low⟩ rfl (by rw [wanted_at F rfl (t := 44) (b := true) (by kernel_rfl) rfl]; rfl) 55 rfl (by decide) (.agg (msV n2.msg)) (fun w9 hS => (fun a' F' => run_load_midF 30 _ rfl N (r + 28) (F'.ev 54 rfl) (msV n2.msg).toList _ hS.2.2.msg Tryd.underlying30 rfl infoMs)) ?_
    clear F a9
    intro a9 F
    refine fr_takeG (i := 28) (o := ⟨some 56, _, _, _, _, _⟩) F ⟨HP, HN0.out.low HK.low, HS0.out.low HK.low⟩ rfl (by rw [wanted_at F rfl (t := 44) (b := true) (by kernel_rfl) rfl]; rfl) 56 rfl (by decide) (.bool false) (fun w9 hS => (fun a' F' => op_eqM (F'.ev 48 rfl) (F'.ev 55 rfl) rfl HG.out.ms HG2.out.ms (decide_eq_false hb))) ?_
    clear F a9
    intro a9 F
    refine fr_chT F [29, 30, 31, 32, 33, 34, 35, 36] [(64, .bool false), (63, undef), (62, undef), (61, undef), (60, undef), (59, undef), (58, .bool false), (57, .bool false)] ⟨HP, HN0.out.low HK.low, HS0.out.low HK.low⟩ (by kernel_rfl) ?_
    clear F a9
    intro a9 F
    refine fr_stepC (i := 37) (o := ⟨some 65, _, _, _, _, _⟩) F rfl (wanted_free rfl) 65 rfl (by decide) 46 #[.bool true, .bool false] (by intro a' F'; have h28 := F'.at' 28 _ rfl; have h64 := F'.at' 64 _ rfl; go_simp) (order_reason true false w9) ?_
    rintro e9 w8 ⟨rfl, hb8⟩
    replace HK := HK.below hb8
    replace HP := HP.below hb8
    replace HON := HON.then hb8
    clear hb8
    clear w9
    rename World => w9
    refine ⟨_, rfl, ⟨HP, HN0.out.low HK.low, HS0.out.low HK.low⟩, ?_⟩
    clear F a9
    intro a9 F
    refine fr_chT F [38] [(8, .int .u8 (reasonN true false : Int))] ⟨HP, HN0.out.low HK.low, HS0.out.low HK.low⟩ (by kernel_rfl) ?_
    clear F a9
    intro a9 F
    refine AnyT.done (by kernel_rfl) ?_ _
    refine NoPanic.normal ?_
    show Code.wp _ _ _ _ _
    replace F := F.cut [(8, .int .u8 (reasonN true false : Int)), (6, .int .u8 0), (2, .pointer (some ⟨N, q, none⟩)), (1, .pointer (some ⟨p, 0, none⟩)), (0, kv)] (by kernel_rfl)
    have HK2 := HK.withBox ⟨p, paV N x, 83⟩ HP hpl (fun z hz => by cases hz)
    clear HK HP
    have HK := HK2
    clear HK2
    replace HK : Keep w0 [(p, (paV N x), 83)] [] w9 := HK
    refine wp_seq ?_
    refine wp_region_lit ?_
    refine fr_ch F 4 [(69, .pointer (some ⟨p, 3, none⟩)), (68, .pointer (some ⟨p, 0, none⟩)), (67, .pointer (some ⟨N, q, none⟩)), (66, .pointer (some ⟨p, 0, none⟩))] (by kernel_rfl) ?_
    clear F a9
    intro a9 F
    refine fr_putO F HK 0 rfl rfl rfl 52 _ _ rfl 3 (.pointer (some ⟨N, q, none⟩)) (fun a' F' => F'.ev 69 rfl) (fun a' F' => F'.ev 67 rfl) z_pn (Nat.le_of_ble_eq_true (by kernel_rfl)) (by kernel_rfl) ?_
    intro a10 w10 F' HK' HO
    replace HON := HON.trans HO (fun j _ h => h)
    clear HK F HO
    clear a9 w9
    rename World => w9
    rename Act => a9
    have HK := HK'
    have F := F'
    clear HK' F'
    replace HK : Keep w0 [(p, (paV N { x with keeps := some q }), 83)] [] w9 := HK
    refine wpList_nil ?_
    show Code.wp _ _ _ _ _
    refine wp_seq ?_
    refine wp_seq ?_
    refine wp_region_lit ?_
    refine fr_mv F (wanted_free rfl) 70 rfl (by decide) 8 rfl rfl ?_
    clear F a9
    intro a9 F
    refine fr_do F (wanted_free rfl) 71 rfl (by decide) (.bool false) (by intro a' F'; have h70 := F'.at' 70 _ rfl; go_simp <;> decide) ?_
    clear F a9
    intro a9 F
    refine wpList_nil ?_
    show Code.wp _ _ _ _ _
    refine wp_cond_false (F.ev 71 rfl) ?_
    refine wp_skip ?_
    show Code.wp _ _ _ _ _
    refine wp_seq ?_
    refine wp_region_lit ?_
    refine fr_mv F (wanted_free rfl) 75 rfl (by decide) 8 rfl rfl ?_
    clear F a9
    intro a9 F
    refine fr_as F (wanted_free rfl) 6 rfl (by decide) 75 rfl rfl ?_
    clear F a9
    intro a9 F
    refine wpList_nil ?_
    show Code.wp _ _ _ _ _
    refine wp_ret ?_
    exact fr_ret1 F rfl _ rfl (FIN.out _ _ (rfl) (HK.at 0 rfl) HON (HK.sub (List.nil_sublist _) (fun r hr => hr)))
  by_cases he : n.msg.ret = true
  rotate_left
  · skip
    have he2 : n.msg.ret = false := by cases h : n.msg.ret; rfl; exact absurd h he
    refine wp_seq ?_
    refine wp_region_noPanic ?_
    have hb8 : Below w9.heap.size w9 w9.drew := below_draws (n := 1) rfl
    replace HK := HK.below hb8
    replace HP := HP.below hb8
    replace HON := HON.then hb8
    clear hb8
    refine AnyT.begin (S := fun w' => BoxAt w' p (paV N x) 83 ∧ NtAt w' N q n a c ∧ NtAt w' N r n2 a2 c2) (z := 1000) (by kernel_rfl) ⟨HP, HN0.out.low HK.low, HS0.out.low HK.low⟩ (fun hS0 => ?_)
    clear hS0
    generalize w9.drew = w8 at *
    clear w9
    rename World => w9
    refine fr_chT F [0, 1, 2, 3, 4, 5] [(33, .pointer (some ⟨N, q + 3, none⟩)), (32, .pointer (some ⟨N, q, none⟩)), (31, .pointer (some ⟨N, q, none⟩)), (30, .bool true), (29, .bool true), (28, .bool true)] ⟨HP, HN0.out.low HK.low, HS0.out.low HK.low⟩ (by kernel_rfl) ?_
    clear F a9
    intro a9 F
    refine fr_takeG (i := 6) (o := ⟨some 34, _, _, _, _, _⟩) F ⟨HP, HN0.out.low HK.low, HS0.out.low HK.low⟩ rfl (by rw [wanted_at F rfl (t := 30) (b := true) (by kernel_rfl) rfl]; rfl) 34 rfl (by decide) (.string n.client) (fun w9 hS => (by intro a' F'; have h33 := F'.at' 33 _ rfl; have hc : w9.cell? ⟨N, q + 3, none⟩ = some (.string n.client) := (hS.2.1).cell 3 _ rfl; go_simp)) ?_
    clear F a9
    intro a9 F
    refine fr_chT F [7, 8, 9] [(37, .pointer (some ⟨p, 2, none⟩)), (36, .pointer (some ⟨p, 0, none⟩)), (35, .pointer (some ⟨p, 0, none⟩))] ⟨HP, HN0.out.low HK.low, HS0.out.low HK.low⟩ (by kernel_rfl) ?_
    clear F a9
    intro a9 F
    refine fr_takeG (i := 10) (o := ⟨some 38, _, _, _, _, _⟩) F ⟨HP, HN0.out.low HK.low, HS0.out.low HK.low⟩ rfl (by rw [wanted_at F rfl (t := 30) (b := true) (by kernel_rfl) rfl]; rfl) 38 rfl (by decide) (.pointer (some ⟨N, r, none⟩)) (fun w9 hS => (by intro a' F'; have h37 := F'.at' 37 _ rfl; have hc : w9.cell? ⟨p, 2, none⟩ = some (.pointer (some ⟨N, r, none⟩)) := (hS.1.cells 2).trans (congrArg (fun z => some (ptrN N z)) hx); go_simp)) ?_
    clear F a9
    intro a9 F
    refine fr_chT F [11, 12] [(40, .pointer (some ⟨N, r + 3, none⟩)), (39, .pointer (some ⟨N, r, none⟩))] ⟨HP, HN0.out.low HK.low, HS0.out.low HK.low⟩ (by kernel_rfl) ?_
    clear F a9
    intro a9 F
    refine fr_takeG (i := 13) (o := ⟨some 41, _, _, _, _, _⟩) F ⟨HP, HN0.out.low HK.low, HS0.out.low HK.low⟩ rfl (by rw [wanted_at F rfl (t := 30) (b := true) (by kernel_rfl) rfl]; rfl) 41 rfl (by decide) (.string n2.client) (fun w9 hS => (by intro a' F'; have h40 := F'.at' 40 _ rfl; have hc : w9.cell? ⟨N, r + 3, none⟩ = some (.string n2.client) := (hS.2.2).cell 3 _ rfl; go_simp)) ?_
    clear F a9
    intro a9 F
    refine fr_takeG (i := 14) (o := ⟨some 42, _, _, _, _, _⟩) F ⟨HP, HN0.out.low HK.low, HS0.out.low HK.low⟩ rfl (by rw [wanted_at F rfl (t := 30) (b := true) (by kernel_rfl) rfl]; rfl) 42 rfl (by decide) (.bool true) (fun w9 hS => (fun a' F' => op_eqS (F'.ev 34 rfl) (F'.ev 41 rfl) rfl Tryd.underlying9 rfl (decide_eq_true ha))) ?_
    clear F a9
    intro a9 F
    refine fr_chT F [15, 16, 17, 18, 19] [(47, .pointer (some ⟨N, q + 28, none⟩)), (46, .pointer (some ⟨N, q, none⟩)), (45, .pointer (some ⟨N, q, none⟩)), (44, .bool true), (43, .bool true)] ⟨HP, HN0.out.low HK.low, HS0.out.low HK.low⟩ (by kernel_rfl) ?_
    clear F a9
    intro a9 F
    refine fr_takeG (i := 20) (o := ⟨some 48, _, _, _, _, _⟩) F ⟨HP, HN0.out.low HK.low, HS0.out.low HK.low⟩ rfl (by rw [wanted_at F rfl (t := 44) (b := true) (by kernel_rfl) rfl]; rfl) 48 rfl (by decide) (.agg (msV n.msg)) (fun w9 hS => (fun a' F' => run_load_midF 30 _ rfl N (q + 28) (F'.ev 47 rfl) (msV n.msg).toList _ hS.2.1.msg Tryd.underlying30 rfl infoMs)) ?_
    clear F a9
    intro a9 F
    refine fr_chT F [21, 22, 23] [(51, .pointer (some ⟨p, 2, none⟩)), (50, .pointer (some ⟨p, 0, none⟩)), (49, .pointer (some ⟨p, 0, none⟩))] ⟨HP, HN0.out.low HK.low, HS0.out.low HK.low⟩ (by kernel_rfl) ?_
    clear F a9
    intro a9 F
    refine fr_takeG (i := 24) (o := ⟨some 52, _, _, _, _, _⟩) F ⟨HP, HN0.out.low HK.low, HS0.out.low HK.low⟩ rfl (by rw [wanted_at F rfl (t := 44) (b := true) (by kernel_rfl) rfl]; rfl) 52 rfl (by decide) (.pointer (some ⟨N, r, none⟩)) (fun w9 hS => (by intro a' F'; have h51 := F'.at' 51 _ rfl; have hc : w9.cell? ⟨p, 2, none⟩ = some (.pointer (some ⟨N, r, none⟩)) := (hS.1.cells 2).trans (congrArg (fun z => some (ptrN N z)) hx); go_simp)) ?_
    clear F a9
    intro a9 F
    refine fr_chT F [25, 26] [(54, .pointer (some ⟨N, r + 28, none⟩)), (53, .pointer (some ⟨N, r, none⟩))] ⟨HP, HN0.out.low HK.low, HS0.out.low HK.low⟩ (by kernel_rfl) ?_
    clear F a9
    intro a9 F
    refine fr_takeG (i := 27) (o := ⟨some 55, _, _, _, _, _⟩) F ⟨HP, HN0.out.low HK.low, HS0.out.low HK.low⟩ rfl (by rw [wanted_at F rfl (t := 44) (b := true) (by kernel_rfl) rfl]; rfl) 55 rfl (by decide) (.agg (msV n2.msg)) (fun w9 hS => (fun a' F' => run_load_midF 30 _ rfl N (r + 28) (F'.ev 54 rfl) (msV n2.msg).toList _ hS.2.2.msg Tryd.underlying30 rfl infoMs)) ?_
    clear F a9
    intro a9 F
    refine fr_takeG (i := 28) (o := ⟨some 56, _, _, _, _, _⟩) F ⟨HP, HN0.out.low HK.low, HS0.out.low HK.low⟩ rfl (by rw [wanted_at F rfl (t := 44) (b := true) (by kernel_rfl) rfl]; rfl) 56 rfl (by decide) (.bool true) (fun w9 hS => (fun a' F' => op_eqM (F'.ev 48 rfl) (F'.ev 55 rfl) rfl HG.out.ms HG2.out.ms (decide_eq_true hb))) ?_
    clear F a9
    intro a9 F
    refine fr_chT F [29, 30, 31, 32, 33, 34] [(62, .pointer (some ⟨N, q + 31, none⟩)), (61, .pointer (some ⟨N, q + 28, none⟩)), (60, .pointer (some ⟨N, q, none⟩)), (59, .pointer (some ⟨N, q, none⟩)), (58, .bool true), (57, .bool true)] ⟨HP, HN0.out.low HK.low, HS0.out.low HK.low⟩ (by kernel_rfl) ?_
    clear F a9
    intro a9 F
    refine fr_takeG (i := 35) (o := ⟨some 63, _, _, _, _, _⟩) F ⟨HP, HN0.out.low HK.low, HS0.out.low HK.low⟩ rfl (by rw [wanted_at F rfl (t := 58) (b := true) (by kernel_rfl) rfl]; rfl) 63 rfl (by decide) (.bool false) (fun w9 hS => (by intro a' F'; have h62 := F'.at' 62 _ rfl; have hc : w9.cell? ⟨N, q + 31, none⟩ = some (.bool false) := ((hS.2.1).cell 31 _ rfl).trans (congrArg (fun b => some (Value.bool b)) he2); go_simp)) ?_
    clear F a9
    intro a9 F
    refine fr_chT F [36] [(64, .bool false)] ⟨HP, HN0.out.low HK.low, HS0.out.low HK.low⟩ (by kernel_rfl) ?_
    clear F a9
    intro a9 F
    refine fr_stepC (i := 37) (o := ⟨some 65, _, _, _, _, _⟩) F rfl (wanted_free rfl) 65 rfl (by decide) 46 #[.bool true, .bool false] (by intro a' F'; have h28 := F'.at' 28 _ rfl; have h64 := F'.at' 64 _ rfl; go_simp) (order_reason true false w9) ?_
    rintro e9 w8 ⟨rfl, hb8⟩
    replace HK := HK.below hb8
    replace HP := HP.below hb8
    replace HON := HON.then hb8
    clear hb8
    clear w9
    rename World => w9
    refine ⟨_, rfl, ⟨HP, HN0.out.low HK.low, HS0.out.low HK.low⟩, ?_⟩
    clear F a9
    intro a9 F
    refine fr_chT F [38] [(8, .int .u8 (reasonN true false : Int))] ⟨HP, HN0.out.low HK.low, HS0.out.low HK.low⟩ (by kernel_rfl) ?_
    clear F a9
    intro a9 F
    refine AnyT.done (by kernel_rfl) ?_ _
    refine NoPanic.normal ?_
    show Code.wp _ _ _ _ _
    replace F := F.cut [(8, .int .u8 (reasonN true false : Int)), (6, .int .u8 0), (2, .pointer (some ⟨N, q, none⟩)), (1, .pointer (some ⟨p, 0, none⟩)), (0, kv)] (by kernel_rfl)
    have HK2 := HK.withBox ⟨p, paV N x, 83⟩ HP hpl (fun z hz => by cases hz)
    clear HK HP
    have HK := HK2
    clear HK2
    replace HK : Keep w0 [(p, (paV N x), 83)] [] w9 := HK
    refine wp_seq ?_
    refine wp_region_lit ?_
    refine fr_ch F 4 [(69, .pointer (some ⟨p, 3, none⟩)), (67, .pointer (some ⟨N, q, none⟩))] (by kernel_rfl) ?_
    clear F a9
    intro a9 F
    refine fr_putO F HK 0 rfl rfl rfl 52 _ _ rfl 3 (.pointer (some ⟨N, q, none⟩)) (fun a' F' => F'.ev 69 rfl) (fun a' F' => F'.ev 67 rfl) z_pn (Nat.le_of_ble_eq_true (by kernel_rfl)) (by kernel_rfl) ?_
    intro a10 w10 F' HK' HO
    replace HON := HON.trans HO (fun j _ h => h)
    clear HK F HO
    clear a9 w9
    rename World => w9
    rename Act => a9
    have HK := HK'
    have F := F'
    clear HK' F'
    replace HK : Keep w0 [(p, (paV N { x with keeps := some q }), 83)] [] w9 := HK
    refine wpList_nil ?_
    show Code.wp _ _ _ _ _
    refine wp_seq ?_
    refine wp_seq ?_
    refine wp_region_lit ?_
    refine fr_mv F (wanted_free rfl) 70 rfl (by decide) 8 rfl rfl ?_
    clear F a9
    intro a9 F
    refine fr_do F (wanted_free rfl) 71 rfl (by decide) (.bool false) (by intro a' F'; have h70 := F'.at' 70 _ rfl; go_simp <;> decide) ?_
    clear F a9
    intro a9 F
    refine wpList_nil ?_
    show Code.wp _ _ _ _ _
    refine wp_cond_false (F.ev 71 rfl) ?_
    refine wp_skip ?_
    show Code.wp _ _ _ _ _
    refine wp_seq ?_
    refine wp_region_lit ?_
    refine fr_mv F (wanted_free rfl) 75 rfl (by decide) 8 rfl rfl ?_
    clear F a9
    intro a9 F
    refine fr_as F (wanted_free rfl) 6 rfl (by decide) 75 rfl rfl ?_
    clear F a9
    intro a9 F
    refine wpList_nil ?_
    show Code.wp _ _ _ _ _
    refine wp_ret ?_
    exact fr_ret1 F rfl _ rfl (FIN.out _ _ (rfl) (HK.at 0 rfl) HON (HK.sub (List.nil_sublist _) (fun r hr => hr)))
  exact absurd hno (by unfold sameK; rw [decide_eq_true ha, decide_eq_true hb, decide_eq_true he]; decide)
set_option maxRecDepth 100000 in
set_option maxHeartbeats 4000000 in
theorem keeps_ok {w0 w : World} {k OM m M K KM p N q : Nat} {L : List St} {x : Pa} {n : Nt} {a : Option Addr} {c : Nat} (HK : Keep w0 [] [] w) (HMO : MoAt w w0.heap.size m M K KM L) (HB : BoxAt w k #[.pointer (some ⟨m, 0, none⟩), .map (some OM)] 49) (HP : BoxAt w p (paV N x) 83) (hpl : w0.heap.size ≤ p) (hn : NtAt w0 N q n a c) (hg : NtGood w0 n a) {r : Nat} {n2 : Nt} {a2 : Option Addr} {c2 : Nat} (hx : x.routes = some r) (hk : x.keeps = none) (ht : x.tells = none) (hs : NtAt w0 N r n2 a2 c2) (hg2 : NtGood w0 n2 a2) (hyes : sameK n2 n = true) : Calls Tryd.prog 27 #[.pointer (some ⟨k, 0, none⟩), .pointer (some ⟨p, 0, none⟩), .pointer (some ⟨N, q, none⟩)] w (RetM w0 w k OM m M K KM p N L (appliedN (applyS (absL L) n).1 n) ({ x with keeps := some q }) ((applyS (absL L) n).2)) := by
  obtain ⟨RR, hRR⟩ : ∃ RR : Ending → World → Prop, RR = RetM w0 w k OM m M K KM p N L (appliedN (applyS (absL L) n).1 n) ({ x with keeps := some q }) ((applyS (absL L) n).2) := ⟨_, rfl⟩
  have FIN := Lib.hid (show ∀ r L' w', r = appliedN (applyS (absL L) n).1 n → absL L' = (applyS (absL L) n).2 → BoxAt w' p (paV N ({ x with keeps := some q })) 83 → BoxAt w' k #[.pointer (some ⟨m, 0, none⟩), .map (some OM)] 49 → MoAt w' w0.heap.size m M K KM L' → Only (fun j => j = p ∨ FootM m M K KM L j) w w' → (∀ j, FootM m M K KM L' j → FootM m M K KM L j ∨ w.heap.size ≤ j) → Keep w0 [] [] w' → RR (.returned (.int .u8 (r : Int))) w' from fun r L' w' h1 h2 h3 h4 h5 h6 h7 h8 => by rw [hRR, h1]; exact ⟨L', rfl, h2, h3, h4, h5, h6, h7, h8⟩)
  rw [← hRR]
  have HN0 := Lib.hid hn
  have HG := Lib.hid hg
  obtain ⟨w9, hw9⟩ : ∃ w9, w9 = w := ⟨_, rfl⟩
  have HON : Only (fun j => j = p) w w9 := by rw [hw9]; exact Only.refl _ _
  rw [← hw9] at HK HP HMO HB
  suffices hgo : Calls Tryd.prog 27 #[.pointer (some ⟨k, 0, none⟩), .pointer (some ⟨p, 0, none⟩), .pointer (some ⟨N, q, none⟩)] w9 RR by rw [hw9] at hgo; exact hgo
  clear hw9 hRR hn hg
  go_enter Tryd.func27, Tryd.ntmps27
  refine wp_forget (n := 76) (L := [(2, .pointer (some ⟨N, q, none⟩)), (1, .pointer (some ⟨p, 0, none⟩)), (0, .pointer (some ⟨k, 0, none⟩))]) (FrL.add (FrL.add (FrL.add (FrL.nil ?_ ?_) _ _ ?_) _ _ ?_) _ _ ?_) ?_
  iterate 5 rfl
  intro a9 F
  have HG2 := Lib.hid hg2
  have HS0 := Lib.hid hs
  clear hg2 hs
  unfold sameK at hyes
  rw [Bool.and_eq_true, Bool.and_eq_true] at hyes
  obtain ⟨ha, hb, he⟩ := hyes
  have ha := of_decide_eq_true ha
  have hb := of_decide_eq_true hb
  have he2 := of_decide_eq_true he
  refine wp_seq ?_
  refine wp_region_lit ?_
  refine fr_ch F 1 [(6, .int .u8 0)] (by kernel_rfl) ?_
  clear F a9
  intro a9 F
  refine wpList_nil ?_
  show Code.wp _ _ _ _ _
  refine wp_seq ?_
  refine wp_region_lit ?_
  refine fr_ch F 3 [(11, .pointer (some ⟨p, 2, none⟩)), (10, .pointer (some ⟨p, 0, none⟩)), (9, .pointer (some ⟨p, 0, none⟩))] (by kernel_rfl) ?_
  clear F a9
  intro a9 F
  refine fr_do F (wanted_free rfl) 12 rfl (by decide) (.pointer (some ⟨N, r, none⟩)) (by intro a' F'; have h11 := F'.at' 11 _ rfl; have hc : w9.cell? ⟨p, 2, none⟩ = some (.pointer (some ⟨N, r, none⟩)) := (HP.cells 2).trans (congrArg (fun z => some (ptrN N z)) hx); go_simp) ?_
  clear F a9
  intro a9 F
  refine fr_ch F 2 [(14, .bool true), (13, .bool true)] (by kernel_rfl) ?_
  clear F a9
  intro a9 F
  refine fr_mv F (by rw [wanted_at F rfl (t := 14) (b := true) (by kernel_rfl) rfl]; rfl) 15 rfl (by decide) 1 rfl rfl ?_
  clear F a9
  intro a9 F
  refine fr_nc F (by rw [wanted_at F rfl (t := 14) (b := true) (by kernel_rfl) rfl]; rfl) 16 rfl (by decide) 15 rfl rfl ?_
  clear F a9
  intro a9 F
  refine fr_ch F 1 [(17, .pointer (some ⟨p, 3, none⟩))] (by kernel_rfl) ?_
  clear F a9
  intro a9 F
  refine fr_do F (by rw [wanted_at F rfl (t := 14) (b := true) (by kernel_rfl) rfl]; rfl) 18 rfl (by decide) (.pointer none) (by intro a' F'; have h17 := F'.at' 17 _ rfl; have hc : w9.cell? ⟨p, 3, none⟩ = some (.pointer none) := (HP.cells 3).trans (congrArg (fun z => some (ptrN N z)) hk); go_simp) ?_
  clear F a9
  intro a9 F
  refine fr_ch F 3 [(21, .bool true), (20, .bool true), (19, .bool true)] (by kernel_rfl) ?_
  clear F a9
  intro a9 F
  refine fr_mv F (by rw [wanted_at F rfl (t := 21) (b := true) (by kernel_rfl) rfl]; rfl) 22 rfl (by decide) 1 rfl rfl ?_
  clear F a9
  intro a9 F
  refine fr_nc F (by rw [wanted_at F rfl (t := 21) (b := true) (by kernel_rfl) rfl]; rfl) 23 rfl (by decide) 22 rfl rfl ?_
  clear F a9
  intro a9 F
  refine fr_ch F 1 [(24, .pointer (some ⟨p, 4, none⟩))] (by kernel_rfl) ?_
  clear F a9
  intro a9 F
  refine fr_do F (by rw [wanted_at F rfl (t := 21) (b := true) (by kernel_rfl) rfl]; rfl) 25 rfl (by decide) (.pointer none) (by intro a' F'; have h24 := F'.at' 24 _ rfl; have hc : w9.cell? ⟨p, 4, none⟩ = some (.pointer none) := (HP.cells 4).trans (congrArg (fun z => some (ptrN N z)) ht); go_simp) ?_
  clear F a9
  intro a9 F
  refine fr_ch F 3 [(7, .bool true), (27, .bool true), (26, .bool true)] (by kernel_rfl) ?_
  clear F a9
  intro a9 F
  refine wpList_nil ?_
  show Code.wp _ _ _ _ _
  replace F := F.cut [(7, .bool true), (6, .int .u8 0), (2, .pointer (some ⟨N, q, none⟩)), (1, .pointer (some ⟨p, 0, none⟩)), (0, .pointer (some ⟨k, 0, none⟩))] (by kernel_rfl)
  refine wp_seq ?_
  refine wp_region_noPanic ?_
  have hb8 : Below w9.heap.size w9 w9.drew := below_draws (n := 1) rfl
  replace HK := HK.below hb8
  replace HP := HP.below hb8
  replace HON := HON.then hb8
  replace HMO := HMO.below hb8
  replace HB := HB.below hb8
  clear hb8
  refine AnyT.begin (S := fun w' => BoxAt w' p (paV N x) 83 ∧ NtAt w' N q n a c ∧ NtAt w' N r n2 a2 c2) (z := 1000) (by kernel_rfl) ⟨HP, HN0.out.low HK.low, HS0.out.low HK.low⟩ (fun hS0 => ?_)
  clear hS0
  generalize w9.drew = w8 at *
  clear w9
  rename World => w9
  refine fr_chT F [0, 1, 2, 3, 4, 5] [(33, .pointer (some ⟨N, q + 3, none⟩)), (32, .pointer (some ⟨N, q, none⟩)), (31, .pointer (some ⟨N, q, none⟩)), (30, .bool true), (29, .bool true), (28, .bool true)] ⟨HP, HN0.out.low HK.low, HS0.out.low HK.low⟩ (by kernel_rfl) ?_
  clear F a9
  intro a9 F
  refine fr_takeG (i := 6) (o := ⟨some 34, _, _, _, _, _⟩) F ⟨HP, HN0.out.low HK.low, HS0.out.low HK.low⟩ rfl (by rw [wanted_at F rfl (t := 30) (b := true) (by kernel_rfl) rfl]; rfl) 34 rfl (by decide) (.string n.client) (fun w9 hS => (by intro a' F'; have h33 := F'.at' 33 _ rfl; have hc : w9.cell? ⟨N, q + 3, none⟩ = some (.string n.client) := (hS.2.1).cell 3 _ rfl; go_simp)) ?_
  clear F a9
  intro a9 F
  refine fr_chT F [7, 8, 9] [(37, .pointer (some ⟨p, 2, none⟩)), (36, .pointer (some ⟨p, 0, none⟩)), (35, .pointer (some ⟨p, 0, none⟩))] ⟨HP, HN0.out.low HK.low, HS0.out.low HK.low⟩ (by kernel_rfl) ?_
  clear F a9
  intro a9 F
  refine fr_takeG (i := 10) (o := ⟨some 38, _, _, _, _, _⟩) F ⟨HP, HN0.out.low HK.low, HS0.out.low HK.low⟩ rfl (by rw [wanted_at F rfl (t := 30) (b := true) (by kernel_rfl) rfl]; rfl) 38 rfl (by decide) (.pointer (some ⟨N, r, none⟩)) (fun w9 hS => (by intro a' F'; have h37 := F'.at' 37 _ rfl; have hc : w9.cell? ⟨p, 2, none⟩ = some (.pointer (some ⟨N, r, none⟩)) := (hS.1.cells 2).trans (congrArg (fun z => some (ptrN N z)) hx); go_simp)) ?_
  clear F a9
  intro a9 F
  refine fr_chT F [11, 12] [(40, .pointer (some ⟨N, r + 3, none⟩)), (39, .pointer (some ⟨N, r, none⟩))] ⟨HP, HN0.out.low HK.low, HS0.out.low HK.low⟩ (by kernel_rfl) ?_
  clear F a9
  intro a9 F
  refine fr_takeG (i := 13) (o := ⟨some 41, _, _, _, _, _⟩) F ⟨HP, HN0.out.low HK.low, HS0.out.low HK.low⟩ rfl (by rw [wanted_at F rfl (t := 30) (b := true) (by kernel_rfl) rfl]; rfl) 41 rfl (by decide) (.string n2.client) (fun w9 hS => (by intro a' F'; have h40 := F'.at' 40 _ rfl; have hc : w9.cell? ⟨N, r + 3, none⟩ = some (.string n2.client) := (hS.2.2).cell 3 _ rfl; go_simp)) ?_
  clear F a9
  intro a9 F
  refine fr_takeG (i := 14) (o := ⟨some 42, _, _, _, _, _⟩) F ⟨HP, HN0.out.low HK.low, HS0.out.low HK.low⟩ rfl (by rw [wanted_at F rfl (t := 30) (b := true) (by kernel_rfl) rfl]; rfl) 42 rfl (by decide) (.bool true) (fun w9 hS => (fun a' F' => op_eqS (F'.ev 34 rfl) (F'.ev 41 rfl) rfl Tryd.underlying9 rfl (decide_eq_true ha))) ?_
  clear F a9
  intro a9 F
  refine fr_chT F [15, 16, 17, 18, 19] [(47, .pointer (some ⟨N, q + 28, none⟩)), (46, .pointer (some ⟨N, q, none⟩)), (45, .pointer (some ⟨N, q, none⟩)), (44, .bool true), (43, .bool true)] ⟨HP, HN0.out.low HK.low, HS0.out.low HK.low⟩ (by kernel_rfl) ?_
  clear F a9
  intro a9 F
  refine fr_takeG (i := 20) (o := ⟨some 48, _, _, _, _, _⟩) F ⟨HP, HN0.out.low HK.low, HS0.out.low HK.low⟩ rfl (by rw [wanted_at F rfl (t := 44) (b := true) (by kernel_rfl) rfl]; rfl) 48 rfl (by decide) (.agg (msV n.msg)) (fun w9 hS => (fun a' F' => run_load_midF 30 _ rfl N (q + 28) (F'.ev 47 rfl) (msV n.msg).toList _ hS.2.1.msg Tryd.underlying30 rfl infoMs)) ?_
  clear F a9
  intro a9 F
  refine fr_chT F [21, 22, 23] [(51, .pointer (some ⟨p, 2, none⟩)), (50, .pointer (some ⟨p, 0, none⟩)), (49, .pointer (some ⟨p, 0, none⟩))] ⟨HP, HN0.out.low HK.low, HS0.out.low HK.low⟩ (by kernel_rfl) ?_
  clear F a9
  intro a9 F
  refine fr_takeG (i := 24) (o := ⟨some 52, _, _, _, _, _⟩) F ⟨HP, HN0.out.low HK.low, HS0.out.low HK.low⟩ rfl (by rw [wanted_at F rfl (t := 44) (b := true) (by kernel_rfl) rfl]; rfl) 52 rfl (by decide) (.pointer (some ⟨N, r, none⟩)) (fun w9 hS => (by intro a' F'; have h51 := F'.at' 51 _ rfl; have hc : w9.cell? ⟨p, 2, none⟩ = some (.pointer (some ⟨N, r, none⟩)) := (hS.1.cells 2).trans (congrArg (fun z => some (ptrN N z)) hx); go_simp)) ?_
  clear F a9
  intro a9 F
  refine fr_chT F [25, 26] [(54, .pointer (some ⟨N, r + 28, none⟩)), (53, .pointer (some ⟨N, r, none⟩))] ⟨HP, HN0.out.low HK.low, HS0.out.low HK.low⟩ (by kernel_rfl) ?_
  clear F a9
  intro a9 F
  refine fr_takeG (i := 27) (o := ⟨some 55, _, _, _, _, _⟩) F ⟨HP, HN0.out.low HK.low, HS0.out.low HK.low⟩ rfl (by rw [wanted_at F rfl (t := 44) (b := true) (by kernel_rfl) rfl]; rfl) 55 rfl (by decide) (.agg (msV n2.msg)) (fun w9 hS => (fun a' F' => run_load_midF 30 _ rfl N (r + 28) (F'.ev 54 rfl) (msV n2.msg).toList _ hS.2.2.msg Tryd.underlying30 rfl infoMs)) ?_
  clear F a9
  intro a9 F
  refine fr_takeG (i := 28) (o := ⟨some 56, _, _, _, _, _⟩) F ⟨HP, HN0.out.low HK.low, HS0.out.low HK.low⟩ rfl (by rw [wanted_at F rfl (t := 44) (b := true) (by kernel_rfl) rfl]; rfl) 56 rfl (by decide) (.bool true) (fun w9 hS => (fun a' F' => op_eqM (F'.ev 48 rfl) (F'.ev 55 rfl) rfl HG.out.ms HG2.out.ms (decide_eq_true hb))) ?_
  clear F a9
  intro a9 F
  refine fr_chT F [29, 30, 31, 32, 33, 34] [(62, .pointer (some ⟨N, q + 31, none⟩)), (61, .pointer (some ⟨N, q + 28, none⟩)), (60, .pointer (some ⟨N, q, none⟩)), (59, .pointer (some ⟨N, q, none⟩)), (58, .bool true), (57, .bool true)] ⟨HP, HN0.out.low HK.low, HS0.out.low HK.low⟩ (by kernel_rfl) ?_
  clear F a9
  intro a9 F
  refine fr_takeG (i := 35) (o := ⟨some 63, _, _, _, _, _⟩) F ⟨HP, HN0.out.low HK.low, HS0.out.low HK.low⟩ rfl (by rw [wanted_at F rfl (t := 58) (b := true) (by kernel_rfl) rfl]; rfl) 63 rfl (by decide) (.bool true) (fun w9 hS => (by intro a' F'; have h62 := F'.at' 62 _ rfl; have hc : w9.cell? ⟨N, q + 31, none⟩ = some (.bool true) := ((hS.2.1).cell 31 _ rfl).trans (congrArg (fun b => some (Value.bool b)) he2); go_simp)) ?_
  clear F a9
  intro a9 F
  refine fr_chT F [36] [(64, .bool true)] ⟨HP, HN0.out.low HK.low, HS0.out.low HK.low⟩ (by kernel_rfl) ?_
  clear F a9
  intro a9 F
  refine fr_stepC (i := 37) (o := ⟨some 65, _, _, _, _, _⟩) F rfl (wanted_free rfl) 65 rfl (by decide) 46 #[.bool true, .bool true] (by intro a' F'; have h28 := F'.at' 28 _ rfl; have h64 := F'.at' 64 _ rfl; go_simp) (order_reason true true w9) ?_
  rintro e9 w8 ⟨rfl, hb8⟩
  replace HK := HK.below hb8
  replace HP := HP.below hb8
  replace HON := HON.then hb8
  replace HMO := HMO.below hb8
  replace HB := HB.below hb8
  clear hb8
  clear w9
  rename World => w9
  refine ⟨_, rfl, ⟨HP, HN0.out.low HK.low, HS0.out.low HK.low⟩, ?_⟩
  clear F a9
  intro a9 F
  refine fr_chT F [38] [(8, .int .u8 (reasonN true true : Int))] ⟨HP, HN0.out.low HK.low, HS0.out.low HK.low⟩ (by kernel_rfl) ?_
  clear F a9
  intro a9 F
  refine AnyT.done (by kernel_rfl) ?_ _
  refine NoPanic.normal ?_
  show Code.wp _ _ _ _ _
  replace F := F.cut [(8, .int .u8 (reasonN true true : Int)), (6, .int .u8 0), (2, .pointer (some ⟨N, q, none⟩)), (1, .pointer (some ⟨p, 0, none⟩)), (0, .pointer (some ⟨k, 0, none⟩))] (by kernel_rfl)
  have HK2 := HK.withBox ⟨p, paV N x, 83⟩ HP hpl (fun z hz => by cases hz)
  have hfp := HMO.boxFar (by decide) HP
  have hkp : k ≠ p := box_ne HB HP (by decide)
  clear HK HP
  have HK := HK2
  clear HK2
  replace HK : Keep w0 [(p, (paV N x), 83)] [] w9 := HK
  refine wp_seq ?_
  refine wp_region_lit ?_
  refine fr_ch F 4 [(69, .pointer (some ⟨p, 3, none⟩)), (67, .pointer (some ⟨N, q, none⟩))] (by kernel_rfl) ?_
  clear F a9
  intro a9 F
  refine fr_putO F HK 0 rfl rfl rfl 52 _ _ rfl 3 (.pointer (some ⟨N, q, none⟩)) (fun a' F' => F'.ev 69 rfl) (fun a' F' => F'.ev 67 rfl) z_pn (Nat.le_of_ble_eq_true (by kernel_rfl)) (by kernel_rfl) ?_
  intro a10 w10 F' HK' HO
  replace HON := HON.trans HO (fun j _ h => h)
  replace HMO := HMO.only HO (fun j hj e => hfp (e ▸ hj))
  replace HB := HB.only HO hkp
  clear HK F HO
  clear a9 w9
  rename World => w9
  rename Act => a9
  have HK := HK'
  have F := F'
  clear HK' F'
  replace HK : Keep w0 [(p, (paV N { x with keeps := some q }), 83)] [] w9 := HK
  refine wpList_nil ?_
  show Code.wp _ _ _ _ _
  refine wp_seq ?_
  refine wp_seq ?_
  refine wp_region_lit ?_
  refine fr_mv F (wanted_free rfl) 70 rfl (by decide) 8 rfl rfl ?_
  clear F a9
  intro a9 F
  refine fr_do F (wanted_free rfl) 71 rfl (by decide) (.bool true) (by intro a' F'; have h70 := F'.at' 70 _ rfl; go_simp <;> decide) ?_
  clear F a9
  intro a9 F
  refine wpList_nil ?_
  show Code.wp _ _ _ _ _
  refine wp_cond_true (F.ev 71 rfl) ?_
  have HC := order_applied (HK.sub (List.nil_sublist _) (fun r hr => hr)) HMO HB HN0.out HG.out
  obtain ⟨bb, hbb⟩ : ∃ bb, appliedN (applyS (absL L) n).1 n = bb := ⟨_, rfl⟩
  rw [hbb] at HC
  refine wp_region_lit ?_
  refine fr_mv F (wanted_free rfl) 72 rfl (by decide) 0 rfl rfl ?_
  clear F a9
  intro a9 F
  refine fr_mv F (wanted_free rfl) 73 rfl (by decide) 2 rfl rfl ?_
  clear F a9
  intro a9 F
  refine fr_call F (wanted_free rfl) 74 rfl (by decide) 50 #[.pointer (some ⟨k, 0, none⟩), .pointer (some ⟨N, q, none⟩)] (by intro a' F'; have h72 := F'.at' 72 _ rfl; have h73 := F'.at' 73 _ rfl; go_simp) (HC) ?_
  rintro e9 w8 ⟨L', rfl, habs, hout⟩
  have HK2 := hout.keep
  have HMO2 := hout.mo
  have HPx := (HK.at 0 rfl).only hout.only hfp
  have HB2 := HB.only hout.only (HMO.boxFar (by decide) HB)
  have HON2 : Only (fun j => j = p ∨ FootM m M K KM L j) w w8 := Only.trans (HON.weaken (fun j h => Or.inl h)) hout.only (fun j _ h => Or.inr h)
  have hft : ∀ j, FootM m M K KM L' j → FootM m M K KM L j ∨ w.heap.size ≤ j := fun j hj => (hout.foot j hj).elim Or.inl (fun h => Or.inr (Nat.le_trans HON.size h))
  clear HK HMO HB HON hout HC
  have HK := HK2
  have HMO := HMO2
  have HB := HB2
  clear HK2 HMO2 HB2
  clear w9
  rename World => w9
  refine ⟨_, rfl, ?_⟩
  clear F a9
  intro a9 F
  refine fr_as F (wanted_free rfl) 8 rfl (by decide) 74 rfl rfl ?_
  clear F a9
  intro a9 F
  refine wpList_nil ?_
  show Code.wp _ _ _ _ _
  refine wp_seq ?_
  refine wp_region_lit ?_
  refine fr_mv F (wanted_free rfl) 75 rfl (by decide) 8 rfl rfl ?_
  clear F a9
  intro a9 F
  refine fr_as F (wanted_free rfl) 6 rfl (by decide) 75 rfl rfl ?_
  clear F a9
  intro a9 F
  refine wpList_nil ?_
  show Code.wp _ _ _ _ _
  refine wp_ret ?_
  exact fr_ret1 F rfl _ rfl (FIN.out _ L' _ hbb.symm habs HPx HB HMO HON2 hft HK)
set_option maxRecDepth 100000 in
set_option maxHeartbeats 4000000 in
theorem tells_no1d {w0 w : World} {p N q : Nat} {x : Pa} {n : Nt} {a : Option Addr} {c : Nat} (kv : Value) (HK : Keep w0 [] [] w) (HP : BoxAt w p (paV N x) 83) (hpl : w0.heap.size ≤ p) (hn : NtAt w0 N q n a c) {d : Nat} (hx : x.asks = none) (hd : x.does = some d) : Calls Tryd.prog 26 #[kv, .pointer (some ⟨p, 0, none⟩), .pointer (some ⟨N, q, none⟩)] w (RetS w0 w p N (2) ({ x with tells := some q })) := by
  obtain ⟨RR, hRR⟩ : ∃ RR : Ending → World → Prop, RR = RetS w0 w p N (2) ({ x with tells := some q }) := ⟨_, rfl⟩
  have FIN := Lib.hid (show ∀ r w', r = 2 → BoxAt w' p (paV N ({ x with tells := some q })) 83 → Only (fun j => j = p) w w' → Keep w0 [] [] w' → RR (.returned (.int .u8 (r : Int))) w' from fun r w' h1 h2 h3 h4 => by rw [hRR, h1]; exact ⟨rfl, h2, h3, h4⟩)
  rw [← hRR]
  have HN0 := Lib.hid hn
  obtain ⟨w9, hw9⟩ : ∃ w9, w9 = w := ⟨_, rfl⟩
  have HON : Only (fun j => j = p) w w9 := by rw [hw9]; exact Only.refl _ _
  rw [← hw9] at HK HP
  suffices hgo : Calls Tryd.prog 26 #[kv, .pointer (some ⟨p, 0, none⟩), .pointer (some ⟨N, q, none⟩)] w9 RR by rw [hw9] at hgo; exact hgo
  clear hw9 hRR hn
  go_enter Tryd.func26, Tryd.ntmps26
  refine wp_forget (n := 86) (L := [(2, .pointer (some ⟨N, q, none⟩)), (1, .pointer (some ⟨p, 0, none⟩)), (0, kv)]) (FrL.add (FrL.add (FrL.add (FrL.nil ?_ ?_) _ _ ?_) _ _ ?_) _ _ ?_) ?_
  iterate 5 rfl
  intro a9 F
  refine wp_seq ?_
  refine wp_region_lit ?_
  refine fr_ch F 1 [(6, .int .u8 0)] (by kernel_rfl) ?_
  clear F a9
  intro a9 F
  refine wpList_nil ?_
  show Code.wp _ _ _ _ _
  refine wp_seq ?_
  refine wp_region_lit ?_
  refine fr_ch F 3 [(12, .pointer (some ⟨p, 0, none⟩)), (11, .pointer (some ⟨p, 0, none⟩)), (10, .pointer (some ⟨p, 0, none⟩))] (by kernel_rfl) ?_
  clear F a9
  intro a9 F
  refine fr_do F (wanted_free rfl) 13 rfl (by decide) (.pointer none) (by intro a' F'; have h12 := F'.at' 12 _ rfl; have hc : w9.cell? ⟨p, 0, none⟩ = some (.pointer none) := (HP.cells 0).trans (congrArg (fun z => some (ptrN N z)) hx); go_simp) ?_
  clear F a9
  intro a9 F
  refine fr_ch F 15 [(28, undef), (27, undef), (26, undef), (25, undef), (24, undef), (23, undef), (22, .bool false), (21, .bool false), (20, undef), (19, undef), (18, undef), (17, undef), (16, undef), (15, .bool false), (14, .bool false)] (by kernel_rfl) ?_
  clear F a9
  intro a9 F
  refine fr_left F (wanted_undef F rfl (t := 28) (by kernel_rfl) rfl) 29 rfl (by decide) ?_
  clear F a9
  intro a9 F
  refine fr_left F (wanted_undef F rfl (t := 28) (by kernel_rfl) rfl) 30 rfl (by decide) ?_
  clear F a9
  intro a9 F
  refine fr_left F (wanted_undef F rfl (t := 28) (by kernel_rfl) rfl) 31 rfl (by decide) ?_
  clear F a9
  intro a9 F
  refine fr_left F (wanted_undef F rfl (t := 28) (by kernel_rfl) rfl) 32 rfl (by decide) ?_
  clear F a9
  intro a9 F
  refine fr_left F (wanted_undef F rfl (t := 28) (by kernel_rfl) rfl) 33 rfl (by decide) ?_
  clear F a9
  intro a9 F
  refine fr_left F (wanted_undef F rfl (t := 28) (by kernel_rfl) rfl) 34 rfl (by decide) ?_
  clear F a9
  intro a9 F
  refine fr_left F (wanted_undef F rfl (t := 28) (by kernel_rfl) rfl) 35 rfl (by decide) ?_
  clear F a9
  intro a9 F
  refine fr_left F (wanted_undef F rfl (t := 28) (by kernel_rfl) rfl) 36 rfl (by decide) ?_
  clear F a9
  intro a9 F
  refine fr_left F (wanted_undef F rfl (t := 28) (by kernel_rfl) rfl) 37 rfl (by decide) ?_
  clear F a9
  intro a9 F
  refine fr_ch F 3 [(7, .bool false), (39, .bool false), (38, undef)] (by kernel_rfl) ?_
  clear F a9
  intro a9 F
  refine wpList_nil ?_
  show Code.wp _ _ _ _ _
  replace F := F.cut [(7, .bool false), (6, .int .u8 0), (2, .pointer (some ⟨N, q, none⟩)), (1, .pointer (some ⟨p, 0, none⟩)), (0, kv)] (by kernel_rfl)
  refine wp_seq ?_
  refine wp_region_lit ?_
  refine fr_ch F 3 [(42, .pointer (some ⟨p, 1, none⟩))] (by kernel_rfl) ?_
  clear F a9
  intro a9 F
  refine fr_do F (wanted_free rfl) 43 rfl (by decide) (.pointer (some ⟨N, d, none⟩)) (by intro a' F'; have h42 := F'.at' 42 _ rfl; have hc : w9.cell? ⟨p, 1, none⟩ = some (.pointer (some ⟨N, d, none⟩)) := (HP.cells 1).trans (congrArg (fun z => some (ptrN N z)) hd); go_simp) ?_
  clear F a9
  intro a9 F
  refine fr_ch F 1 [(8, .pointer (some ⟨N, d, none⟩))] (by kernel_rfl) ?_
  clear F a9
  intro a9 F
  refine wpList_nil ?_
  show Code.wp _ _ _ _ _
  replace F := F.cut [(8, .pointer (some ⟨N, d, none⟩)), (7, .bool false), (6, .int .u8 0), (2, .pointer (some ⟨N, q, none⟩)), (1, .pointer (some ⟨p, 0, none⟩)), (0, kv)] (by kernel_rfl)
  refine wp_seq ?_
  refine wp_seq ?_
  refine wp_region_lit ?_
  refine fr_ch F 2 [(45, .bool false)] (by kernel_rfl) ?_
  clear F a9
  intro a9 F
  refine wpList_nil ?_
  show Code.wp _ _ _ _ _
  refine wp_cond_false (F.ev 45 rfl) ?_
  refine wp_skip ?_
  show Code.wp _ _ _ _ _
  replace F := F.cut [(8, .pointer (some ⟨N, d, none⟩)), (7, .bool false), (6, .int .u8 0), (2, .pointer (some ⟨N, q, none⟩)), (1, .pointer (some ⟨p, 0, none⟩)), (0, kv)] (by kernel_rfl)
  refine wp_seq ?_
  refine wp_region_noPanic ?_
  have hb8 : Below w9.heap.size w9 w9.drew := below_draws (n := 1) rfl
  replace HK := HK.below hb8
  replace HP := HP.below hb8
  replace HON := HON.then hb8
  clear hb8
  refine AnyT.begin (S := fun _ => True) (z := 1000) (by kernel_rfl) trivial (fun hS0 => ?_)
  clear hS0
  generalize w9.drew = w8 at *
  clear w9
  rename World => w9
  refine fr_chT F [0, 1, 2, 3, 4, 5, 6, 7, 8, 9, 10, 11, 12, 13, 14, 15, 16, 17, 18, 19, 20, 21, 22, 23, 24, 25, 26, 27, 28, 29, 30, 31] [(79, .bool false), (78, undef), (77, undef), (76, undef), (75, undef), (74, undef), (73, undef), (72, undef), (71, undef), (70, undef), (69, .bool false), (68, .bool false), (67, undef), (66, undef), (65, undef), (64, undef), (63, undef), (62, undef), (61, undef), (60, undef), (59, undef), (58, .bool false), (57, .bool false), (56, undef), (55, undef), (54, undef), (53, undef), (52, undef), (51, undef), (50, .bool false), (49, .bool false), (48, .bool false)] trivial (by kernel_rfl) ?_
  clear F a9
  intro a9 F
  refine fr_stepC (i := 32) (o := ⟨some 80, _, _, _, _, _⟩) F rfl (wanted_free rfl) 80 rfl (by decide) 46 #[.bool false, .bool false] (by intro a' F'; have h48 := F'.at' 48 _ rfl; have h79 := F'.at' 79 _ rfl; go_simp) (order_reason false false w9) ?_
  rintro e9 w8 ⟨rfl, hb8⟩
  replace HK := HK.below hb8
  replace HP := HP.below hb8
  replace HON := HON.then hb8
  clear hb8
  clear w9
  rename World => w9
  refine ⟨_, rfl, trivial, ?_⟩
  clear F a9
  intro a9 F
  refine fr_chT F [33] [(9, .int .u8 (reasonN false false : Int))] trivial (by kernel_rfl) ?_
  clear F a9
  intro a9 F
  refine AnyT.done (by kernel_rfl) ?_ _
  refine NoPanic.normal ?_
  show Code.wp _ _ _ _ _
  replace F := F.cut [(9, .int .u8 (reasonN false false : Int)), (6, .int .u8 0), (2, .pointer (some ⟨N, q, none⟩)), (1, .pointer (some ⟨p, 0, none⟩)), (0, kv)] (by kernel_rfl)
  have HK2 := HK.withBox ⟨p, paV N x, 83⟩ HP hpl (fun z hz => by cases hz)
  clear HK HP
  have HK := HK2
  clear HK2
  replace HK : Keep w0 [(p, (paV N x), 83)] [] w9 := HK
  refine wp_seq ?_
  refine wp_region_lit ?_
  refine fr_ch F 4 [(84, .pointer (some ⟨p, 4, none⟩)), (82, .pointer (some ⟨N, q, none⟩))] (by kernel_rfl) ?_
  clear F a9
  intro a9 F
  refine fr_putO F HK 0 rfl rfl rfl 52 _ _ rfl 4 (.pointer (some ⟨N, q, none⟩)) (fun a' F' => F'.ev 84 rfl) (fun a' F' => F'.ev 82 rfl) z_pn (Nat.le_of_ble_eq_true (by kernel_rfl)) (by kernel_rfl) ?_
  intro a10 w10 F' HK' HO
  replace HON := HON.trans HO (fun j _ h => h)
  clear HK F HO
  clear a9 w9
  rename World => w9
  rename Act => a9
  have HK := HK'
  have F := F'
  clear HK' F'
  replace HK : Keep w0 [(p, (paV N { x with tells := some q }), 83)] [] w9 := HK
  refine wpList_nil ?_
  show Code.wp _ _ _ _ _
  refine wp_seq ?_
  refine wp_region_lit ?_
  refine fr_mv F (wanted_free rfl) 85 rfl (by decide) 9 rfl rfl ?_
  clear F a9
  intro a9 F
  refine fr_as F (wanted_free rfl) 6 rfl (by decide) 85 rfl rfl ?_
  clear F a9
  intro a9 F
  refine wpList_nil ?_
  show Code.wp _ _ _ _ _
  refine wp_ret ?_
  exact fr_ret1 F rfl _ rfl (FIN.out _ _ (rfl) (HK.at 0 rfl) HON (HK.sub (List.nil_sublist _) (fun r hr => hr)))
set_option maxRecDepth 100000 in
set_option maxHeartbeats 4000000 in
theorem tells_no1 {w0 w : World} {p N q : Nat} {x : Pa} {n : Nt} {a : Option Addr} {c : Nat} (kv : Value) (HK : Keep w0 [] [] w) (HP : BoxAt w p (paV N x) 83) (hpl : w0.heap.size ≤ p) (hn : NtAt w0 N q n a c) (hx : x.asks = none) (hd : x.does = none) : Calls Tryd.prog 26 #[kv, .pointer (some ⟨p, 0, none⟩), .pointer (some ⟨N, q, none⟩)] w (RetS w0 w p N (2) ({ x with tells := some q })) := by
  obtain ⟨RR, hRR⟩ : ∃ RR : Ending → World → Prop, RR = RetS w0 w p N (2) ({ x with tells := some q }) := ⟨_, rfl⟩
  have FIN := Lib.hid (show ∀ r w', r = 2 → BoxAt w' p (paV N ({ x with tells := some q })) 83 → Only (fun j => j = p) w w' → Keep w0 [] [] w' → RR (.returned (.int .u8 (r : Int))) w' from fun r w' h1 h2 h3 h4 => by rw [hRR, h1]; exact ⟨rfl, h2, h3, h4⟩)
  rw [← hRR]
  have HN0 := Lib.hid hn
  obtain ⟨w9, hw9⟩ : ∃ w9, w9 = w := ⟨_, rfl⟩
  have HON : Only (fun j => j = p) w w9 := by rw [hw9]; exact Only.refl _ _
  rw [← hw9] at HK HP
  suffices hgo : Calls Tryd.prog 26 #[kv, .pointer (some ⟨p, 0, none⟩), .pointer (some ⟨N, q, none⟩)] w9 RR by rw [hw9] at hgo; exact hgo
  clear hw9 hRR hn
  go_enter Tryd.func26, Tryd.ntmps26
  refine wp_forget (n := 86) (L := [(2, .pointer (some ⟨N, q, none⟩)), (1, .pointer (some ⟨p, 0, none⟩)), (0, kv)]) (FrL.add (FrL.add (FrL.add (FrL.nil ?_ ?_) _ _ ?_) _ _ ?_) _ _ ?_) ?_
  iterate 5 rfl
  intro a9 F
  refine wp_seq ?_
  refine wp_region_lit ?_
  refine fr_ch F 1 [(6, .int .u8 0)] (by kernel_rfl) ?_
  clear F a9
  intro a9 F
  refine wpList_nil ?_
  show Code.wp _ _ _ _ _
  refine wp_seq ?_
  refine wp_region_lit ?_
  refine fr_ch F 3 [(12, .pointer (some ⟨p, 0, none⟩)), (11, .pointer (some ⟨p, 0, none⟩)), (10, .pointer (some ⟨p, 0, none⟩))] (by kernel_rfl) ?_
  clear F a9
  intro a9 F
  refine fr_do F (wanted_free rfl) 13 rfl (by decide) (.pointer none) (by intro a' F'; have h12 := F'.at' 12 _ rfl; have hc : w9.cell? ⟨p, 0, none⟩ = some (.pointer none) := (HP.cells 0).trans (congrArg (fun z => some (ptrN N z)) hx); go_simp) ?_
  clear F a9
  intro a9 F
  refine fr_ch F 15 [(28, undef), (27, undef), (26, undef), (25, undef), (24, undef), (23, undef), (22, .bool false), (21, .bool false), (20, undef), (19, undef), (18, undef), (17, undef), (16, undef), (15, .bool false), (14, .bool false)] (by kernel_rfl) ?_
  clear F a9
  intro a9 F
  refine fr_left F (wanted_undef F rfl (t := 28) (by kernel_rfl) rfl) 29 rfl (by decide) ?_
  clear F a9
  intro a9 F
  refine fr_left F (wanted_undef F rfl (t := 28) (by kernel_rfl) rfl) 30 rfl (by decide) ?_
  clear F a9
  intro a9 F
  refine fr_left F (wanted_undef F rfl (t := 28) (by kernel_rfl) rfl) 31 rfl (by decide) ?_
  clear F a9
  intro a9 F
  refine fr_left F (wanted_undef F rfl (t := 28) (by kernel_rfl) rfl) 32 rfl (by decide) ?_
  clear F a9
  intro a9 F
  refine fr_left F (wanted_undef F rfl (t := 28) (by kernel_rfl) rfl) 33 rfl (by decide) ?_
  clear F a9
  intro a9 F
  refine fr_left F (wanted_undef F rfl (t := 28) (by kernel_rfl) rfl) 34 rfl (by decide) ?_
  clear F a9
  intro a9 F
  refine fr_left F (wanted_undef F rfl (t := 28) (by kernel_rfl) rfl) 35 rfl (by decide) ?_
  clear F a9
  intro a9 F
  refine fr_left F (wanted_undef F rfl (t := 28) (by kernel_rfl) rfl) 36 rfl (by decide) ?_
  clear F a9
  intro a9 F
  refine fr_left F (wanted_undef F rfl (t := 28) (by kernel_rfl) rfl) 37 rfl (by decide) ?_
  clear F a9
  intro a9 F
  refine fr_ch F 3 [(7, .bool false), (39, .bool false), (38, undef)] (by kernel_rfl) ?_
  clear F a9
  intro a9 F
  refine wpList_nil ?_
  show Code.wp _ _ _ _ _
  replace F := F.cut [(7, .bool false), (6, .int .u8 0), (2, .pointer (some ⟨N, q, none⟩)), (1, .pointer (some ⟨p, 0, none⟩)), (0, kv)] (by kernel_rfl)
  refine wp_seq ?_
  refine wp_region_lit ?_
  refine fr_ch F 3 [(42, .pointer (some ⟨p, 1, none⟩))] (by kernel_rfl) ?_
  clear F a9
  intro a9 F
  refine fr_do F (wanted_free rfl) 43 rfl (by decide) (.pointer none) (by intro a' F'; have h42 := F'.at' 42 _ rfl; have hc : w9.cell? ⟨p, 1, none⟩ = some (.pointer none) := (HP.cells 1).trans (congrArg (fun z => some (ptrN N z)) hd); go_simp) ?_
  clear F a9
  intro a9 F
  refine fr_ch F 1 [(8, .pointer none)] (by kernel_rfl) ?_
  clear F a9
  intro a9 F
  refine wpList_nil ?_
  show Code.wp _ _ _ _ _
  replace F := F.cut [(8, .pointer none), (7, .bool false), (6, .int .u8 0), (2, .pointer (some ⟨N, q, none⟩)), (1, .pointer (some ⟨p, 0, none⟩)), (0, kv)] (by kernel_rfl)
  refine wp_seq ?_
  refine wp_seq ?_
  refine wp_region_lit ?_
  refine fr_ch F 2 [(45, .bool true)] (by kernel_rfl) ?_
  clear F a9
  intro a9 F
  refine wpList_nil ?_
  show Code.wp _ _ _ _ _
  refine wp_cond_true (F.ev 45 rfl) ?_
  refine wp_region_lit ?_
  refine fr_ch F 1 [(46, .agg (ntV Nt.zero none 0))] (by kernel_rfl) ?_
  clear F a9
  intro a9 F
  refine fr_box F HK 47 (by decide) rfl 35 _ rfl rfl (ntV Nt.zero none 0) (fun a' F' => F'.ev 46 rfl) ?_
  rintro Z a10 w10 hX F' HK' hb
  replace HP := HP.below hb
  replace HON := HON.then hb
  clear HK F hb hX
  clear a9 w9
  rename World => w9
  rename Act => a9
  have HK := HK'
  have F := F'
  clear HK' F'
  replace HK : Keep w0 [(Z, (ntV Nt.zero none 0), 35)] [] w9 := HK
  refine fr_as F (wanted_free rfl) 8 rfl (by decide) 47 rfl rfl ?_
  clear F a9
  intro a9 F
  have hpz : Z ≠ p := box_ne (HK.at 0 rfl) HP (by decide)
  refine wpList_nil ?_
  show Code.wp _ _ _ _ _
  replace F := F.cut [(8, .pointer (some ⟨Z, 0, none⟩)), (7, .bool false), (6, .int .u8 0), (2, .pointer (some ⟨N, q, none⟩)), (1, .pointer (some ⟨p, 0, none⟩)), (0, kv)] (by kernel_rfl)
  refine wp_seq ?_
  refine wp_region_noPanic ?_
  have hb8 : Below w9.heap.size w9 w9.drew := below_draws (n := 1) rfl
  replace HK := HK.below hb8
  replace HP := HP.below hb8
  replace HON := HON.then hb8
  clear hb8
  refine AnyT.begin (S := fun _ => True) (z := 1000) (by kernel_rfl) trivial (fun hS0 => ?_)
  clear hS0
  generalize w9.drew = w8 at *
  clear w9
  rename World => w9
  refine fr_chT F [0, 1, 2, 3, 4, 5, 6, 7, 8, 9, 10, 11, 12, 13, 14, 15, 16, 17, 18, 19, 20, 21, 22, 23, 24, 25, 26, 27, 28, 29, 30, 31] [(79, .bool false), (78, undef), (77, undef), (76, undef), (75, undef), (74, undef), (73, undef), (72, undef), (71, undef), (70, undef), (69, .bool false), (68, .bool false), (67, undef), (66, undef), (65, undef), (64, undef), (63, undef), (62, undef), (61, undef), (60, undef), (59, undef), (58, .bool false), (57, .bool false), (56, undef), (55, undef), (54, undef), (53, undef), (52, undef), (51, undef), (50, .bool false), (49, .bool false), (48, .bool false)] trivial (by kernel_rfl) ?_
  clear F a9
  intro a9 F
  refine fr_stepC (i := 32) (o := ⟨some 80, _, _, _, _, _⟩) F rfl (wanted_free rfl) 80 rfl (by decide) 46 #[.bool false, .bool false] (by intro a' F'; have h48 := F'.at' 48 _ rfl; have h79 := F'.at' 79 _ rfl; go_simp) (order_reason false false w9) ?_
  rintro e9 w8 ⟨rfl, hb8⟩
  replace HK := HK.below hb8
  replace HP := HP.below hb8
  replace HON := HON.then hb8
  clear hb8
  clear w9
  rename World => w9
  refine ⟨_, rfl, trivial, ?_⟩
  clear F a9
  intro a9 F
  refine fr_chT F [33] [(9, .int .u8 (reasonN false false : Int))] trivial (by kernel_rfl) ?_
  clear F a9
  intro a9 F
  refine AnyT.done (by kernel_rfl) ?_ _
  refine NoPanic.normal ?_
  show Code.wp _ _ _ _ _
  replace F := F.cut [(9, .int .u8 (reasonN false false : Int)), (6, .int .u8 0), (2, .pointer (some ⟨N, q, none⟩)), (1, .pointer (some ⟨p, 0, none⟩)), (0, kv)] (by kernel_rfl)
  have HK2 := HK.withBox ⟨p, paV N x, 83⟩ HP hpl (fun z hz => by rw [List.mem_singleton.1 hz]; exact hpz)
  clear HK HP
  have HK := HK2
  clear HK2
  replace HK : Keep w0 [(p, (paV N x), 83), (Z, (ntV Nt.zero none 0), 35)] [] w9 := HK
  refine wp_seq ?_
  refine wp_region_lit ?_
  refine fr_ch F 4 [(84, .pointer (some ⟨p, 4, none⟩)), (82, .pointer (some ⟨N, q, none⟩))] (by kernel_rfl) ?_
  clear F a9
  intro a9 F
  refine fr_putO F HK 0 rfl rfl rfl 52 _ _ rfl 4 (.pointer (some ⟨N, q, none⟩)) (fun a' F' => F'.ev 84 rfl) (fun a' F' => F'.ev 82 rfl) z_pn (Nat.le_of_ble_eq_true (by kernel_rfl)) (by kernel_rfl) ?_
  intro a10 w10 F' HK' HO
  replace HON := HON.trans HO (fun j _ h => h)
  clear HK F HO
  clear a9 w9
  rename World => w9
  rename Act => a9
  have HK := HK'
  have F := F'
  clear HK' F'
  replace HK : Keep w0 [(p, (paV N { x with tells := some q }), 83), (Z, (ntV Nt.zero none 0), 35)] [] w9 := HK
  refine wpList_nil ?_
  show Code.wp _ _ _ _ _
  refine wp_seq ?_
  refine wp_region_lit ?_
  refine fr_mv F (wanted_free rfl) 85 rfl (by decide) 9 rfl rfl ?_
  clear F a9
  intro a9 F
  refine fr_as F (wanted_free rfl) 6 rfl (by decide) 85 rfl rfl ?_
  clear F a9
  intro a9 F
  refine wpList_nil ?_
  show Code.wp _ _ _ _ _
  refine wp_ret ?_
  exact fr_ret1 F rfl _ rfl (FIN.out _ _ (rfl) (HK.at 0 rfl) HON (HK.sub (List.nil_sublist _) (fun r hr => hr)))
set_option maxRecDepth 100000 in
set_option maxHeartbeats 4000000 in
theorem tells_no2d {w0 w : World} {p N q : Nat} {x : Pa} {n : Nt} {a : Option Addr} {c : Nat} (kv : Value) (HK : Keep w0 [] [] w) (HP : BoxAt w p (paV N x) 83) (hpl : w0.heap.size ≤ p) (hn : NtAt w0 N q n a c) {s t d : Nat} (hx : x.asks = some s) (ht : x.tells = some t) (hd : x.does = some d) : Calls Tryd.prog 26 #[kv, .pointer (some ⟨p, 0, none⟩), .pointer (some ⟨N, q, none⟩)] w (RetS w0 w p N (2) ({ x with tells := some q })) := by
  obtain ⟨RR, hRR⟩ : ∃ RR : Ending → World → Prop, RR = RetS w0 w p N (2) ({ x with tells := some q }) := ⟨_, rfl⟩
  have FIN := Lib.hid (show ∀ r w', r = 2 → BoxAt w' p (paV N ({ x with tells := some q })) 83 → Only (fun j => j = p) w w' → Keep w0 [] [] w' → RR (.returned (.int .u8 (r : Int))) w' from fun r w' h1 h2 h3 h4 => by rw [hRR, h1]; exact ⟨rfl, h2, h3, h4⟩)
  rw [← hRR]
  have HN0 := Lib.hid hn
  obtain ⟨w9, hw9⟩ : ∃ w9, w9 = w := ⟨_, rfl⟩
  have HON : Only (fun j => j = p) w w9 := by rw [hw9]; exact Only.refl _ _
  rw [← hw9] at HK HP
  suffices hgo : Calls Tryd.prog 26 #[kv, .pointer (some ⟨p, 0, none⟩), .pointer (some ⟨N, q, none⟩)] w9 RR by rw [hw9] at hgo; exact hgo
  clear hw9 hRR hn
  go_enter Tryd.func26, Tryd.ntmps26
  refine wp_forget (n := 86) (L := [(2, .pointer (some ⟨N, q, none⟩)), (1, .pointer (some ⟨p, 0, none⟩)), (0, kv)]) (FrL.add (FrL.add (FrL.add (FrL.nil ?_ ?_) _ _ ?_) _ _ ?_) _ _ ?_) ?_
  iterate 5 rfl
  intro a9 F
  refine wp_seq ?_
  refine wp_region_lit ?_
  refine fr_ch F 1 [(6, .int .u8 0)] (by kernel_rfl) ?_
  clear F a9
  intro a9 F
  refine wpList_nil ?_
  show Code.wp _ _ _ _ _
  refine wp_seq ?_
  refine wp_region_lit ?_
  refine fr_ch F 3 [(12, .pointer (some ⟨p, 0, none⟩)), (11, .pointer (some ⟨p, 0, none⟩)), (10, .pointer (some ⟨p, 0, none⟩))] (by kernel_rfl) ?_
  clear F a9
  intro a9 F
  refine fr_do F (wanted_free rfl) 13 rfl (by decide) (.pointer (some ⟨N, s, none⟩)) (by intro a' F'; have h12 := F'.at' 12 _ rfl; have hc : w9.cell? ⟨p, 0, none⟩ = some (.pointer (some ⟨N, s, none⟩)) := (HP.cells 0).trans (congrArg (fun z => some (ptrN N z)) hx); go_simp) ?_
  clear F a9
  intro a9 F
  refine fr_ch F 2 [(15, .bool true), (14, .bool true)] (by kernel_rfl) ?_
  clear F a9
  intro a9 F
  refine fr_mv F (by rw [wanted_at F rfl (t := 15) (b := true) (by kernel_rfl) rfl]; rfl) 16 rfl (by decide) 1 rfl rfl ?_
  clear F a9
  intro a9 F
  refine fr_nc F (by rw [wanted_at F rfl (t := 15) (b := true) (by kernel_rfl) rfl]; rfl) 17 rfl (by decide) 16 rfl rfl ?_
  clear F a9
  intro a9 F
  refine fr_ch F 1 [(18, .pointer (some ⟨p, 4, none⟩))] (by kernel_rfl) ?_
  clear F a9
  intro a9 F
  refine fr_do F (by rw [wanted_at F rfl (t := 15) (b := true) (by kernel_rfl) rfl]; rfl) 19 rfl (by decide) (.pointer (some ⟨N, t, none⟩)) (by intro a' F'; have h18 := F'.at' 18 _ rfl; have hc : w9.cell? ⟨p, 4, none⟩ = some (.pointer (some ⟨N, t, none⟩)) := (HP.cells 4).trans (congrArg (fun z => some (ptrN N z)) ht); go_simp) ?_
  clear F a9
  intro a9 F
  refine fr_ch F 9 [(28, undef), (27, undef), (26, undef), (25, undef), (24, undef), (23, undef), (22, .bool false), (21, .bool false), (20, .bool false)] (by kernel_rfl) ?_
  clear F a9
  intro a9 F
  refine fr_left F (wanted_undef F rfl (t := 28) (by kernel_rfl) rfl) 29 rfl (by decide) ?_
  clear F a9
  intro a9 F
  refine fr_left F (wanted_undef F rfl (t := 28) (by kernel_rfl) rfl) 30 rfl (by decide) ?_
  clear F a9
  intro a9 F
  refine fr_left F (wanted_undef F rfl (t := 28) (by kernel_rfl) rfl) 31 rfl (by decide) ?_
  clear F a9
  intro a9 F
  refine fr_left F (wanted_undef F rfl (t := 28) (by kernel_rfl) rfl) 32 rfl (by decide) ?_
  clear F a9
  intro a9 F
  refine fr_left F (wanted_undef F rfl (t := 28) (by kernel_rfl) rfl) 33 rfl (by decide) ?_
  clear F a9
  intro a9 F
  refine fr_left F (wanted_undef F rfl (t := 28) (by kernel_rfl) rfl) 34 rfl (by decide) ?_
  clear F a9
  intro a9 F
  refine fr_left F (wanted_undef F rfl (t := 28) (by kernel_rfl) rfl) 35 rfl (by decide) ?_
  clear F a9
  intro a9 F
  refine fr_left F (wanted_undef F rfl (t := 28) (by kernel_rfl) rfl) 36 rfl (by decide) ?_
  clear F a9
  intro a9 F
  refine fr_left F (wanted_undef F rfl (t := 28) (by kernel_rfl) rfl) 37 rfl (by decide) ?_
  clear F a9
  intro a9 F
  refine fr_ch F 3 [(7, .bool false), (39, .bool false), (38, undef)] (by kernel_rfl) ?_
  clear F a9
  intro a9 F
  refine wpList_nil ?_
  show Code.wp _ _ _ _ _
  replace F := F.cut [(7, .bool false), (6, .int .u8 0), (2, .pointer (some ⟨N, q, none⟩)), (1, .pointer (some ⟨p, 0, none⟩)), (0, kv)] (by kernel_rfl)
  refine wp_seq ?_
  refine wp_region_lit ?_
  refine fr_ch F 3 [(42, .pointer (some ⟨p, 1, none⟩))] (by kernel_rfl) ?_
  clear F a9
  intro a9 F
  refine fr_do F (wanted_free rfl) 43 rfl (by decide) (.pointer (some ⟨N, d, none⟩)) (by intro a' F'; have h42 := F'.at' 42 _ rfl; have hc : w9.cell? ⟨p, 1, none⟩ = some (.pointer (some ⟨N, d, none⟩)) := (HP.cells 1).trans (congrArg (fun z => some (ptrN N z)) hd); go_simp) ?_
  clear F a9
  intro a9 F
  refine fr_ch F 1 [(8, .pointer (some ⟨N, d, none⟩))] (by kernel_rfl) ?_
  clear F a9
  intro a9 F
  refine wpList_nil ?_
  show Code.wp _ _ _ _ _
  replace F := F.cut [(8, .pointer (some ⟨N, d, none⟩)), (7, .bool false), (6, .int .u8 0), (2, .pointer (some ⟨N, q, none⟩)), (1, .pointer (some ⟨p, 0, none⟩)), (0, kv)] (by kernel_rfl)
  refine wp_seq ?_
  refine wp_seq ?_
  refine wp_region_lit ?_
  refine fr_ch F 2 [(45, .bool false)] (by kernel_rfl) ?_
  clear F a9
  intro a9 F
  refine wpList_nil ?_
  show Code.wp _ _ _ _ _
  refine wp_cond_false (F.ev 45 rfl) ?_
  refine wp_skip ?_
  show Code.wp _ _ _ _ _
  replace F := F.cut [(8, .pointer (some ⟨N, d, none⟩)), (7, .bool false), (6, .int .u8 0), (2, .pointer (some ⟨N, q, none⟩)), (1, .pointer (some ⟨p, 0, none⟩)), (0, kv)] (by kernel_rfl)
  refine wp_seq ?_
  refine wp_region_noPanic ?_
  have hb8 : Below w9.heap.size w9 w9.drew := below_draws (n := 1) rfl
  replace HK := HK.below hb8
  replace HP := HP.below hb8
  replace HON := HON.then hb8
  clear hb8
  refine AnyT.begin (S := fun _ => True) (z := 1000) (by kernel_rfl) trivial (fun hS0 => ?_)
  clear hS0
  generalize w9.drew = w8 at *
  clear w9
  rename World => w9
  refine fr_chT F [0, 1, 2, 3, 4, 5, 6, 7, 8, 9, 10, 11, 12, 13, 14, 15, 16, 17, 18, 19, 20, 21, 22, 23, 24, 25, 26, 27, 28, 29, 30, 31] [(79, .bool false), (78, undef), (77, undef), (76, undef), (75, undef), (74, undef), (73, undef), (72, undef), (71, undef), (70, undef), (69, .bool false), (68, .bool false), (67, undef), (66, undef), (65, undef), (64, undef), (63, undef), (62, undef), (61, undef), (60, undef), (59, undef), (58, .bool false), (57, .bool false), (56, undef), (55, undef), (54, undef), (53, undef), (52, undef), (51, undef), (50, .bool false), (49, .bool false), (48, .bool false)] trivial (by kernel_rfl) ?_
  clear F a9
  intro a9 F
  refine fr_stepC (i := 32) (o := ⟨some 80, _, _, _, _, _⟩) F rfl (wanted_free rfl) 80 rfl (by decide) 46 #[.bool false, .bool false] (by intro a' F'; have h48 := F'.at' 48 _ rfl; have h79 := F'.at' 79 _ rfl; go_simp) (order_reason false false w9) ?_
  rintro e9 w8 ⟨rfl, hb8⟩
  replace HK := HK.below hb8
  replace HP := HP.below hb8
  replace HON := HON.then hb8
  clear hb8
  clear w9
  rename World => w9
  refine ⟨_, rfl, trivial, ?_⟩
  clear F a9
  intro a9 F
  refine fr_chT F [33] [(9, .int .u8 (reasonN false false : Int))] trivial (by kernel_rfl) ?_
  clear F a9
  intro a9 F
  refine AnyT.done (by kernel_rfl) ?_ _
  refine NoPanic.normal ?_
  show Code.wp _ _ _ _ _
  replace F := F.cut [(9, .int .u8 (reasonN false false : Int)), (6, .int .u8 0), (2, .pointer (some ⟨N, q, none⟩)), (1, .pointer (some ⟨p, 0, none⟩)), (0, kv)] (by kernel_rfl)
  have HK2 := HK.withBox ⟨p, paV N x, 83⟩ HP hpl (fun z hz => by cases hz)
  clear HK HP
  have HK := HK2
  clear HK2
  replace HK : Keep w0 [(p, (paV N x), 83)] [] w9 := HK
  refine wp_seq ?_
  refine wp_region_lit ?_
  refine fr_ch F 4 [(84, .pointer (some ⟨p, 4, none⟩)), (82, .pointer (some ⟨N, q, none⟩))] (by kernel_rfl) ?_
  clear F a9
  intro a9 F
  refine fr_putO F HK 0 rfl rfl rfl 52 _ _ rfl 4 (.pointer (some ⟨N, q, none⟩)) (fun a' F' => F'.ev 84 rfl) (fun a' F' => F'.ev 82 rfl) z_pn (Nat.le_of_ble_eq_true (by kernel_rfl)) (by kernel_rfl) ?_
  intro a10 w10 F' HK' HO
  replace HON := HON.trans HO (fun j _ h => h)
  clear HK F HO
  clear a9 w9
  rename World => w9
  rename Act => a9
  have HK := HK'
  have F := F'
  clear HK' F'
  replace HK : Keep w0 [(p, (paV N { x with tells := some q }), 83)] [] w9 := HK
  refine wpList_nil ?_
  show Code.wp _ _ _ _ _
  refine wp_seq ?_
  refine wp_region_lit ?_
  refine fr_mv F (wanted_free rfl) 85 rfl (by decide) 9 rfl rfl ?_
  clear F a9
  intro a9 F
  refine fr_as F (wanted_free rfl) 6 rfl (by decide) 85 rfl rfl ?_
  clear F a9
  intro a9 F
  refine wpList_nil ?_
  show Code.wp _ _ _ _ _
  refine wp_ret ?_
  exact fr_ret1 F rfl _ rfl (FIN.out _ _ (rfl) (HK.at 0 rfl) HON (HK.sub (List.nil_sublist _) (fun r hr => hr)))
set_option maxRecDepth 100000 in
set_option maxHeartbeats 4000000 in
theorem tells_no2 {w0 w : World} {p N q : Nat} {x : Pa} {n : Nt} {a : Option Addr} {c : Nat} (kv : Value) (HK : Keep w0 [] [] w) (HP : BoxAt w p (paV N x) 83) (hpl : w0.heap.size ≤ p) (hn : NtAt w0 N q n a c) {s t : Nat} (hx : x.asks = some s) (ht : x.tells = some t) (hd : x.does = none) : Calls Tryd.prog 26 #[kv, .pointer (some ⟨p, 0, none⟩), .pointer (some ⟨N, q, none⟩)] w (RetS w0 w p N (2) ({ x with tells := some q })) := by
  obtain ⟨RR, hRR⟩ : ∃ RR : Ending → World → Prop, RR = RetS w0 w p N (2) ({ x with tells := some q }) := ⟨_, rfl⟩
  have FIN := Lib.hid (show ∀ r w', r = 2 → BoxAt w' p (paV N ({ x with tells := some q })) 83 → Only (fun j => j = p) w w' → Keep w0 [] [] w' → RR (.returned (.int .u8 (r : Int))) w' from fun r w' h1 h2 h3 h4 => by rw [hRR, h1]; exact ⟨rfl, h2, h3, h4⟩)
  rw [← hRR]
  have HN0 := Lib.hid hn
  obtain ⟨w9, hw9⟩ : ∃ w9, w9 = w := ⟨_, rfl⟩
  have HON : Only (fun j => j = p) w w9 := by rw [hw9]; exact Only.refl _ _
  rw [← hw9] at HK HP
  suffices hgo : Calls Tryd.prog 26 #[kv, .pointer (some ⟨p, 0, none⟩), .pointer (some ⟨N, q, none⟩)] w9 RR by rw [hw9] at hgo; exact hgo
  clear hw9 hRR hn
  go_enter Tryd.func26, Tryd.ntmps26
  refine wp_forget (n := 86) (L := [(2, .pointer (some ⟨N, q, none⟩)), (1, .pointer (some ⟨p, 0, none⟩)), (0, kv)]) (FrL.add (FrL.add (FrL.add (FrL.nil ?_ ?_) _ _ ?_) _ _ ?_) _ _ ?_) ?_
  iterate 5 rfl
  intro a9 F
  refine wp_seq ?_
  refine wp_region_lit ?_
  refine fr_ch F 1 [(6, .int .u8 0)] (by kernel_rfl) ?_
  clear F a9
  intro a9 F
  refine wpList_nil ?_
  show Code.wp _ _ _ _ _
  refine wp_seq ?_
  refine wp_region_lit ?_
  refine fr_ch F 3 [(12, .pointer (some ⟨p, 0, none⟩)), (11, .pointer (some ⟨p, 0, none⟩)), (10, .pointer (some ⟨p, 0, none⟩))] (by kernel_rfl) ?_
  clear F a9
  intro a9 F
  refine fr_do F (wanted_free rfl) 13 rfl (by decide) (.pointer (some ⟨N, s, none⟩)) (by intro a' F'; have h12 := F'.at' 12 _ rfl; have hc : w9.cell? ⟨p, 0, none⟩ = some (.pointer (some ⟨N, s, none⟩)) := (HP.cells 0).trans (congrArg (fun z => some (ptrN N z)) hx); go_simp) ?_
  clear F a9
  intro a9 F
  refine fr_ch F 2 [(15, .bool true), (14, .bool true)] (by kernel_rfl) ?_
  clear F a9
  intro a9 F
  refine fr_mv F (by rw [wanted_at F rfl (t := 15) (b := true) (by kernel_rfl) rfl]; rfl) 16 rfl (by decide) 1 rfl rfl ?_
  clear F a9
  intro a9 F
  refine fr_nc F (by rw [wanted_at F rfl (t := 15) (b := true) (by kernel_rfl) rfl]; rfl) 17 rfl (by decide) 16 rfl rfl ?_
  clear F a9
  intro a9 F
  refine fr_ch F 1 [(18, .pointer (some ⟨p, 4, none⟩))] (by kernel_rfl) ?_
  clear F a9
  intro a9 F
  refine fr_do F (by rw [wanted_at F rfl (t := 15) (b := true) (by kernel_rfl) rfl]; rfl) 19 rfl (by decide) (.pointer (some ⟨N, t, none⟩)) (by intro a' F'; have h18 := F'.at' 18 _ rfl; have hc : w9.cell? ⟨p, 4, none⟩ = some (.pointer (some ⟨N, t, none⟩)) := (HP.cells 4).trans (congrArg (fun z => some (ptrN N z)) ht); go_simp) ?_
  clear F a9
  intro a9 F
  refine fr_ch F 9 [(28, undef), (27, undef), (26, undef), (25, undef), (24, undef), (23, undef), (22, .bool false), (21, .bool false), (20, .bool false)] (by kernel_rfl) ?_
  clear F a9
  intro a9 F
  refine fr_left F (wanted_undef F rfl (t := 28) (by kernel_rfl) rfl) 29 rfl (by decide) ?_
  clear F a9
  intro a9 F
  refine fr_left F (wanted_undef F rfl (t := 28) (by kernel_rfl) rfl) 30 rfl (by decide) ?_
  clear F a9
  intro a9 F
  refine fr_left F (wanted_undef F rfl (t := 28) (by kernel_rfl) rfl) 31 rfl (by decide) ?_
  clear F a9
  intro a9 F
  refine fr_left F (wanted_undef F rfl (t := 28) (by kernel_rfl) rfl) 32 rfl (by decide) ?_
  clear F a9
  intro a9 F
  refine fr_left F (wanted_undef F rfl (t := 28) (by kernel_rfl) rfl) 33 rfl (by decide) ?_
  clear F a9
  intro a9 F
  refine fr_left F (wanted_undef F rfl (t := 28) (by kernel_rfl) rfl) 34 rfl (by decide) ?_
  clear F a9
  intro a9 F
  refine fr_left F (wanted_undef F rfl (t := 28) (by kernel_rfl) rfl) 35 rfl (by decide) ?_
  clear F a9
  intro a9 F
  refine fr_left F (wanted_undef F rfl (t := 28) (by kernel_rfl) rfl) 36 rfl (by decide) ?_
  clear F a9
  intro a9 F
  refine fr_left F (wanted_undef F rfl (t := 28) (by kernel_rfl) rfl) 37 rfl (by decide) ?_
  clear F a9
  intro a9 F
  refine fr_ch F 3 [(7, .bool false), (39, .bool false), (38, undef)] (by kernel_rfl) ?_
  clear F a9
  intro a9 F
  refine wpList_nil ?_
  show Code.wp _ _ _ _ _
  replace F := F.cut [(7, .bool false), (6, .int .u8 0), (2, .pointer (some ⟨N, q, none⟩)), (1, .pointer (some ⟨p, 0, none⟩)), (0, kv)] (by kernel_rfl)
  refine wp_seq ?_
  refine wp_region_lit ?_
  refine fr_ch F 3 [(42, .pointer (some ⟨p, 1, none⟩))] (by kernel_rfl) ?_
  clear F a9
  intro a9 F
  refine fr_do F (wanted_free rfl) 43 rfl (by decide) (.pointer none) (by intro a' F'; have h42 := F'.at' 42 _ rfl; have hc : w9.cell? ⟨p, 1, none⟩ = some (.pointer none) := (HP.cells 1).trans (congrArg (fun z => some (ptrN N z)) hd); go_simp) ?_
  clear F a9
  intro a9 F
  refine fr_ch F 1 [(8, .pointer none)] (by kernel_rfl) ?_
  clear F a9
  intro a9 F
  refine wpList_nil ?_
  show Code.wp _ _ _ _ _
  replace F := F.cut [(8, .pointer none), (7, .bool false), (6, .int .u8 0), (2, .pointer (some ⟨N, q, none⟩)), (1, .pointer (some ⟨p, 0, none⟩)), (0, kv)] (by kernel_rfl)
  refine wp_seq ?_
  refine wp_seq ?_
  refine wp_region_lit ?_
  refine fr_ch F 2 [(45, .bool true)] (by kernel_rfl) ?_
  clear F a9
  intro a9 F
  refine wpList_nil ?_
  show Code.wp _ _ _ _ _
  refine wp_cond_true (F.ev 45 rfl) ?_
  refine wp_region_lit ?_
  refine fr_ch F 1 [(46, .agg (ntV Nt.zero none 0))] (by kernel_rfl) ?_
  clear F a9
  intro a9 F
  refine fr_box F HK 47 (by decide) rfl 35 _ rfl rfl (ntV Nt.zero none 0) (fun a' F' => F'.ev 46 rfl) ?_
  rintro Z a10 w10 hX F' HK' hb
  replace HP := HP.below hb
  replace HON := HON.then hb
  clear HK F hb hX
  clear a9 w9
  rename World => w9
  rename Act => a9
  have HK := HK'
  have F := F'
  clear HK' F'
  replace HK : Keep w0 [(Z, (ntV Nt.zero none 0), 35)] [] w9 := HK
  refine fr_as F (wanted_free rfl) 8 rfl (by decide) 47 rfl rfl ?_
  clear F a9
  intro a9 F
  have hpz : Z ≠ p := box_ne (HK.at 0 rfl) HP (by decide)
  refine wpList_nil ?_
  show Code.wp _ _ _ _ _
  replace F := F.cut [(8, .pointer (some ⟨Z, 0, none⟩)), (7, .bool false), (6, .int .u8 0), (2, .pointer (some ⟨N, q, none⟩)), (1, .pointer (some ⟨p, 0, none⟩)), (0, kv)] (by kernel_rfl)
  refine wp_seq ?_
  refine wp_region_noPanic ?_
  have hb8 : Below w9.heap.size w9 w9.drew := below_draws (n := 1) rfl
  replace HK := HK.below hb8
  replace HP := HP.below hb8
  replace HON := HON.then hb8
  clear hb8
  refine AnyT.begin (S := fun _ => True) (z := 1000) (by kernel_rfl) trivial (fun hS0 => ?_)
  clear hS0
  generalize w9.drew = w8 at *
  clear w9
  rename World => w9
  refine fr_chT F [0, 1, 2, 3, 4, 5, 6, 7, 8, 9, 10, 11, 12, 13, 14, 15, 16, 17, 18, 19, 20, 21, 22, 23, 24, 25, 26, 27, 28, 29, 30, 31] [(79, .bool false), (78, undef), (77, undef), (76, undef), (75, undef), (74, undef), (73, undef), (72, undef), (71, undef), (70, undef), (69, .bool false), (68, .bool false), (67, undef), (66, undef), (65, undef), (64, undef), (63, undef), (62, undef), (61, undef), (60, undef), (59, undef), (58, .bool false), (57, .bool false), (56, undef), (55, undef), (54, undef), (53, undef), (52, undef), (51, undef), (50, .bool false), (49, .bool false), (48, .bool false)] trivial (by kernel_rfl) ?_
  clear F a9
  intro a9 F
  refine fr_stepC (i := 32) (o := ⟨some 80, _, _, _, _, _⟩) F rfl (wanted_free rfl) 80 rfl (by decide) 46 #[.bool false, .bool false] (by intro a' F'; have h48 := F'.at' 48 _ rfl; have h79 := F'.at' 79 _ rfl; go_simp) (order_reason false false w9) ?_
  rintro e9 w8 ⟨rfl, hb8⟩
  replace HK := HK.below hb8
  replace HP := HP.below hb8
  replace HON := HON.then hb8
  clear hb8
  clear w9
  rename World => w9
  refine ⟨_, rfl, trivial, ?_⟩
  clear F a9
  intro a9 F
  refine fr_chT F [33] [(9, .int .u8 (reasonN false false : Int))] trivial (by kernel_rfl) ?_
  clear F a9
  intro a9 F
  refine AnyT.done (by kernel_rfl) ?_ _
  refine NoPanic.normal ?_
  show Code.wp _ _ _ _ _
  replace F := F.cut [(9, .int .u8 (reasonN false false : Int)), (6, .int .u8 0), (2, .pointer (some ⟨N, q, none⟩)), (1, .pointer (some ⟨p, 0, none⟩)), (0, kv)] (by kernel_rfl)
  have HK2 := HK.withBox ⟨p, paV N x, 83⟩ HP hpl (fun z hz => by rw [List.mem_singleton.1 hz]; exact hpz)
  clear HK HP
  have HK := HK2
  clear HK2
  replace HK : Keep w0 [(p, (paV N x), 83), (Z, (ntV Nt.zero none 0), 35)] [] w9 := HK
  refine wp_seq ?_
  refine wp_region_lit ?_
  refine fr_ch F 4 [(84, .pointer (some ⟨p, 4, none⟩)), (82, .pointer (some ⟨N, q, none⟩))] (by kernel_rfl) ?_
  clear F a9
  intro a9 F
  refine fr_putO F HK 0 rfl rfl rfl 52 _ _ rfl 4 (.pointer (some ⟨N, q, none⟩)) (fun a' F' => F'.ev 84 rfl) (fun a' F' => F'.ev 82 rfl) z_pn (Nat.le_of_ble_eq_true (by kernel_rfl)) (by kernel_rfl) ?_
  intro a10 w10 F' HK' HO
  replace HON := HON.trans HO (fun j _ h => h)
  clear HK F HO
  clear a9 w9
  rename World => w9
  rename Act => a9
  have HK := HK'
  have F := F'
  clear HK' F'
  replace HK : Keep w0 [(p, (paV N { x with tells := some q }), 83), (Z, (ntV Nt.zero none 0), 35)] [] w9 := HK
  refine wpList_nil ?_
  show Code.wp _ _ _ _ _
  refine wp_seq ?_
  refine wp_region_lit ?_
  refine fr_mv F (wanted_free rfl) 85 rfl (by decide) 9 rfl rfl ?_
  clear F a9
  intro a9 F
  refine fr_as F (wanted_free rfl) 6 rfl (by decide) 85 rfl rfl ?_
  clear F a9
  intro a9 F
  refine wpList_nil ?_
  show Code.wp _ _ _ _ _
  refine wp_ret ?_
  exact fr_ret1 F rfl _ rfl (FIN.out _ _ (rfl) (HK.at 0 rfl) HON (HK.sub (List.nil_sublist _) (fun r hr => hr)))
set_option maxRecDepth 100000 in
set_option maxHeartbeats 4000000 in
theorem tells_no3 {w0 w : World} {p N q : Nat} {x : Pa} {n : Nt} {a : Option Addr} {c : Nat} (kv : Value) (HK : Keep w0 [] [] w) (HP : BoxAt w p (paV N x) 83) (hpl : w0.heap.size ≤ p) (hn : NtAt w0 N q n a c) {s : Nat} {n2 : Nt} {a2 : Option Addr} {c2 : Nat} (hx : x.asks = some s) (ht : x.tells = none) (hd : x.does = none) (hs : NtAt w0 N s n2 a2 c2) (hty : ¬ n2.p.ty = 3) : Calls Tryd.prog 26 #[kv, .pointer (some ⟨p, 0, none⟩), .pointer (some ⟨N, q, none⟩)] w (RetS w0 w p N (2) ({ x with tells := some q })) := by
  obtain ⟨RR, hRR⟩ : ∃ RR : Ending → World → Prop, RR = RetS w0 w p N (2) ({ x with tells := some q }) := ⟨_, rfl⟩
  have FIN := Lib.hid (show ∀ r w', r = 2 → BoxAt w' p (paV N ({ x with tells := some q })) 83 → Only (fun j => j = p) w w' → Keep w0 [] [] w' → RR (.returned (.int .u8 (r : Int))) w' from fun r w' h1 h2 h3 h4 => by rw [hRR, h1]; exact ⟨rfl, h2, h3, h4⟩)
  rw [← hRR]
  have HN0 := Lib.hid hn
  obtain ⟨w9, hw9⟩ : ∃ w9, w9 = w := ⟨_, rfl⟩
  have HON : Only (fun j => j = p) w w9 := by rw [hw9]; exact Only.refl _ _
  rw [← hw9] at HK HP
  suffices hgo : Calls Tryd.prog 26 #[kv, .pointer (some ⟨p, 0, none⟩), .pointer (some ⟨N, q, none⟩)] w9 RR by rw [hw9] at hgo; exact hgo
  clear hw9 hRR hn
  go_enter Tryd.func26, Tryd.ntmps26
  refine wp_forget (n := 86) (L := [(2, .pointer (some ⟨N, q, none⟩)), (1, .pointer (some ⟨p, 0, none⟩)), (0, kv)]) (FrL.add (FrL.add (FrL.add (FrL.nil ?_ ?_) _ _ ?_) _ _ ?_) _ _ ?_) ?_
  iterate 5 rfl
  intro a9 F
  have HS0 := Lib.hid hs
  clear hs
  refine wp_seq ?_
  refine wp_region_lit ?_
  refine fr_ch F 1 [(6, .int .u8 0)] (by kernel_rfl) ?_
  clear F a9
  intro a9 F
  refine wpList_nil ?_
  show Code.wp _ _ _ _ _
  refine wp_seq ?_
  refine wp_region_lit ?_
  refine fr_ch F 3 [(12, .pointer (some ⟨p, 0, none⟩)), (11, .pointer (some ⟨p, 0, none⟩)), (10, .pointer (some ⟨p, 0, none⟩))] (by kernel_rfl) ?_
  clear F a9
  intro a9 F
  refine fr_do F (wanted_free rfl) 13 rfl (by decide) (.pointer (some ⟨N, s, none⟩)) (by intro a' F'; have h12 := F'.at' 12 _ rfl; have hc : w9.cell? ⟨p, 0, none⟩ = some (.pointer (some ⟨N, s, none⟩)) := (HP.cells 0).trans (congrArg (fun z => some (ptrN N z)) hx); go_simp) ?_
  clear F a9
  intro a9 F
  refine fr_ch F 2 [(15, .bool true), (14, .bool true)] (by kernel_rfl) ?_
  clear F a9
  intro a9 F
  refine fr_mv F (by rw [wanted_at F rfl (t := 15) (b := true) (by kernel_rfl) rfl]; rfl) 16 rfl (by decide) 1 rfl rfl ?_
  clear F a9
  intro a9 F
  refine fr_nc F (by rw [wanted_at F rfl (t := 15) (b := true) (by kernel_rfl) rfl]; rfl) 17 rfl (by decide) 16 rfl rfl ?_
  clear F a9
  intro a9 F
  refine fr_ch F 1 [(18, .pointer (some ⟨p, 4, none⟩))] (by kernel_rfl) ?_
  clear F a9
  intro a9 F
  refine fr_do F (by rw [wanted_at F rfl (t := 15) (b := true) (by kernel_rfl) rfl]; rfl) 19 rfl (by decide) (.pointer none) (by intro a' F'; have h18 := F'.at' 18 _ rfl; have hc : w9.cell? ⟨p, 4, none⟩ = some (.pointer none) := (HP.cells 4).trans (congrArg (fun z => some (ptrN N z)) ht); go_simp) ?_
  clear F a9
  intro a9 F
  refine fr_ch F 3 [(22, .bool true), (21, .bool true), (20, .bool true)] (by kernel_rfl) ?_
  clear F a9
  intro a9 F
  refine fr_mv F (by rw [wanted_at F rfl (t := 22) (b := true) (by kernel_rfl) rfl]; rfl) 23 rfl (by decide) 1 rfl rfl ?_
  clear F a9
  intro a9 F
  refine fr_nc F (by rw [wanted_at F rfl (t := 22) (b := true) (by kernel_rfl) rfl]; rfl) 24 rfl (by decide) 23 rfl rfl ?_
  clear F a9
  intro a9 F
  refine fr_ch F 1 [(25, .pointer (some ⟨p, 1, none⟩))] (by kernel_rfl) ?_
  clear F a9
  intro a9 F
  refine fr_do F (by rw [wanted_at F rfl (t := 22) (b := true) (by kernel_rfl) rfl]; rfl) 26 rfl (by decide) (.pointer none) (by intro a' F'; have h25 := F'.at' 25 _ rfl; have hc : w9.cell? ⟨p, 1, none⟩ = some (.pointer none) := (HP.cells 1).trans (congrArg (fun z => some (ptrN N z)) hd); go_simp) ?_
  clear F a9
  intro a9 F
  refine fr_ch F 2 [(28, .bool false), (27, .bool false)] (by kernel_rfl) ?_
  clear F a9
  intro a9 F
  refine fr_mv F (by rw [wanted_at F rfl (t := 28) (b := false) (by kernel_rfl) rfl]; rfl) 29 rfl (by decide) 1 rfl rfl ?_
  clear F a9
  intro a9 F
  refine fr_nc F (by rw [wanted_at F rfl (t := 28) (b := false) (by kernel_rfl) rfl]; rfl) 30 rfl (by decide) 29 rfl rfl ?_
  clear F a9
  intro a9 F
  refine fr_ch F 1 [(31, .pointer (some ⟨p, 0, none⟩))] (by kernel_rfl) ?_
  clear F a9
  intro a9 F
  refine fr_do F (by rw [wanted_at F rfl (t := 28) (b := false) (by kernel_rfl) rfl]; rfl) 32 rfl (by decide) (.pointer (some ⟨N, s, none⟩)) (by intro a' F'; have h31 := F'.at' 31 _ rfl; have hc : w9.cell? ⟨p, 0, none⟩ = some (.pointer (some ⟨N, s, none⟩)) := (HP.cells 0).trans (congrArg (fun z => some (ptrN N z)) hx); go_simp) ?_
  clear F a9
  intro a9 F
  refine fr_nc F (by rw [wanted_at F rfl (t := 28) (b := false) (by kernel_rfl) rfl]; rfl) 33 rfl (by decide) 32 rfl rfl ?_
  clear F a9
  intro a9 F
  refine fr_ch F 2 [(35, .pointer (some ⟨N, s + 4, none⟩)), (34, .pointer (some ⟨N, s + 4, none⟩))] (by kernel_rfl) ?_
  clear F a9
  intro a9 F
  refine fr_do F (by rw [wanted_at F rfl (t := 28) (b := false) (by kernel_rfl) rfl]; rfl) 36 rfl (by decide) (.int .u8 (n2.p.ty : Int)) (by intro a' F'; have h35 := F'.at' 35 _ rfl; have hc : w9.cell? ⟨N, s + 4, none⟩ = some (.int .u8 (n2.p.ty : Int)) := ((HS0.out.low HK.low)).cell 4 _ rfl; go_simp) ?_
  clear F a9
  intro a9 F
  refine fr_do F (by rw [wanted_at F rfl (t := 28) (b := false) (by kernel_rfl) rfl]; rfl) 37 rfl (by decide) (.bool false) (by intro a' F'; have h36 := F'.at' 36 _ rfl; go_simp <;> omega) ?_
  clear F a9
  intro a9 F
  refine fr_ch F 3 [(7, .bool false), (39, .bool false), (38, .bool false)] (by kernel_rfl) ?_
  clear F a9
  intro a9 F
  refine wpList_nil ?_
  show Code.wp _ _ _ _ _
  replace F := F.cut [(7, .bool false), (6, .int .u8 0), (2, .pointer (some ⟨N, q, none⟩)), (1, .pointer (some ⟨p, 0, none⟩)), (0, kv)] (by kernel_rfl)
  refine wp_seq ?_
  refine wp_region_lit ?_
  refine fr_ch F 3 [(42, .pointer (some ⟨p, 1, none⟩))] (by kernel_rfl) ?_
  clear F a9
  intro a9 F
  refine fr_do F (wanted_free rfl) 43 rfl (by decide) (.pointer none) (by intro a' F'; have h42 := F'.at' 42 _ rfl; have hc : w9.cell? ⟨p, 1, none⟩ = some (.pointer none) := (HP.cells 1).trans (congrArg (fun z => some (ptrN N z)) hd); go_simp) ?_
  clear F a9
  intro a9 F
  refine fr_ch F 1 [(8, .pointer none)] (by kernel_rfl) ?_
  clear F a9
  intro a9 F
  refine wpList_nil ?_
  show Code.wp _ _ _ _ _
  replace F := F.cut [(8, .pointer none), (7, .bool false), (6, .int .u8 0), (2, .pointer (some ⟨N, q, none⟩)), (1, .pointer (some ⟨p, 0, none⟩)), (0, kv)] (by kernel_rfl)
  refine wp_seq ?_
  refine wp_seq ?_
  refine wp_region_lit ?_
  refine fr_ch F 2 [(45, .bool true)] (by kernel_rfl) ?_
  clear F a9
  intro a9 F
  refine wpList_nil ?_
  show Code.wp _ _ _ _ _
  refine wp_cond_true (F.ev 45 rfl) ?_
  refine wp_region_lit ?_
  refine fr_ch F 1 [(46, .agg (ntV Nt.zero none 0))] (by kernel_rfl) ?_
  clear F a9
  intro a9 F
  refine fr_box F HK 47 (by decide) rfl 35 _ rfl rfl (ntV Nt.zero none 0) (fun a' F' => F'.ev 46 rfl) ?_
  rintro Z a10 w10 hX F' HK' hb
  replace HP := HP.below hb
  replace HON := HON.then hb
  clear HK F hb hX
  clear a9 w9
  rename World => w9
  rename Act => a9
  have HK := HK'
  have F := F'
  clear HK' F'
  replace HK : Keep w0 [(Z, (ntV Nt.zero none 0), 35)] [] w9 := HK
  refine fr_as F (wanted_free rfl) 8 rfl (by decide) 47 rfl rfl ?_
  clear F a9
  intro a9 F
  have hpz : Z ≠ p := box_ne (HK.at 0 rfl) HP (by decide)
  refine wpList_nil ?_
  show Code.wp _ _ _ _ _
  replace F := F.cut [(8, .pointer (some ⟨Z, 0, none⟩)), (7, .bool false), (6, .int .u8 0), (2, .pointer (some ⟨N, q, none⟩)), (1, .pointer (some ⟨p, 0, none⟩)), (0, kv)] (by kernel_rfl)
  refine wp_seq ?_
  refine wp_region_noPanic ?_
  have hb8 : Below w9.heap.size w9 w9.drew := below_draws (n := 1) rfl
  replace HK := HK.below hb8
  replace HP := HP.below hb8
  replace HON := HON.then hb8
  clear hb8
  refine AnyT.begin (S := fun _ => True) (z := 1000) (by kernel_rfl) trivial (fun hS0 => ?_)
  clear hS0
  generalize w9.drew = w8 at *
  clear w9
  rename World => w9
  refine fr_chT F [0, 1, 2, 3, 4, 5, 6, 7, 8, 9, 10, 11, 12, 13, 14, 15, 16, 17, 18, 19, 20, 21, 22, 23, 24, 25, 26, 27, 28, 29, 30, 31] [(79, .bool false), (78, undef), (77, undef), (76, undef), (75, undef), (74, undef), (73, undef), (72, undef), (71, undef), (70, undef), (69, .bool false), (68, .bool false), (67, undef), (66, undef), (65, undef), (64, undef), (63, undef), (62, undef), (61, undef), (60, undef), (59, undef), (58, .bool false), (57, .bool false), (56, undef), (55, undef), (54, undef), (53, undef), (52, undef), (51, undef), (50, .bool false), (49, .bool false), (48, .bool false)] trivial (by kernel_rfl) ?_
  clear F a9
  intro a9 F
  refine fr_stepC (i := 32) (o := ⟨some 80, _, _, _, _, _⟩) F rfl (wanted_free rfl) 80 rfl (by decide) 46 #[.bool false, .bool false] (by intro a' F'; have h48 := F'.at' 48 _ rfl; have h79 := F'.at' 79 _ rfl; go_simp) (order_reason false false w9) ?_
  rintro e9 w8 ⟨rfl, hb8⟩
  replace HK := HK.below hb8
  replace HP := HP.below hb8
  replace HON := HON.then hb8
  clear hb8
  clear w9
  rename World => w9
  refine ⟨_, rfl, trivial, ?_⟩
  clear F a9
  intro a9 F
  refine fr_chT F [33] [(9, .int .u8 (reasonN false false : Int))] trivial (by kernel_rfl) ?_
  clear F a9
  intro a9 F
  refine AnyT.done (by kernel_rfl) ?_ _
  refine NoPanic.normal ?_
  show Code.wp _ _ _ _ _
  replace F := F.cut [(9, .int .u8 (reasonN false false : Int)), (6, .int .u8 0), (2, .pointer (some ⟨N, q, none⟩)), (1, .pointer (some ⟨p, 0, none⟩)), (0, kv)] (by kernel_rfl)
  have HK2 := HK.withBox ⟨p, paV N x, 83⟩ HP hpl (fun z hz => by rw [List.mem_singleton.1 hz]; exact hpz)
  clear HK HP
  have HK := HK2
  clear HK2
  replace HK : Keep w0 [(p, (paV N x), 83), (Z, (ntV Nt.zero none 0), 35)] [] w9 := HK
  refine wp_seq ?_
  refine wp_region_lit ?_
  refine fr_ch F 4 [(84, .pointer (some ⟨p, 4, none⟩)), (82, .pointer (some ⟨N, q, none⟩))] (by kernel_rfl) ?_
  clear F a9
  intro a9 F
  refine fr_putO F HK 0 rfl rfl rfl 52 _ _ rfl 4 (.pointer (some ⟨N, q, none⟩)) (fun a' F' => F'.ev 84 rfl) (fun a' F' => F'.ev 82 rfl) z_pn (Nat.le_of_ble_eq_true (by kernel_rfl)) (by kernel_rfl) ?_
  intro a10 w10 F' HK' HO
  replace HON := HON.trans HO (fun j _ h => h)
  clear HK F HO
  clear a9 w9
  rename World => w9
  rename Act => a9
  have HK := HK'
  have F := F'
  clear HK' F'
  replace HK : Keep w0 [(p, (paV N { x with tells := some q }), 83), (Z, (ntV Nt.zero none 0), 35)] [] w9 := HK
  refine wpList_nil ?_
  show Code.wp _ _ _ _ _
  refine wp_seq ?_
  refine wp_region_lit ?_
  refine fr_mv F (wanted_free rfl) 85 rfl (by decide) 9 rfl rfl ?_
  clear F a9
  intro a9 F
  refine fr_as F (wanted_free rfl) 6 rfl (by decide) 85 rfl rfl ?_
  clear F a9
  intro a9 F
  refine wpList_nil ?_
  show Code.wp _ _ _ _ _
  refine wp_ret ?_
  exact fr_ret1 F rfl _ rfl (FIN.out _ _ (rfl) (HK.at 0 rfl) HON (HK.sub (List.nil_sublist _) (fun r hr => hr)))
set_option maxRecDepth 100000 in
set_option maxHeartbeats 4000000 in
theorem tells_rowd {w0 w : World} {p N q : Nat} {x : Pa} {n : Nt} {a : Option Addr} {c : Nat} (kv : Value) (HK : Keep w0 [] [] w) (HP : BoxAt w p (paV N x) 83) (hpl : w0.heap.size ≤ p) (hn : NtAt w0 N q n a c) {s : Nat} {n2 : Nt} {a2 : Option Addr} {c2 : Nat} (hx : x.asks = some s) (ht : x.tells = none) (hs : NtAt w0 N s n2 a2 c2) {d : Nat} {n3 : Nt} {a3 : Option Addr} {c3 : Nat} (hd : x.does = some d) (hdn : NtAt w0 N d n3 a3 c3) : Calls Tryd.prog 26 #[kv, .pointer (some ⟨p, 0, none⟩), .pointer (some ⟨N, q, none⟩)] w (RetS w0 w p N (reasonN true (sameT n2 n3 n)) ({ x with tells := some q })) := by
  obtain ⟨RR, hRR⟩ : ∃ RR : Ending → World → Prop, RR = RetS w0 w p N (reasonN true (sameT n2 n3 n)) ({ x with tells := some q }) := ⟨_, rfl⟩
  have FIN := Lib.hid (show ∀ r w', r = reasonN true (sameT n2 n3 n) → BoxAt w' p (paV N ({ x with tells := some q })) 83 → Only (fun j => j = p) w w' → Keep w0 [] [] w' → RR (.returned (.int .u8 (r : Int))) w' from fun r w' h1 h2 h3 h4 => by rw [hRR, h1]; exact ⟨rfl, h2, h3, h4⟩)
  rw [← hRR]
  have HN0 := Lib.hid hn
  obtain ⟨w9, hw9⟩ : ∃ w9, w9 = w := ⟨_, rfl⟩
  have HON : Only (fun j => j = p) w w9 := by rw [hw9]; exact Only.refl _ _
  rw [← hw9] at HK HP
  suffices hgo : Calls Tryd.prog 26 #[kv, .pointer (some ⟨p, 0, none⟩), .pointer (some ⟨N, q, none⟩)] w9 RR by rw [hw9] at hgo; exact hgo
  clear hw9 hRR hn
  go_enter Tryd.func26, Tryd.ntmps26
  refine wp_forget (n := 86) (L := [(2, .pointer (some ⟨N, q, none⟩)), (1, .pointer (some ⟨p, 0, none⟩)), (0, kv)]) (FrL.add (FrL.add (FrL.add (FrL.nil ?_ ?_) _ _ ?_) _ _ ?_) _ _ ?_) ?_
  iterate 5 rfl
  intro a9 F
  have HS0 := Lib.hid hs
  clear hs
  have HD0 := Lib.hid hdn
  clear hdn
  refine wp_seq ?_
  refine wp_region_lit ?_
  refine fr_ch F 1 [(6, .int .u8 0)] (by kernel_rfl) ?_
  clear F a9
  intro a9 F
  refine wpList_nil ?_
  show Code.wp _ _ _ _ _
  refine wp_seq ?_
  refine wp_region_lit ?_
  refine fr_ch F 3 [(12, .pointer (some ⟨p, 0, none⟩)), (11, .pointer (some ⟨p, 0, none⟩)), (10, .pointer (some ⟨p, 0, none⟩))] (by kernel_rfl) ?_
  clear F a9
  intro a9 F
  refine fr_do F (wanted_free rfl) 13 rfl (by decide) (.pointer (some ⟨N, s, none⟩)) (by intro a' F'; have h12 := F'.at' 12 _ rfl; have hc : w9.cell? ⟨p, 0, none⟩ = some (.pointer (some ⟨N, s, none⟩)) := (HP.cells 0).trans (congrArg (fun z => some (ptrN N z)) hx); go_simp) ?_
  clear F a9
  intro a9 F
  refine fr_ch F 2 [(15, .bool true), (14, .bool true)] (by kernel_rfl) ?_
  clear F a9
  intro a9 F
  refine fr_mv F (by rw [wanted_at F rfl (t := 15) (b := true) (by kernel_rfl) rfl]; rfl) 16 rfl (by decide) 1 rfl rfl ?_
  clear F a9
  intro a9 F
  refine fr_nc F (by rw [wanted_at F rfl (t := 15) (b := true) (by kernel_rfl) rfl]; rfl) 17 rfl (by decide) 16 rfl rfl ?_
  clear F a9
  intro a9 F
  refine fr_ch F 1 [(18, .pointer (some ⟨p, 4, none⟩))] (by kernel_rfl) ?_
  clear F a9
  intro a9 F
  refine fr_do F (by rw [wanted_at F rfl (t := 15) (b := true) (by kernel_rfl) rfl]; rfl) 19 rfl (by decide) (.pointer none) (by intro a' F'; have h18 := F'.at' 18 _ rfl; have hc : w9.cell? ⟨p, 4, none⟩ = some (.pointer none) := (HP.cells 4).trans (congrArg (fun z => some (ptrN N z)) ht); go_simp) ?_
  clear F a9
  intro a9 F
  refine fr_ch F 3 [(22, .bool true), (21, .bool true), (20, .bool true)] (by kernel_rfl) ?_
  clear F a9
  intro a9 F
  refine fr_mv F (by rw [wanted_at F rfl (t := 22) (b := true) (by kernel_rfl) rfl]; rfl) 23 rfl (by decide) 1 rfl rfl ?_
  clear F a9
  intro a9 F
  refine fr_nc F (by rw [wanted_at F rfl (t := 22) (b := true) (by kernel_rfl) rfl]; rfl) 24 rfl (by decide) 23 rfl rfl ?_
  clear F a9
  intro a9 F
  refine fr_ch F 1 [(25, .pointer (some ⟨p, 1, none⟩))] (by kernel_rfl) ?_
  clear F a9
  intro a9 F
  refine fr_do F (by rw [wanted_at F rfl (t := 22) (b := true) (by kernel_rfl) rfl]; rfl) 26 rfl (by decide) (.pointer (some ⟨N, d, none⟩)) (by intro a' F'; have h25 := F'.at' 25 _ rfl; have hc : w9.cell? ⟨p, 1, none⟩ = some (.pointer (some ⟨N, d, none⟩)) := (HP.cells 1).trans (congrArg (fun z => some (ptrN N z)) hd); go_simp) ?_
  clear F a9
  intro a9 F
  refine fr_ch F 14 [(7, .bool true), (39, .bool true), (38, .bool true), (37, undef), (36, undef), (35, undef), (34, undef), (33, undef), (32, undef), (31, undef), (30, undef), (29, undef), (28, .bool true), (27, .bool true)] (by kernel_rfl) ?_
  clear F a9
  intro a9 F
  refine wpList_nil ?_
  show Code.wp _ _ _ _ _
  replace F := F.cut [(7, .bool true), (6, .int .u8 0), (2, .pointer (some ⟨N, q, none⟩)), (1, .pointer (some ⟨p, 0, none⟩)), (0, kv)] (by kernel_rfl)
  refine wp_seq ?_
  refine wp_region_lit ?_
  refine fr_ch F 3 [(42, .pointer (some ⟨p, 1, none⟩))] (by kernel_rfl) ?_
  clear F a9
  intro a9 F
  refine fr_do F (wanted_free rfl) 43 rfl (by decide) (.pointer (some ⟨N, d, none⟩)) (by intro a' F'; have h42 := F'.at' 42 _ rfl; have hc : w9.cell? ⟨p, 1, none⟩ = some (.pointer (some ⟨N, d, none⟩)) := (HP.cells 1).trans (congrArg (fun z => some (ptrN N z)) hd); go_simp) ?_
  clear F a9
  intro a9 F
  refine fr_ch F 1 [(8, .pointer (some ⟨N, d, none⟩))] (by kernel_rfl) ?_
  clear F a9
  intro a9 F
  refine wpList_nil ?_
  show Code.wp _ _ _ _ _
  replace F := F.cut [(8, .pointer (some ⟨N, d, none⟩)), (7, .bool true), (6, .int .u8 0), (2, .pointer (some ⟨N, q, none⟩)), (1, .pointer (some ⟨p, 0, none⟩)), (0, kv)] (by kernel_rfl)
  refine wp_seq ?_
  refine wp_seq ?_
  refine wp_region_lit ?_
  refine fr_ch F 2 [(45, .bool false)] (by kernel_rfl) ?_
  clear F a9
  intro a9 F
  refine wpList_nil ?_
  show Code.wp _ _ _ _ _
  refine wp_cond_false (F.ev 45 rfl) ?_
  refine wp_skip ?_
  show Code.wp _ _ _ _ _
  replace F := F.cut [(8, .pointer (some ⟨N, d, none⟩)), (7, .bool true), (6, .int .u8 0), (2, .pointer (some ⟨N, q, none⟩)), (1, .pointer (some ⟨p, 0, none⟩)), (0, kv)] (by kernel_rfl)
  by_cases hby : byP n2 n = true
  rotate_left
  · skip
    have hby2 : byP n2 n = false := by cases h : byP n2 n; rfl; exact absurd h hby
    refine wp_seq ?_
    refine wp_region_noPanic ?_
    have hb8 : Below w9.heap.size w9 w9.drew := below_draws (n := 1) rfl
    replace HK := HK.below hb8
    replace HP := HP.below hb8
    replace HON := HON.then hb8
    clear hb8
    refine AnyT.begin (S := fun w' => NtAt w' N q n a c ∧ NtAt w' N s n2 a2 c2 ∧ NtAt w' N d n3 a3 c3 ∧ BoxAt w' p (paV N x) 83) (z := 1000) (by kernel_rfl) ⟨HN0.out.low HK.low, HS0.out.low HK.low, HD0.out.low HK.low, HP⟩ (fun hS0 => ?_)
    clear hS0
    generalize w9.drew = w8 at *
    clear w9
    rename World => w9
    refine fr_chT F [0, 1, 2, 3, 4, 5] [(53, .pointer (some ⟨p, 0, none⟩)), (52, .pointer (some ⟨p, 0, none⟩)), (51, .pointer (some ⟨p, 0, none⟩)), (50, .bool true), (49, .bool true), (48, .bool true)] ⟨HN0.out.low HK.low, HS0.out.low HK.low, HD0.out.low HK.low, HP⟩ (by kernel_rfl) ?_
    clear F a9
    intro a9 F
    refine fr_takeG (i := 6) (o := ⟨some 54, _, _, _, _, _⟩) F ⟨HN0.out.low HK.low, HS0.out.low HK.low, HD0.out.low HK.low, HP⟩ rfl (by rw [wanted_at F rfl (t := 50) (b := true) (by kernel_rfl) rfl]; rfl) 54 rfl (by decide) (.pointer (some ⟨N, s, none⟩)) (fun w9 hS => (by intro a' F'; have h53 := F'.at' 53 _ rfl; have hc : w9.cell? ⟨p, 0, none⟩ = some (.pointer (some ⟨N, s, none⟩)) := (hS.2.2.2.cells 0).trans (congrArg (fun z => some (ptrN N z)) hx); go_simp)) ?_
    clear F a9
    intro a9 F
    refine fr_chT F [7] [(55, .pointer (some ⟨N, q, none⟩))] ⟨HN0.out.low HK.low, HS0.out.low HK.low, HD0.out.low HK.low, HP⟩ (by kernel_rfl) ?_
    clear F a9
    intro a9 F
    refine fr_stepC (i := 8) (o := ⟨some 56, _, _, _, _, _⟩) F rfl (by rw [wanted_at F rfl (t := 50) (b := true) (by kernel_rfl) rfl]; rfl) 56 rfl (by decide) 48 #[.pointer (some ⟨N, s, none⟩), .pointer (some ⟨N, q, none⟩)] (by intro a' F'; have h54 := F'.at' 54 _ rfl; have h55 := F'.at' 55 _ rfl; go_simp) (by have h := order_by HK.env (HS0.out.low HK.low) (HN0.out.low HK.low); rw [show (decide (n2.conn = n.conn) && decide (n2.client = n.client)) = false from hby2] at h; exact h) ?_
    rintro e9 w8 ⟨rfl, hb8⟩
    replace HK := HK.below hb8
    replace HP := HP.below hb8
    replace HON := HON.then hb8
    clear hb8
    clear w9
    rename World => w9
    refine ⟨_, rfl, ⟨HN0.out.low HK.low, HS0.out.low HK.low, HD0.out.low HK.low, HP⟩, ?_⟩
    clear F a9
    intro a9 F
    refine fr_chT F [9, 10, 11, 12, 13, 14, 15, 16, 17, 18, 19, 20, 21, 22, 23, 24, 25, 26, 27, 28, 29, 30, 31] [(79, .bool false), (78, undef), (77, undef), (76, undef), (75, undef), (74, undef), (73, undef), (72, undef), (71, undef), (70, undef), (69, .bool false), (68, .bool false), (67, undef), (66, undef), (65, undef), (64, undef), (63, undef), (62, undef), (61, undef), (60, undef), (59, undef), (58, .bool false), (57, .bool false)] ⟨HN0.out.low HK.low, HS0.out.low HK.low, HD0.out.low HK.low, HP⟩ (by kernel_rfl) ?_
    clear F a9
    intro a9 F
    refine fr_stepC (i := 32) (o := ⟨some 80, _, _, _, _, _⟩) F rfl (wanted_free rfl) 80 rfl (by decide) 46 #[.bool true, .bool false] (by intro a' F'; have h48 := F'.at' 48 _ rfl; have h79 := F'.at' 79 _ rfl; go_simp) (order_reason true false w9) ?_
    rintro e9 w8 ⟨rfl, hb8⟩
    replace HK := HK.below hb8
    replace HP := HP.below hb8
    replace HON := HON.then hb8
    clear hb8
    clear w9
    rename World => w9
    refine ⟨_, rfl, ⟨HN0.out.low HK.low, HS0.out.low HK.low, HD0.out.low HK.low, HP⟩, ?_⟩
    clear F a9
    intro a9 F
    refine fr_chT F [33] [(9, .int .u8 (reasonN true false : Int))] ⟨HN0.out.low HK.low, HS0.out.low HK.low, HD0.out.low HK.low, HP⟩ (by kernel_rfl) ?_
    clear F a9
    intro a9 F
    refine AnyT.done (by kernel_rfl) ?_ _
    refine NoPanic.normal ?_
    show Code.wp _ _ _ _ _
    replace F := F.cut [(9, .int .u8 (reasonN true false : Int)), (6, .int .u8 0), (2, .pointer (some ⟨N, q, none⟩)), (1, .pointer (some ⟨p, 0, none⟩)), (0, kv)] (by kernel_rfl)
    have HK2 := HK.withBox ⟨p, paV N x, 83⟩ HP hpl (fun z hz => by cases hz)
    clear HK HP
    have HK := HK2
    clear HK2
    replace HK : Keep w0 [(p, (paV N x), 83)] [] w9 := HK
    refine wp_seq ?_
    refine wp_region_lit ?_
    refine fr_ch F 4 [(84, .pointer (some ⟨p, 4, none⟩)), (83, .pointer (some ⟨p, 0, none⟩)), (82, .pointer (some ⟨N, q, none⟩)), (81, .pointer (some ⟨p, 0, none⟩))] (by kernel_rfl) ?_
    clear F a9
    intro a9 F
    refine fr_putO F HK 0 rfl rfl rfl 52 _ _ rfl 4 (.pointer (some ⟨N, q, none⟩)) (fun a' F' => F'.ev 84 rfl) (fun a' F' => F'.ev 82 rfl) z_pn (Nat.le_of_ble_eq_true (by kernel_rfl)) (by kernel_rfl) ?_
    intro a10 w10 F' HK' HO
    replace HON := HON.trans HO (fun j _ h => h)
    clear HK F HO
    clear a9 w9
    rename World => w9
    rename Act => a9
    have HK := HK'
    have F := F'
    clear HK' F'
    replace HK : Keep w0 [(p, (paV N { x with tells := some q }), 83)] [] w9 := HK
    refine wpList_nil ?_
    show Code.wp _ _ _ _ _
    refine wp_seq ?_
    refine wp_region_lit ?_
    refine fr_mv F (wanted_free rfl) 85 rfl (by decide) 9 rfl rfl ?_
    clear F a9
    intro a9 F
    refine fr_as F (wanted_free rfl) 6 rfl (by decide) 85 rfl rfl ?_
    clear F a9
    intro a9 F
    refine wpList_nil ?_
    show Code.wp _ _ _ _ _
    refine wp_ret ?_
    exact fr_ret1 F rfl _ rfl (FIN.out _ _ (by unfold sameT; simp only [hby2, Bool.true_and, Bool.and_true, Bool.false_and, Bool.and_false]) (HK.at 0 rfl) HON (HK.sub (List.nil_sublist _) (fun r hr => hr)))
  by_cases hc : n.codes = n3.codes
  rotate_left
  · skip
    have hby2 : byP n2 n = true := hby
    refine wp_seq ?_
    refine wp_region_noPanic ?_
    have hb8 : Below w9.heap.size w9 w9.drew := below_draws (n := 1) rfl
    replace HK := HK.below hb8
    replace HP := HP.below hb8
    replace HON := HON.then hb8
    clear hb8
    refine AnyT.begin (S := fun w' => NtAt w' N q n a c ∧ NtAt w' N s n2 a2 c2 ∧ NtAt w' N d n3 a3 c3 ∧ BoxAt w' p (paV N x) 83) (z := 1000) (by kernel_rfl) ⟨HN0.out.low HK.low, HS0.out.low HK.low, HD0.out.low HK.low, HP⟩ (fun hS0 => ?_)
    clear hS0
    generalize w9.drew = w8 at *
    clear w9
    rename World => w9
    refine fr_chT F [0, 1, 2, 3, 4, 5] [(53, .pointer (some ⟨p, 0, none⟩)), (52, .pointer (some ⟨p, 0, none⟩)), (51, .pointer (some ⟨p, 0, none⟩)), (50, .bool true), (49, .bool true), (48, .bool true)] ⟨HN0.out.low HK.low, HS0.out.low HK.low, HD0.out.low HK.low, HP⟩ (by kernel_rfl) ?_
    clear F a9
    intro a9 F
    refine fr_takeG (i := 6) (o := ⟨some 54, _, _, _, _, _⟩) F ⟨HN0.out.low HK.low, HS0.out.low HK.low, HD0.out.low HK.low, HP⟩ rfl (by rw [wanted_at F rfl (t := 50) (b := true) (by kernel_rfl) rfl]; rfl) 54 rfl (by decide) (.pointer (some ⟨N, s, none⟩)) (fun w9 hS => (by intro a' F'; have h53 := F'.at' 53 _ rfl; have hc : w9.cell? ⟨p, 0, none⟩ = some (.pointer (some ⟨N, s, none⟩)) := (hS.2.2.2.cells 0).trans (congrArg (fun z => some (ptrN N z)) hx); go_simp)) ?_
    clear F a9
    intro a9 F
    refine fr_chT F [7] [(55, .pointer (some ⟨N, q, none⟩))] ⟨HN0.out.low HK.low, HS0.out.low HK.low, HD0.out.low HK.low, HP⟩ (by kernel_rfl) ?_
    clear F a9
    intro a9 F
    refine fr_stepC (i := 8) (o := ⟨some 56, _, _, _, _, _⟩) F rfl (by rw [wanted_at F rfl (t := 50) (b := true) (by kernel_rfl) rfl]; rfl) 56 rfl (by decide) 48 #[.pointer (some ⟨N, s, none⟩), .pointer (some ⟨N, q, none⟩)] (by intro a' F'; have h54 := F'.at' 54 _ rfl; have h55 := F'.at' 55 _ rfl; go_simp) (by have h := order_by HK.env (HS0.out.low HK.low) (HN0.out.low HK.low); rw [show (decide (n2.conn = n.conn) && decide (n2.client = n.client)) = true from hby2] at h; exact h) ?_
    rintro e9 w8 ⟨rfl, hb8⟩
    replace HK := HK.below hb8
    replace HP := HP.below hb8
    replace HON := HON.then hb8
    clear hb8
    clear w9
    rename World => w9
    refine ⟨_, rfl, ⟨HN0.out.low HK.low, HS0.out.low HK.low, HD0.out.low HK.low, HP⟩, ?_⟩
    clear F a9
    intro a9 F
    refine fr_chT F [9, 10, 11, 12, 13] [(61, .pointer (some ⟨N, q + 32, none⟩)), (60, .pointer (some ⟨N, q, none⟩)), (59, .pointer (some ⟨N, q, none⟩)), (58, .bool true), (57, .bool true)] ⟨HN0.out.low HK.low, HS0.out.low HK.low, HD0.out.low HK.low, HP⟩ (by kernel_rfl) ?_
    clear F a9
    intro a9 F
    refine fr_takeG (i := 14) (o := ⟨some 62, _, _, _, _, _⟩) F ⟨HN0.out.low HK.low, HS0.out.low HK.low, HD0.out.low HK.low, HP⟩ rfl (by rw [wanted_at F rfl (t := 58) (b := true) (by kernel_rfl) rfl]; rfl) 62 rfl (by decide) (.string n.codes) (fun w9 hS => (by intro a' F'; have h61 := F'.at' 61 _ rfl; have hc : w9.cell? ⟨N, q + 32, none⟩ = some (.string n.codes) := (hS.1).cell 32 _ rfl; go_simp)) ?_
    clear F a9
    intro a9 F
    refine fr_chT F [15, 16, 17] [(65, .pointer (some ⟨N, d + 32, none⟩)), (64, .pointer (some ⟨N, d, none⟩)), (63, .pointer (some ⟨N, d, none⟩))] ⟨HN0.out.low HK.low, HS0.out.low HK.low, HD0.out.low HK.low, HP⟩ (by kernel_rfl) ?_
    clear F a9
    intro a9 F
    refine fr_takeG (i := 18) (o := ⟨some 66, _, _, _, _, _⟩) F ⟨HN0.out.low HK.low, HS0.out.low HK.low, HD0.out.low HK.low, HP⟩ rfl (by rw [wanted_at F rfl (t := 58) (b := true) (by kernel_rfl) rfl]; rfl) 66 rfl (by decide) (.string n3.codes) (fun w9 hS => (by intro a' F'; have h65 := F'.at' 65 _ rfl; have hc : w9.cell? ⟨N, d + 32, none⟩ = some (.string n3.codes) := (hS.2.2.1).cell 32 _ rfl; go_simp)) ?_
    clear F a9
    intro a9 F
    refine fr_takeG (i := 19) (o := ⟨some 67, _, _, _, _, _⟩) F ⟨HN0.out.low HK.low, HS0.out.low HK.low, HD0.out.low HK.low, HP⟩ rfl (by rw [wanted_at F rfl (t := 58) (b := true) (by kernel_rfl) rfl]; rfl) 67 rfl (by decide) (.bool false) (fun w9 hS => (fun a' F' => op_eqS (F'.ev 62 rfl) (F'.ev 66 rfl) rfl Tryd.underlying9 rfl (decide_eq_false hc))) ?_
    clear F a9
    intro a9 F
    refine fr_chT F [20, 21, 22, 23, 24, 25, 26, 27, 28, 29, 30, 31] [(79, .bool false), (78, undef), (77, undef), (76, undef), (75, undef), (74, undef), (73, undef), (72, undef), (71, undef), (70, undef), (69, .bool false), (68, .bool false)] ⟨HN0.out.low HK.low, HS0.out.low HK.low, HD0.out.low HK.low, HP⟩ (by kernel_rfl) ?_
    clear F a9
    intro a9 F
    refine fr_stepC (i := 32) (o := ⟨some 80, _, _, _, _, _⟩) F rfl (wanted_free rfl) 80 rfl (by decide) 46 #[.bool true, .bool false] (by intro a' F'; have h48 := F'.at' 48 _ rfl; have h79 := F'.at' 79 _ rfl; go_simp) (order_reason true false w9) ?_
    rintro e9 w8 ⟨rfl, hb8⟩
    replace HK := HK.below hb8
    replace HP := HP.below hb8
    replace HON := HON.then hb8
    clear hb8
    clear w9
    rename World => w9
    refine ⟨_, rfl, ⟨HN0.out.low HK.low, HS0.out.low HK.low, HD0.out.low HK.low, HP⟩, ?_⟩
    clear F a9
    intro a9 F
    refine fr_chT F [33] [(9, .int .u8 (reasonN true false : Int))] ⟨HN0.out.low HK.low, HS0.out.low HK.low, HD0.out.low HK.low, HP⟩ (by kernel_rfl) ?_
    clear F a9
    intro a9 F
    refine AnyT.done (by kernel_rfl) ?_ _
    refine NoPanic.normal ?_
    show Code.wp _ _ _ _ _
    replace F := F.cut [(9, .int .u8 (reasonN true false : Int)), (6, .int .u8 0), (2, .pointer (some ⟨N, q, none⟩)), (1, .pointer (some ⟨p, 0, none⟩)), (0, kv)] (by kernel_rfl)
    have HK2 := HK.withBox ⟨p, paV N x, 83⟩ HP hpl (fun z hz => by cases hz)
    clear HK HP
    have HK := HK2
    clear HK2
    replace HK : Keep w0 [(p, (paV N x), 83)] [] w9 := HK
    refine wp_seq ?_
    refine wp_region_lit ?_
    refine fr_ch F 4 [(84, .pointer (some ⟨p, 4, none⟩)), (83, .pointer (some ⟨p, 0, none⟩)), (82, .pointer (some ⟨N, q, none⟩)), (81, .pointer (some ⟨p, 0, none⟩))] (by kernel_rfl) ?_
    clear F a9
    intro a9 F
    refine fr_putO F HK 0 rfl rfl rfl 52 _ _ rfl 4 (.pointer (some ⟨N, q, none⟩)) (fun a' F' => F'.ev 84 rfl) (fun a' F' => F'.ev 82 rfl) z_pn (Nat.le_of_ble_eq_true (by kernel_rfl)) (by kernel_rfl) ?_
    intro a10 w10 F' HK' HO
    replace HON := HON.trans HO (fun j _ h => h)
    clear HK F HO
    clear a9 w9
    rename World => w9
    rename Act => a9
    have HK := HK'
    have F := F'
    clear HK' F'
    replace HK : Keep w0 [(p, (paV N { x with tells := some q }), 83)] [] w9 := HK
    refine wpList_nil ?_
    show Code.wp _ _ _ _ _
    refine wp_seq ?_
    refine wp_region_lit ?_
    refine fr_mv F (wanted_free rfl) 85 rfl (by decide) 9 rfl rfl ?_
    clear F a9
    intro a9 F
    refine fr_as F (wanted_free rfl) 6 rfl (by decide) 85 rfl rfl ?_
    clear F a9
    intro a9 F
    refine wpList_nil ?_
    show Code.wp _ _ _ _ _
    refine wp_ret ?_
    exact fr_ret1 F rfl _ rfl (FIN.out _ _ (by unfold sameT; simp only [hby2, decide_eq_false hc, Bool.true_and, Bool.and_true, Bool.false_and, Bool.and_false]) (HK.at 0 rfl) HON (HK.sub (List.nil_sublist _) (fun r hr => hr)))
  by_cases hpr : n.present = n3.present
  rotate_left
  · skip
    have hby2 : byP n2 n = true := hby
    refine wp_seq ?_
    refine wp_region_noPanic ?_
    have hb8 : Below w9.heap.size w9 w9.drew := below_draws (n := 1) rfl
    replace HK := HK.below hb8
    replace HP := HP.below hb8
    replace HON := HON.then hb8
    clear hb8
    refine AnyT.begin (S := fun w' => NtAt w' N q n a c ∧ NtAt w' N s n2 a2 c2 ∧ NtAt w' N d n3 a3 c3 ∧ BoxAt w' p (paV N x) 83) (z := 1000) (by kernel_rfl) ⟨HN0.out.low HK.low, HS0.out.low HK.low, HD0.out.low HK.low, HP⟩ (fun hS0 => ?_)
    clear hS0
    generalize w9.drew = w8 at *
    clear w9
    rename World => w9
    refine fr_chT F [0, 1, 2, 3, 4, 5] [(53, .pointer (some ⟨p, 0, none⟩)), (52, .pointer (some ⟨p, 0, none⟩)), (51, .pointer (some ⟨p, 0, none⟩)), (50, .bool true), (49, .bool true), (48, .bool true)] ⟨HN0.out.low HK.low, HS0.out.low HK.low, HD0.out.low HK.low, HP⟩ (by kernel_rfl) ?_
    clear F a9
    intro a9 F
    refine fr_takeG (i := 6) (o := ⟨some 54, _, _, _, _, _⟩) F ⟨HN0.out.low HK.low, HS0.out.low HK.low, HD0.out.low HK.low, HP⟩ rfl (by rw [wanted_at F rfl (t := 50) (b := true) (by kernel_rfl) rfl]; rfl) 54 rfl (by decide) (.pointer (some ⟨N, s, none⟩)) (fun w9 hS => (by intro a' F'; have h53 := F'.at' 53 _ rfl; have hc : w9.cell? ⟨p, 0, none⟩ = some (.pointer (some ⟨N, s, none⟩)) := (hS.2.2.2.cells 0).trans (congrArg (fun z => some (ptrN N z)) hx); go_simp)) ?_
    clear F a9
    intro a9 F
    refine fr_chT F [7] [(55, .pointer (some ⟨N, q, none⟩))] ⟨HN0.out.low HK.low, HS0.out.low HK.low, HD0.out.low HK.low, HP⟩ (by kernel_rfl) ?_
    clear F a9
    intro a9 F
    refine fr_stepC (i := 8) (o := ⟨some 56, _, _, _, _, _⟩) F rfl (by rw [wanted_at F rfl (t := 50) (b := true) (by kernel_rfl) rfl]; rfl) 56 rfl (by decide) 48 #[.pointer (some ⟨N, s, none⟩), .pointer (some ⟨N, q, none⟩)] (by intro a' F'; have h54 := F'.at' 54 _ rfl; have h55 := F'.at' 55 _ rfl; go_simp) (by have h := order_by HK.env (HS0.out.low HK.low) (HN0.out.low HK.low); rw [show (decide (n2.conn = n.conn) && decide (n2.client = n.client)) = true from hby2] at h; exact h) ?_
    rintro e9 w8 ⟨rfl, hb8⟩
    replace HK := HK.below hb8
    replace HP := HP.below hb8
    replace HON := HON.then hb8
    clear hb8
    clear w9
    rename World => w9
    refine ⟨_, rfl, ⟨HN0.out.low HK.low, HS0.out.low HK.low, HD0.out.low HK.low, HP⟩, ?_⟩
    clear F a9
    intro a9 F
    refine fr_chT F [9, 10, 11, 12, 13] [(61, .pointer (some ⟨N, q + 32, none⟩)), (60, .pointer (some ⟨N, q, none⟩)), (59, .pointer (some ⟨N, q, none⟩)), (58, .bool true), (57, .bool true)] ⟨HN0.out.low HK.low, HS0.out.low HK.low, HD0.out.low HK.low, HP⟩ (by kernel_rfl) ?_
    clear F a9
    intro a9 F
    refine fr_takeG (i := 14) (o := ⟨some 62, _, _, _, _, _⟩) F ⟨HN0.out.low HK.low, HS0.out.low HK.low, HD0.out.low HK.low, HP⟩ rfl (by rw [wanted_at F rfl (t := 58) (b := true) (by kernel_rfl) rfl]; rfl) 62 rfl (by decide) (.string n.codes) (fun w9 hS => (by intro a' F'; have h61 := F'.at' 61 _ rfl; have hc : w9.cell? ⟨N, q + 32, none⟩ = some (.string n.codes) := (hS.1).cell 32 _ rfl; go_simp)) ?_
    clear F a9
    intro a9 F
    refine fr_chT F [15, 16, 17] [(65, .pointer (some ⟨N, d + 32, none⟩)), (64, .pointer (some ⟨N, d, none⟩)), (63, .pointer (some ⟨N, d, none⟩))] ⟨HN0.out.low HK.low, HS0.out.low HK.low, HD0.out.low HK.low, HP⟩ (by kernel_rfl) ?_
    clear F a9
    intro a9 F
    refine fr_takeG (i := 18) (o := ⟨some 66, _, _, _, _, _⟩) F ⟨HN0.out.low HK.low, HS0.out.low HK.low, HD0.out.low HK.low, HP⟩ rfl (by rw [wanted_at F rfl (t := 58) (b := true) (by kernel_rfl) rfl]; rfl) 66 rfl (by decide) (.string n3.codes) (fun w9 hS => (by intro a' F'; have h65 := F'.at' 65 _ rfl; have hc : w9.cell? ⟨N, d + 32, none⟩ = some (.string n3.codes) := (hS.2.2.1).cell 32 _ rfl; go_simp)) ?_
    clear F a9
    intro a9 F
    refine fr_takeG (i := 19) (o := ⟨some 67, _, _, _, _, _⟩) F ⟨HN0.out.low HK.low, HS0.out.low HK.low, HD0.out.low HK.low, HP⟩ rfl (by rw [wanted_at F rfl (t := 58) (b := true) (by kernel_rfl) rfl]; rfl) 67 rfl (by decide) (.bool true) (fun w9 hS => (fun a' F' => op_eqS (F'.ev 62 rfl) (F'.ev 66 rfl) rfl Tryd.underlying9 rfl (decide_eq_true hc))) ?_
    clear F a9
    intro a9 F
    refine fr_chT F [20, 21, 22, 23, 24] [(72, .pointer (some ⟨N, q + 33, none⟩)), (71, .pointer (some ⟨N, q, none⟩)), (70, .pointer (some ⟨N, q, none⟩)), (69, .bool true), (68, .bool true)] ⟨HN0.out.low HK.low, HS0.out.low HK.low, HD0.out.low HK.low, HP⟩ (by kernel_rfl) ?_
    clear F a9
    intro a9 F
    refine fr_takeG (i := 25) (o := ⟨some 73, _, _, _, _, _⟩) F ⟨HN0.out.low HK.low, HS0.out.low HK.low, HD0.out.low HK.low, HP⟩ rfl (by rw [wanted_at F rfl (t := 69) (b := true) (by kernel_rfl) rfl]; rfl) 73 rfl (by decide) (.bool n.present) (fun w9 hS => (by intro a' F'; have h72 := F'.at' 72 _ rfl; have hc : w9.cell? ⟨N, q + 33, none⟩ = some (.bool n.present) := (hS.1).cell 33 _ rfl; go_simp)) ?_
    clear F a9
    intro a9 F
    refine fr_chT F [26, 27, 28] [(76, .pointer (some ⟨N, d + 33, none⟩)), (75, .pointer (some ⟨N, d, none⟩)), (74, .pointer (some ⟨N, d, none⟩))] ⟨HN0.out.low HK.low, HS0.out.low HK.low, HD0.out.low HK.low, HP⟩ (by kernel_rfl) ?_
    clear F a9
    intro a9 F
    refine fr_takeG (i := 29) (o := ⟨some 77, _, _, _, _, _⟩) F ⟨HN0.out.low HK.low, HS0.out.low HK.low, HD0.out.low HK.low, HP⟩ rfl (by rw [wanted_at F rfl (t := 69) (b := true) (by kernel_rfl) rfl]; rfl) 77 rfl (by decide) (.bool n3.present) (fun w9 hS => (by intro a' F'; have h76 := F'.at' 76 _ rfl; have hc : w9.cell? ⟨N, d + 33, none⟩ = some (.bool n3.present) := (hS.2.2.1).cell 33 _ rfl; go_simp)) ?_
    clear F a9
    intro a9 F
    refine fr_takeG (i := 30) (o := ⟨some 78, _, _, _, _, _⟩) F ⟨HN0.out.low HK.low, HS0.out.low HK.low, HD0.out.low HK.low, HP⟩ rfl (by rw [wanted_at F rfl (t := 69) (b := true) (by kernel_rfl) rfl]; rfl) 78 rfl (by decide) (.bool false) (fun w9 hS => (by intro a' F'; have h73 := F'.at' 73 _ rfl; have h77 := F'.at' 77 _ rfl; go_simp <;> simp [hpr])) ?_
    clear F a9
    intro a9 F
    refine fr_chT F [31] [(79, .bool false)] ⟨HN0.out.low HK.low, HS0.out.low HK.low, HD0.out.low HK.low, HP⟩ (by kernel_rfl) ?_
    clear F a9
    intro a9 F
    refine fr_stepC (i := 32) (o := ⟨some 80, _, _, _, _, _⟩) F rfl (wanted_free rfl) 80 rfl (by decide) 46 #[.bool true, .bool false] (by intro a' F'; have h48 := F'.at' 48 _ rfl; have h79 := F'.at' 79 _ rfl; go_simp) (order_reason true false w9) ?_
    rintro e9 w8 ⟨rfl, hb8⟩
    replace HK := HK.below hb8
    replace HP := HP.below hb8
    replace HON := HON.then hb8
    clear hb8
    clear w9
    rename World => w9
    refine ⟨_, rfl, ⟨HN0.out.low HK.low, HS0.out.low HK.low, HD0.out.low HK.low, HP⟩, ?_⟩
    clear F a9
    intro a9 F
    refine fr_chT F [33] [(9, .int .u8 (reasonN true false : Int))] ⟨HN0.out.low HK.low, HS0.out.low HK.low, HD0.out.low HK.low, HP⟩ (by kernel_rfl) ?_
    clear F a9
    intro a9 F
    refine AnyT.done (by kernel_rfl) ?_ _
    refine NoPanic.normal ?_
    show Code.wp _ _ _ _ _
    replace F := F.cut [(9, .int .u8 (reasonN true false : Int)), (6, .int .u8 0), (2, .pointer (some ⟨N, q, none⟩)), (1, .pointer (some ⟨p, 0, none⟩)), (0, kv)] (by kernel_rfl)
    have HK2 := HK.withBox ⟨p, paV N x, 83⟩ HP hpl (fun z hz => by cases hz)
    clear HK HP
    have HK := HK2
    clear HK2
    replace HK : Keep w0 [(p, (paV N x), 83)] [] w9 := HK
    refine wp_seq ?_
    refine wp_region_lit ?_
    refine fr_ch F 4 [(84, .pointer (some ⟨p, 4, none⟩)), (83, .pointer (some ⟨p, 0, none⟩)), (82, .pointer (some ⟨N, q, none⟩)), (81, .pointer (some ⟨p, 0, none⟩))] (by kernel_rfl) ?_
    clear F a9
    intro a9 F
    refine fr_putO F HK 0 rfl rfl rfl 52 _ _ rfl 4 (.pointer (some ⟨N, q, none⟩)) (fun a' F' => F'.ev 84 rfl) (fun a' F' => F'.ev 82 rfl) z_pn (Nat.le_of_ble_eq_true (by kernel_rfl)) (by kernel_rfl) ?_
    intro a10 w10 F' HK' HO
    replace HON := HON.trans HO (fun j _ h => h)
    clear HK F HO
    clear a9 w9
    rename World => w9
    rename Act => a9
    have HK := HK'
    have F := F'
    clear HK' F'
    replace HK : Keep w0 [(p, (paV N { x with tells := some q }), 83)] [] w9 := HK
    refine wpList_nil ?_
    show Code.wp _ _ _ _ _
    refine wp_seq ?_
    refine wp_region_lit ?_
    refine fr_mv F (wanted_free rfl) 85 rfl (by decide) 9 rfl rfl ?_
    clear F a9
    intro a9 F
    refine fr_as F (wanted_free rfl) 6 rfl (by decide) 85 rfl rfl ?_
    clear F a9
    intro a9 F
    refine wpList_nil ?_
    show Code.wp _ _ _ _ _
    refine wp_ret ?_
    exact fr_ret1 F rfl _ rfl (FIN.out _ _ (by unfold sameT; simp only [hby2, decide_eq_true hc, decide_eq_false hpr, Bool.true_and, Bool.and_true, Bool.false_and, Bool.and_false]) (HK.at 0 rfl) HON (HK.sub (List.nil_sublist _) (fun r hr => hr)))
  have hby2 : byP n2 n = true := hby
  refine wp_seq ?_
  refine wp_region_noPanic ?_
  have hb8 : Below w9.heap.size w9 w9.drew := below_draws (n := 1) rfl
  replace HK := HK.below hb8
  replace HP := HP.below hb8
  replace HON := HON.then hb8
  clear hb8
  refine AnyT.begin (S := fun w' => NtAt w' N q n a c ∧ NtAt w' N s n2 a2 c2 ∧ NtAt w' N d n3 a3 c3 ∧ BoxAt w' p (paV N x) 83) (z := 1000) (by kernel_rfl) ⟨HN0.out.low HK.low, HS0.out.low HK.low, HD0.out.low HK.low, HP⟩ (fun hS0 => ?_)
  clear hS0
  generalize w9.drew = w8 at *
  clear w9
  rename World => w9
  refine fr_chT F [0, 1, 2, 3, 4, 5] [(53, .pointer (some ⟨p, 0, none⟩)), (52, .pointer (some ⟨p, 0, none⟩)), (51, .pointer (some ⟨p, 0, none⟩)), (50, .bool true), (49, .bool true), (48, .bool true)] ⟨HN0.out.low HK.low, HS0.out.low HK.low, HD0.out.low HK.low, HP⟩ (by kernel_rfl) ?_
  clear F a9
  intro a9 F
  refine fr_takeG (i := 6) (o := ⟨some 54, _, _, _, _, _⟩) F ⟨HN0.out.low HK.low, HS0.out.low HK.low, HD0.out.low HK.low, HP⟩ rfl (by rw [wanted_at F rfl (t := 50) (b := true) (by kernel_rfl) rfl]; rfl) 54 rfl (by decide) (.pointer (some ⟨N, s, none⟩)) (fun w9 hS => (by intro a' F'; have h53 := F'.at' 53 _ rfl; have hc : w9.cell? ⟨p, 0, none⟩ = some (.pointer (some ⟨N, s, none⟩)) := (hS.2.2.2.cells 0).trans (congrArg (fun z => some (ptrN N z)) hx); go_simp)) ?_
  clear F a9
  intro a9 F
  refine fr_chT F [7] [(55, .pointer (some ⟨N, q, none⟩))] ⟨HN0.out.low HK.low, HS0.out.low HK.low, HD0.out.low HK.low, HP⟩ (by kernel_rfl) ?_
  clear F a9
  intro a9 F
  refine fr_stepC (i := 8) (o := ⟨some 56, _, _, _, _, _⟩) F rfl (by rw [wanted_at F rfl (t := 50) (b := true) (by kernel_rfl) rfl]; rfl) 56 rfl (by decide) 48 #[.pointer (some ⟨N, s, none⟩), .pointer (some ⟨N, q, none⟩)] (by intro a' F'; have h54 := F'.at' 54 _ rfl; have h55 := F'.at' 55 _ rfl; go_simp) (by have h := order_by HK.env (HS0.out.low HK.low) (HN0.out.low HK.low); rw [show (decide (n2.conn = n.conn) && decide (n2.client = n.client)) = true from hby2] at h; exact h) ?_
  rintro e9 w8 ⟨rfl, hb8⟩
  replace HK := HK.below hb8
  replace HP := HP.below hb8
  replace HON := HON.then hb8
  clear hb8
  clear w9
  rename World => w9
  refine ⟨_, rfl, ⟨HN0.out.low HK.low, HS0.out.low HK.low, HD0.out.low HK.low, HP⟩, ?_⟩
  clear F a9
  intro a9 F
  refine fr_chT F [9, 10, 11, 12, 13] [(61, .pointer (some ⟨N, q + 32, none⟩)), (60, .pointer (some ⟨N, q, none⟩)), (59, .pointer (some ⟨N, q, none⟩)), (58, .bool true), (57, .bool true)] ⟨HN0.out.low HK.low, HS0.out.low HK.low, HD0.out.low HK.low, HP⟩ (by kernel_rfl) ?_
  clear F a9
  intro a9 F
  refine fr_takeG (i := 14) (o := ⟨some 62, _, _, _, _, _⟩) F ⟨HN0.out.low HK.low, HS0.out.low HK.low, HD0.out.low HK.low, HP⟩ rfl (by rw [wanted_at F rfl (t := 58) (b := true) (by kernel_rfl) rfl]; rfl) 62 rfl (by decide) (.string n.codes) (fun w9 hS => (by intro a' F'; have h61 := F'.at' 61 _ rfl; have hc : w9.cell? ⟨N, q + 32, none⟩ = some (.string n.codes) := (hS.1).cell 32 _ rfl; go_simp)) ?_
  clear F a9
  intro a9 F
  refine fr_chT F [15, 16, 17] [(65, .pointer (some ⟨N, d + 32, none⟩)), (64, .pointer (some ⟨N, d, none⟩)), (63, .pointer (some ⟨N, d, none⟩))] ⟨HN0.out.low HK.low, HS0.out.low HK.low, HD0.out.low HK.low, HP⟩ (by kernel_rfl) ?_
  clear F a9
  intro a9 F
  refine fr_takeG (i := 18) (o := ⟨some 66, _, _, _, _, _⟩) F ⟨HN0.out.low HK.low, HS0.out.low HK.low, HD0.out.low HK.low, HP⟩ rfl (by rw [wanted_at F rfl (t := 58) (b := true) (by kernel_rfl) rfl]; rfl) 66 rfl (by decide) (.string n3.codes) (fun w9 hS => (by intro a' F'; have h65 := F'.at' 65 _ rfl; have hc : w9.cell? ⟨N, d + 32, none⟩ = some (.string n3.codes) := (hS.2.2.1).cell 32 _ rfl; go_simp)) ?_
  clear F a9
  intro a9 F
  refine fr_takeG (i := 19) (o := ⟨some 67, _, _, _, _, _⟩) F ⟨HN0.out.low HK.low, HS0.out.low HK.low, HD0.out.low HK.low, HP⟩ rfl (by rw [wanted_at F rfl (t := 58) (b := true) (by kernel_rfl) rfl]; rfl) 67 rfl (by decide) (.bool true) (fun w9 hS => (fun a' F' => op_eqS (F'.ev 62 rfl) (F'.ev 66 rfl) rfl Tryd.underlying9 rfl (decide_eq_true hc))) ?_
  clear F a9
  intro a9 F
  refine fr_chT F [20, 21, 22, 23, 24] [(72, .pointer (some ⟨N, q + 33, none⟩)), (71, .pointer (some ⟨N, q, none⟩)), (70, .pointer (some ⟨N, q, none⟩)), (69, .bool true), (68, .bool true)] ⟨HN0.out.low HK.low, HS0.out.low HK.low, HD0.out.low HK.low, HP⟩ (by kernel_rfl) ?_
  clear F a9
  intro a9 F
  refine fr_takeG (i := 25) (o := ⟨some 73, _, _, _, _, _⟩) F ⟨HN0.out.low HK.low, HS0.out.low HK.low, HD0.out.low HK.low, HP⟩ rfl (by rw [wanted_at F rfl (t := 69) (b := true) (by kernel_rfl) rfl]; rfl) 73 rfl (by decide) (.bool n.present) (fun w9 hS => (by intro a' F'; have h72 := F'.at' 72 _ rfl; have hc : w9.cell? ⟨N, q + 33, none⟩ = some (.bool n.present) := (hS.1).cell 33 _ rfl; go_simp)) ?_
  clear F a9
  intro a9 F
  refine fr_chT F [26, 27, 28] [(76, .pointer (some ⟨N, d + 33, none⟩)), (75, .pointer (some ⟨N, d, none⟩)), (74, .pointer (some ⟨N, d, none⟩))] ⟨HN0.out.low HK.low, HS0.out.low HK.low, HD0.out.low HK.low, HP⟩ (by kernel_rfl) ?_
  clear F a9
  intro a9 F
  refine fr_takeG (i := 29) (o := ⟨some 77, _, _, _, _, _⟩) F ⟨HN0.out.low HK.low, HS0.out.low HK.low, HD0.out.low HK.low, HP⟩ rfl (by rw [wanted_at F rfl (t := 69) (b := true) (by kernel_rfl) rfl]; rfl) 77 rfl (by decide) (.bool n3.present) (fun w9 hS => (by intro a' F'; have h76 := F'.at' 76 _ rfl; have hc : w9.cell? ⟨N, d + 33, none⟩ = some (.bool n3.present) := (hS.2.2.1).cell 33 _ rfl; go_simp)) ?_
  clear F a9
  intro a9 F
  refine fr_takeG (i := 30) (o := ⟨some 78, _, _, _, _, _⟩) F ⟨HN0.out.low HK.low, HS0.out.low HK.low, HD0.out.low HK.low, HP⟩ rfl (by rw [wanted_at F rfl (t := 69) (b := true) (by kernel_rfl) rfl]; rfl) 78 rfl (by decide) (.bool true) (fun w9 hS => (by intro a' F'; have h73 := F'.at' 73 _ rfl; have h77 := F'.at' 77 _ rfl; go_simp <;> simp [hpr])) ?_
  clear F a9
  intro a9 F
  refine fr_chT F [31] [(79, .bool true)] ⟨HN0.out.low HK.low, HS0.out.low HK.low, HD0.out.low HK.low, HP⟩ (by kernel_rfl) ?_
  clear F a9
  intro a9 F
  refine fr_stepC (i := 32) (o := ⟨some 80, _, _, _, _, _⟩) F rfl (wanted_free rfl) 80 rfl (by decide) 46 #[.bool true, .bool true] (by intro a' F'; have h48 := F'.at' 48 _ rfl; have h79 := F'.at' 79 _ rfl; go_simp) (order_reason true true w9) ?_
  rintro e9 w8 ⟨rfl, hb8⟩
  replace HK := HK.below hb8
  replace HP := HP.below hb8
  replace HON := HON.then hb8
  clear hb8
  clear w9
  rename World => w9
  refine ⟨_, rfl, ⟨HN0.out.low HK.low, HS0.out.low HK.low, HD0.out.low HK.low, HP⟩, ?_⟩
  clear F a9
  intro a9 F
  refine fr_chT F [33] [(9, .int .u8 (reasonN true true : Int))] ⟨HN0.out.low HK.low, HS0.out.low HK.low, HD0.out.low HK.low, HP⟩ (by kernel_rfl) ?_
  clear F a9
  intro a9 F
  refine AnyT.done (by kernel_rfl) ?_ _
  refine NoPanic.normal ?_
  show Code.wp _ _ _ _ _
  replace F := F.cut [(9, .int .u8 (reasonN true true : Int)), (6, .int .u8 0), (2, .pointer (some ⟨N, q, none⟩)), (1, .pointer (some ⟨p, 0, none⟩)), (0, kv)] (by kernel_rfl)
  have HK2 := HK.withBox ⟨p, paV N x, 83⟩ HP hpl (fun z hz => by cases hz)
  clear HK HP
  have HK := HK2
  clear HK2
  replace HK : Keep w0 [(p, (paV N x), 83)] [] w9 := HK
  refine wp_seq ?_
  refine wp_region_lit ?_
  refine fr_ch F 4 [(84, .pointer (some ⟨p, 4, none⟩)), (82, .pointer (some ⟨N, q, none⟩))] (by kernel_rfl) ?_
  clear F a9
  intro a9 F
  refine fr_putO F HK 0 rfl rfl rfl 52 _ _ rfl 4 (.pointer (some ⟨N, q, none⟩)) (fun a' F' => F'.ev 84 rfl) (fun a' F' => F'.ev 82 rfl) z_pn (Nat.le_of_ble_eq_true (by kernel_rfl)) (by kernel_rfl) ?_
  intro a10 w10 F' HK' HO
  replace HON := HON.trans HO (fun j _ h => h)
  clear HK F HO
  clear a9 w9
  rename World => w9
  rename Act => a9
  have HK := HK'
  have F := F'
  clear HK' F'
  replace HK : Keep w0 [(p, (paV N { x with tells := some q }), 83)] [] w9 := HK
  refine wpList_nil ?_
  show Code.wp _ _ _ _ _
  refine wp_seq ?_
  refine wp_region_lit ?_
  refine fr_mv F (wanted_free rfl) 85 rfl (by decide) 9 rfl rfl ?_
  clear F a9
  intro a9 F
  refine fr_as F (wanted_free rfl) 6 rfl (by decide) 85 rfl rfl ?_
  clear F a9
  intro a9 F
  refine wpList_nil ?_
  show Code.wp _ _ _ _ _
  refine wp_ret ?_
  exact fr_ret1 F rfl _ rfl (FIN.out _ _ (by unfold sameT; simp only [hby2, decide_eq_true hc, decide_eq_true hpr, Bool.true_and, Bool.and_true, Bool.false_and, Bool.and_false]) (HK.at 0 rfl) HON (HK.sub (List.nil_sublist _) (fun r hr => hr)))
set_option maxRecDepth 100000 in
set_option maxHeartbeats 4000000 in
theorem tells_row {w0 w : World} {p N q : Nat} {x : Pa} {n : Nt} {a : Option Addr} {c : Nat} (kv : Value) (HK : Keep w0 [] [] w) (HP : BoxAt w p (paV N x) 83) (hpl : w0.heap.size ≤ p) (hn : NtAt w0 N q n a c) {s : Nat} {n2 : Nt} {a2 : Option Addr} {c2 : Nat} (hx : x.asks = some s) (ht : x.tells = none) (hs : NtAt w0 N s n2 a2 c2) (hd : x.does = none) (hty : n2.p.ty = 3) : Calls Tryd.prog 26 #[kv, .pointer (some ⟨p, 0, none⟩), .pointer (some ⟨N, q, none⟩)] w (RetS w0 w p N (reasonN true (sameT n2 Nt.zero n)) ({ x with tells := some q })) := by
  obtain ⟨RR, hRR⟩ : ∃ RR : Ending → World → Prop, RR = RetS w0 w p N (reasonN true (sameT n2 Nt.zero n)) ({ x with tells := some q }) := ⟨_, rfl⟩
  have FIN := Lib.hid (show ∀ r w', r = reasonN true (sameT n2 Nt.zero n) → BoxAt w' p (paV N ({ x with tells := some q })) 83 → Only (fun j => j = p) w w' → Keep w0 [] [] w' → RR (.returned (.int .u8 (r : Int))) w' from fun r w' h1 h2 h3 h4 => by rw [hRR, h1]; exact ⟨rfl, h2, h3, h4⟩)
  rw [← hRR]
  have HN0 := Lib.hid hn
  obtain ⟨w9, hw9⟩ : ∃ w9, w9 = w := ⟨_, rfl⟩
  have HON : Only (fun j => j = p) w w9 := by rw [hw9]; exact Only.refl _ _
  rw [← hw9] at HK HP
  suffices hgo : Calls Tryd.prog 26 #[kv, .pointer (some ⟨p, 0, none⟩), .pointer (some ⟨N, q, none⟩)] w9 RR by rw [hw9] at hgo; exact hgo
  clear hw9 hRR hn
  go_enter Tryd.func26, Tryd.ntmps26
  refine wp_forget (n := 86) (L := [(2, .pointer (some ⟨N, q, none⟩)), (1, .pointer (some ⟨p, 0, none⟩)), (0, kv)]) (FrL.add (FrL.add (FrL.add (FrL.nil ?_ ?_) _ _ ?_) _ _ ?_) _ _ ?_) ?_
  iterate 5 rfl
  intro a9 F
  have HS0 := Lib.hid hs
  clear hs
  refine wp_seq ?_
  refine wp_region_lit ?_
  refine fr_ch F 1 [(6, .int .u8 0)] (by kernel_rfl) ?_
  clear F a9
  intro a9 F
  refine wpList_nil ?_
  show Code.wp _ _ _ _ _
  refine wp_seq ?_
  refine wp_region_lit ?_
  refine fr_ch F 3 [(12, .pointer (some ⟨p, 0, none⟩)), (11, .pointer (some ⟨p, 0, none⟩)), (10, .pointer (some ⟨p, 0, none⟩))] (by kernel_rfl) ?_
  clear F a9
  intro a9 F
  refine fr_do F (wanted_free rfl) 13 rfl (by decide) (.pointer (some ⟨N, s, none⟩)) (by intro a' F'; have h12 := F'.at' 12 _ rfl; have hc : w9.cell? ⟨p, 0, none⟩ = some (.pointer (some ⟨N, s, none⟩)) := (HP.cells 0).trans (congrArg (fun z => some (ptrN N z)) hx); go_simp) ?_
  clear F a9
  intro a9 F
  refine fr_ch F 2 [(15, .bool true), (14, .bool true)] (by kernel_rfl) ?_
  clear F a9
  intro a9 F
  refine fr_mv F (by rw [wanted_at F rfl (t := 15) (b := true) (by kernel_rfl) rfl]; rfl) 16 rfl (by decide) 1 rfl rfl ?_
  clear F a9
  intro a9 F
  refine fr_nc F (by rw [wanted_at F rfl (t := 15) (b := true) (by kernel_rfl) rfl]; rfl) 17 rfl (by decide) 16 rfl rfl ?_
  clear F a9
  intro a9 F
  refine fr_ch F 1 [(18, .pointer (some ⟨p, 4, none⟩))] (by kernel_rfl) ?_
  clear F a9
  intro a9 F
  refine fr_do F (by rw [wanted_at F rfl (t := 15) (b := true) (by kernel_rfl) rfl]; rfl) 19 rfl (by decide) (.pointer none) (by intro a' F'; have h18 := F'.at' 18 _ rfl; have hc : w9.cell? ⟨p, 4, none⟩ = some (.pointer none) := (HP.cells 4).trans (congrArg (fun z => some (ptrN N z)) ht); go_simp) ?_
  clear F a9
  intro a9 F
  refine fr_ch F 3 [(22, .bool true), (21, .bool true), (20, .bool true)] (by kernel_rfl) ?_
  clear F a9
  intro a9 F
  refine fr_mv F (by rw [wanted_at F rfl (t := 22) (b := true) (by kernel_rfl) rfl]; rfl) 23 rfl (by decide) 1 rfl rfl ?_
  clear F a9
  intro a9 F
  refine fr_nc F (by rw [wanted_at F rfl (t := 22) (b := true) (by kernel_rfl) rfl]; rfl) 24 rfl (by decide) 23 rfl rfl ?_
  clear F a9
  intro a9 F
  refine fr_ch F 1 [(25, .pointer (some ⟨p, 1, none⟩))] (by kernel_rfl) ?_
  clear F a9
  intro a9 F
  refine fr_do F (by rw [wanted_at F rfl (t := 22) (b := true) (by kernel_rfl) rfl]; rfl) 26 rfl (by decide) (.pointer none) (by intro a' F'; have h25 := F'.at' 25 _ rfl; have hc : w9.cell? ⟨p, 1, none⟩ = some (.pointer none) := (HP.cells 1).trans (congrArg (fun z => some (ptrN N z)) hd); go_simp) ?_
  clear F a9
  intro a9 F
  refine fr_ch F 2 [(28, .bool false), (27, .bool false)] (by kernel_rfl) ?_
  clear F a9
  intro a9 F
  refine fr_mv F (by rw [wanted_at F rfl (t := 28) (b := false) (by kernel_rfl) rfl]; rfl) 29 rfl (by decide) 1 rfl rfl ?_
  clear F a9
  intro a9 F
  refine fr_nc F (by rw [wanted_at F rfl (t := 28) (b := false) (by kernel_rfl) rfl]; rfl) 30 rfl (by decide) 29 rfl rfl ?_
  clear F a9
  intro a9 F
  refine fr_ch F 1 [(31, .pointer (some ⟨p, 0, none⟩))] (by kernel_rfl) ?_
  clear F a9
  intro a9 F
  refine fr_do F (by rw [wanted_at F rfl (t := 28) (b := false) (by kernel_rfl) rfl]; rfl) 32 rfl (by decide) (.pointer (some ⟨N, s, none⟩)) (by intro a' F'; have h31 := F'.at' 31 _ rfl; have hc : w9.cell? ⟨p, 0, none⟩ = some (.pointer (some ⟨N, s, none⟩)) := (HP.cells 0).trans (congrArg (fun z => some (ptrN N z)) hx); go_simp) ?_
  clear F a9
  intro a9 F
  refine fr_nc F (by rw [wanted_at F rfl (t := 28) (b := false) (by kernel_rfl) rfl]; rfl) 33 rfl (by decide) 32 rfl rfl ?_
  clear F a9
  intro a9 F
  refine fr_ch F 2 [(35, .pointer (some ⟨N, s + 4, none⟩)), (34, .pointer (some ⟨N, s + 4, none⟩))] (by kernel_rfl) ?_
  clear F a9
  intro a9 F
  refine fr_do F (by rw [wanted_at F rfl (t := 28) (b := false) (by kernel_rfl) rfl]; rfl) 36 rfl (by decide) (.int .u8 (n2.p.ty : Int)) (by intro a' F'; have h35 := F'.at' 35 _ rfl; have hc : w9.cell? ⟨N, s + 4, none⟩ = some (.int .u8 (n2.p.ty : Int)) := ((HS0.out.low HK.low)).cell 4 _ rfl; go_simp) ?_
  clear F a9
  intro a9 F
  refine fr_do F (by rw [wanted_at F rfl (t := 28) (b := false) (by kernel_rfl) rfl]; rfl) 37 rfl (by decide) (.bool true) (by intro a' F'; have h36 := F'.at' 36 _ rfl; go_simp) ?_
  clear F a9
  intro a9 F
  refine fr_ch F 3 [(7, .bool true), (39, .bool true), (38, .bool true)] (by kernel_rfl) ?_
  clear F a9
  intro a9 F
  refine wpList_nil ?_
  show Code.wp _ _ _ _ _
  replace F := F.cut [(7, .bool true), (6, .int .u8 0), (2, .pointer (some ⟨N, q, none⟩)), (1, .pointer (some ⟨p, 0, none⟩)), (0, kv)] (by kernel_rfl)
  refine wp_seq ?_
  refine wp_region_lit ?_
  refine fr_ch F 3 [(42, .pointer (some ⟨p, 1, none⟩))] (by kernel_rfl) ?_
  clear F a9
  intro a9 F
  refine fr_do F (wanted_free rfl) 43 rfl (by decide) (.pointer none) (by intro a' F'; have h42 := F'.at' 42 _ rfl; have hc : w9.cell? ⟨p, 1, none⟩ = some (.pointer none) := (HP.cells 1).trans (congrArg (fun z => some (ptrN N z)) hd); go_simp) ?_
  clear F a9
  intro a9 F
  refine fr_ch F 1 [(8, .pointer none)] (by kernel_rfl) ?_
  clear F a9
  intro a9 F
  refine wpList_nil ?_
  show Code.wp _ _ _ _ _
  replace F := F.cut [(8, .pointer none), (7, .bool true), (6, .int .u8 0), (2, .pointer (some ⟨N, q, none⟩)), (1, .pointer (some ⟨p, 0, none⟩)), (0, kv)] (by kernel_rfl)
  refine wp_seq ?_
  refine wp_seq ?_
  refine wp_region_lit ?_
  refine fr_ch F 2 [(45, .bool true)] (by kernel_rfl) ?_
  clear F a9
  intro a9 F
  refine wpList_nil ?_
  show Code.wp _ _ _ _ _
  refine wp_cond_true (F.ev 45 rfl) ?_
  refine wp_region_lit ?_
  refine fr_ch F 1 [(46, .agg (ntV Nt.zero none 0))] (by kernel_rfl) ?_
  clear F a9
  intro a9 F
  refine fr_box F HK 47 (by decide) rfl 35 _ rfl rfl (ntV Nt.zero none 0) (fun a' F' => F'.ev 46 rfl) ?_
  rintro Z a10 w10 hX F' HK' hb
  replace HP := HP.below hb
  replace HON := HON.then hb
  clear HK F hb hX
  clear a9 w9
  rename World => w9
  rename Act => a9
  have HK := HK'
  have F := F'
  clear HK' F'
  replace HK : Keep w0 [(Z, (ntV Nt.zero none 0), 35)] [] w9 := HK
  refine fr_as F (wanted_free rfl) 8 rfl (by decide) 47 rfl rfl ?_
  clear F a9
  intro a9 F
  have hpz : Z ≠ p := box_ne (HK.at 0 rfl) HP (by decide)
  refine wpList_nil ?_
  show Code.wp _ _ _ _ _
  replace F := F.cut [(8, .pointer (some ⟨Z, 0, none⟩)), (7, .bool true), (6, .int .u8 0), (2, .pointer (some ⟨N, q, none⟩)), (1, .pointer (some ⟨p, 0, none⟩)), (0, kv)] (by kernel_rfl)
  by_cases hby : byP n2 n = true
  rotate_left
  · skip
    have hby2 : byP n2 n = false := by cases h : byP n2 n; rfl; exact absurd h hby
    refine wp_seq ?_
    refine wp_region_noPanic ?_
    have hb8 : Below w9.heap.size w9 w9.drew := below_draws (n := 1) rfl
    replace HK := HK.below hb8
    replace HP := HP.below hb8
    replace HON := HON.then hb8
    clear hb8
    refine AnyT.begin (S := fun w' => NtAt w' N q n a c ∧ NtAt w' N s n2 a2 c2 ∧ BoxAt w' Z (ntV Nt.zero none 0) 35 ∧ BoxAt w' p (paV N x) 83) (z := 1000) (by kernel_rfl) ⟨HN0.out.low HK.low, HS0.out.low HK.low, HK.at 0 rfl, HP⟩ (fun hS0 => ?_)
    clear hS0
    generalize w9.drew = w8 at *
    clear w9
    rename World => w9
    refine fr_chT F [0, 1, 2, 3, 4, 5] [(53, .pointer (some ⟨p, 0, none⟩)), (52, .pointer (some ⟨p, 0, none⟩)), (51, .pointer (some ⟨p, 0, none⟩)), (50, .bool true), (49, .bool true), (48, .bool true)] ⟨HN0.out.low HK.low, HS0.out.low HK.low, HK.at 0 rfl, HP⟩ (by kernel_rfl) ?_
    clear F a9
    intro a9 F
    refine fr_takeG (i := 6) (o := ⟨some 54, _, _, _, _, _⟩) F ⟨HN0.out.low HK.low, HS0.out.low HK.low, HK.at 0 rfl, HP⟩ rfl (by rw [wanted_at F rfl (t := 50) (b := true) (by kernel_rfl) rfl]; rfl) 54 rfl (by decide) (.pointer (some ⟨N, s, none⟩)) (fun w9 hS => (by intro a' F'; have h53 := F'.at' 53 _ rfl; have hc : w9.cell? ⟨p, 0, none⟩ = some (.pointer (some ⟨N, s, none⟩)) := (hS.2.2.2.cells 0).trans (congrArg (fun z => some (ptrN N z)) hx); go_simp)) ?_
    clear F a9
    intro a9 F
    refine fr_chT F [7] [(55, .pointer (some ⟨N, q, none⟩))] ⟨HN0.out.low HK.low, HS0.out.low HK.low, HK.at 0 rfl, HP⟩ (by kernel_rfl) ?_
    clear F a9
    intro a9 F
    refine fr_stepC (i := 8) (o := ⟨some 56, _, _, _, _, _⟩) F rfl (by rw [wanted_at F rfl (t := 50) (b := true) (by kernel_rfl) rfl]; rfl) 56 rfl (by decide) 48 #[.pointer (some ⟨N, s, none⟩), .pointer (some ⟨N, q, none⟩)] (by intro a' F'; have h54 := F'.at' 54 _ rfl; have h55 := F'.at' 55 _ rfl; go_simp) (by have h := order_by HK.env (HS0.out.low HK.low) (HN0.out.low HK.low); rw [show (decide (n2.conn = n.conn) && decide (n2.client = n.client)) = false from hby2] at h; exact h) ?_
    rintro e9 w8 ⟨rfl, hb8⟩
    replace HK := HK.below hb8
    replace HP := HP.below hb8
    replace HON := HON.then hb8
    clear hb8
    clear w9
    rename World => w9
    refine ⟨_, rfl, ⟨HN0.out.low HK.low, HS0.out.low HK.low, HK.at 0 rfl, HP⟩, ?_⟩
    clear F a9
    intro a9 F
    refine fr_chT F [9, 10, 11, 12, 13, 14, 15, 16, 17, 18, 19, 20, 21, 22, 23, 24, 25, 26, 27, 28, 29, 30, 31] [(79, .bool false), (78, undef), (77, undef), (76, undef), (75, undef), (74, undef), (73, undef), (72, undef), (71, undef), (70, undef), (69, .bool false), (68, .bool false), (67, undef), (66, undef), (65, undef), (64, undef), (63, undef), (62, undef), (61, undef), (60, undef), (59, undef), (58, .bool false), (57, .bool false)] ⟨HN0.out.low HK.low, HS0.out.low HK.low, HK.at 0 rfl, HP⟩ (by kernel_rfl) ?_
    clear F a9
    intro a9 F
    refine fr_stepC (i := 32) (o := ⟨some 80, _, _, _, _, _⟩) F rfl (wanted_free rfl) 80 rfl (by decide) 46 #[.bool true, .bool false] (by intro a' F'; have h48 := F'.at' 48 _ rfl; have h79 := F'.at' 79 _ rfl; go_simp) (order_reason true false w9) ?_
    rintro e9 w8 ⟨rfl, hb8⟩
    replace HK := HK.below hb8
    replace HP := HP.below hb8
    replace HON := HON.then hb8
    clear hb8
    clear w9
    rename World => w9
    refine ⟨_, rfl, ⟨HN0.out.low HK.low, HS0.out.low HK.low, HK.at 0 rfl, HP⟩, ?_⟩
    clear F a9
    intro a9 F
    refine fr_chT F [33] [(9, .int .u8 (reasonN true false : Int))] ⟨HN0.out.low HK.low, HS0.out.low HK.low, HK.at 0 rfl, HP⟩ (by kernel_rfl) ?_
    clear F a9
    intro a9 F
    refine AnyT.done (by kernel_rfl) ?_ _
    refine NoPanic.normal ?_
    show Code.wp _ _ _ _ _
    replace F := F.cut [(9, .int .u8 (reasonN true false : Int)), (6, .int .u8 0), (2, .pointer (some ⟨N, q, none⟩)), (1, .pointer (some ⟨p, 0, none⟩)), (0, kv)] (by kernel_rfl)
    have HK2 := HK.withBox ⟨p, paV N x, 83⟩ HP hpl (fun z hz => by rw [List.mem_singleton.1 hz]; exact hpz)
    clear HK HP
    have HK := HK2
    clear HK2
    replace HK : Keep w0 [(p, (paV N x), 83), (Z, (ntV Nt.zero none 0), 35)] [] w9 := HK
    refine wp_seq ?_
    refine wp_region_lit ?_
    refine fr_ch F 4 [(84, .pointer (some ⟨p, 4, none⟩)), (83, .pointer (some ⟨p, 0, none⟩)), (82, .pointer (some ⟨N, q, none⟩)), (81, .pointer (some ⟨p, 0, none⟩))] (by kernel_rfl) ?_
    clear F a9
    intro a9 F
    refine fr_putO F HK 0 rfl rfl rfl 52 _ _ rfl 4 (.pointer (some ⟨N, q, none⟩)) (fun a' F' => F'.ev 84 rfl) (fun a' F' => F'.ev 82 rfl) z_pn (Nat.le_of_ble_eq_true (by kernel_rfl)) (by kernel_rfl) ?_
    intro a10 w10 F' HK' HO
    replace HON := HON.trans HO (fun j _ h => h)
    clear HK F HO
    clear a9 w9
    rename World => w9
    rename Act => a9
    have HK := HK'
    have F := F'
    clear HK' F'
    replace HK : Keep w0 [(p, (paV N { x with tells := some q }), 83), (Z, (ntV Nt.zero none 0), 35)] [] w9 := HK
    refine wpList_nil ?_
    show Code.wp _ _ _ _ _
    refine wp_seq ?_
    refine wp_region_lit ?_
    refine fr_mv F (wanted_free rfl) 85 rfl (by decide) 9 rfl rfl ?_
    clear F a9
    intro a9 F
    refine fr_as F (wanted_free rfl) 6 rfl (by decide) 85 rfl rfl ?_
    clear F a9
    intro a9 F
    refine wpList_nil ?_
    show Code.wp _ _ _ _ _
    refine wp_ret ?_
    exact fr_ret1 F rfl _ rfl (FIN.out _ _ (by unfold sameT; simp only [hby2, Bool.true_and, Bool.and_true, Bool.false_and, Bool.and_false]) (HK.at 0 rfl) HON (HK.sub (List.nil_sublist _) (fun r hr => hr)))
  by_cases hc : n.codes = Nt.zero.codes
  rotate_left
  · skip
    have hby2 : byP n2 n = true := hby
    refine wp_seq ?_
    refine wp_region_noPanic ?_
    have hb8 : Below w9.heap.size w9 w9.drew := below_draws (n := 1) rfl
    replace HK := HK.below hb8
    replace HP := HP.below hb8
    replace HON := HON.then hb8
    clear hb8
    refine AnyT.begin (S := fun w' => NtAt w' N q n a c ∧ NtAt w' N s n2 a2 c2 ∧ BoxAt w' Z (ntV Nt.zero none 0) 35 ∧ BoxAt w' p (paV N x) 83) (z := 1000) (by kernel_rfl) ⟨HN0.out.low HK.low, HS0.out.low HK.low, HK.at 0 rfl, HP⟩ (fun hS0 => ?_)
    clear hS0
    generalize w9.drew = w8 at *
    clear w9
    rename World => w9
    refine fr_chT F [0, 1, 2, 3, 4, 5] [(53, .pointer (some ⟨p, 0, none⟩)), (52, .pointer (some ⟨p, 0, none⟩)), (51, .pointer (some ⟨p, 0, none⟩)), (50, .bool true), (49, .bool true), (48, .bool true)] ⟨HN0.out.low HK.low, HS0.out.low HK.low, HK.at 0 rfl, HP⟩ (by kernel_rfl) ?_
    clear F a9
    intro a9 F
    refine fr_takeG (i := 6) (o := ⟨some 54, _, _, _, _, _⟩) F ⟨HN0.out.low HK.low, HS0.out.low HK.low, HK.at 0 rfl, HP⟩ rfl (by rw [wanted_at F rfl (t := 50) (b := true) (by kernel_rfl) rfl]; rfl) 54 rfl (by decide) (.pointer (some ⟨N, s, none⟩)) (fun w9 hS => (by intro a' F'; have h53 := F'.at' 53 _ rfl; have hc : w9.cell? ⟨p, 0, none⟩ = some (.pointer (some ⟨N, s, none⟩)) := (hS.2.2.2.cells 0).trans (congrArg (fun z => some (ptrN N z)) hx); go_simp)) ?_
    clear F a9
    intro a9 F
    refine fr_chT F [7] [(55, .pointer (some ⟨N, q, none⟩))] ⟨HN0.out.low HK.low, HS0.out.low HK.low, HK.at 0 rfl, HP⟩ (by kernel_rfl) ?_
    clear F a9
    intro a9 F
    refine fr_stepC (i := 8) (o := ⟨some 56, _, _, _, _, _⟩) F rfl (by rw [wanted_at F rfl (t := 50) (b := true) (by kernel_rfl) rfl]; rfl) 56 rfl (by decide) 48 #[.pointer (some ⟨N, s, none⟩), .pointer (some ⟨N, q, none⟩)] (by intro a' F'; have h54 := F'.at' 54 _ rfl; have h55 := F'.at' 55 _ rfl; go_simp) (by have h := order_by HK.env (HS0.out.low HK.low) (HN0.out.low HK.low); rw [show (decide (n2.conn = n.conn) && decide (n2.client = n.client)) = true from hby2] at h; exact h) ?_
    rintro e9 w8 ⟨rfl, hb8⟩
    replace HK := HK.below hb8
    replace HP := HP.below hb8
    replace HON := HON.then hb8
    clear hb8
    clear w9
    rename World => w9
    refine ⟨_, rfl, ⟨HN0.out.low HK.low, HS0.out.low HK.low, HK.at 0 rfl, HP⟩, ?_⟩
    clear F a9
    intro a9 F
    refine fr_chT F [9, 10, 11, 12, 13] [(61, .pointer (some ⟨N, q + 32, none⟩)), (60, .pointer (some ⟨N, q, none⟩)), (59, .pointer (some ⟨N, q, none⟩)), (58, .bool true), (57, .bool true)] ⟨HN0.out.low HK.low, HS0.out.low HK.low, HK.at 0 rfl, HP⟩ (by kernel_rfl) ?_
    clear F a9
    intro a9 F
    refine fr_takeG (i := 14) (o := ⟨some 62, _, _, _, _, _⟩) F ⟨HN0.out.low HK.low, HS0.out.low HK.low, HK.at 0 rfl, HP⟩ rfl (by rw [wanted_at F rfl (t := 58) (b := true) (by kernel_rfl) rfl]; rfl) 62 rfl (by decide) (.string n.codes) (fun w9 hS => (by intro a' F'; have h61 := F'.at' 61 _ rfl; have hc : w9.cell? ⟨N, q + 32, none⟩ = some (.string n.codes) := (hS.1).cell 32 _ rfl; go_simp)) ?_
    clear F a9
    intro a9 F
    refine fr_chT F [15, 16, 17] [(65, .pointer (some ⟨Z, 32, none⟩)), (64, .pointer (some ⟨Z, 0, none⟩)), (63, .pointer (some ⟨Z, 0, none⟩))] ⟨HN0.out.low HK.low, HS0.out.low HK.low, HK.at 0 rfl, HP⟩ (by kernel_rfl) ?_
    clear F a9
    intro a9 F
    refine fr_takeG (i := 18) (o := ⟨some 66, _, _, _, _, _⟩) F ⟨HN0.out.low HK.low, HS0.out.low HK.low, HK.at 0 rfl, HP⟩ rfl (by rw [wanted_at F rfl (t := 58) (b := true) (by kernel_rfl) rfl]; rfl) 66 rfl (by decide) (.string Nt.zero.codes) (fun w9 hS => (by intro a' F'; have h65 := F'.at' 65 _ rfl; have hc : w9.cell? ⟨Z, 32, none⟩ = some (.string Nt.zero.codes) := hS.2.2.1.cells 32; go_simp)) ?_
    clear F a9
    intro a9 F
    refine fr_takeG (i := 19) (o := ⟨some 67, _, _, _, _, _⟩) F ⟨HN0.out.low HK.low, HS0.out.low HK.low, HK.at 0 rfl, HP⟩ rfl (by rw [wanted_at F rfl (t := 58) (b := true) (by kernel_rfl) rfl]; rfl) 67 rfl (by decide) (.bool false) (fun w9 hS => (fun a' F' => op_eqS (F'.ev 62 rfl) (F'.ev 66 rfl) rfl Tryd.underlying9 rfl (decide_eq_false hc))) ?_
    clear F a9
    intro a9 F
    refine fr_chT F [20, 21, 22, 23, 24, 25, 26, 27, 28, 29, 30, 31] [(79, .bool false), (78, undef), (77, undef), (76, undef), (75, undef), (74, undef), (73, undef), (72, undef), (71, undef), (70, undef), (69, .bool false), (68, .bool false)] ⟨HN0.out.low HK.low, HS0.out.low HK.low, HK.at 0 rfl, HP⟩ (by kernel_rfl) ?_
    clear F a9
    intro a9 F
    refine fr_stepC (i := 32) (o := ⟨some 80, _, _, _, _, _⟩) F rfl (wanted_free rfl) 80 rfl (by decide) 46 #[.bool true, .bool false] (by intro a' F'; have h48 := F'.at' 48 _ rfl; have h79 := F'.at' 79 _ rfl; go_simp) (order_reason true false w9) ?_
    rintro e9 w8 ⟨rfl, hb8⟩
    replace HK := HK.below hb8
    replace HP := HP.below hb8
    replace HON := HON.then hb8
    clear hb8
    clear w9
    rename World => w9
    refine ⟨_, rfl, ⟨HN0.out.low HK.low, HS0.out.low HK.low, HK.at 0 rfl, HP⟩, ?_⟩
    clear F a9
    intro a9 F
    refine fr_chT F [33] [(9, .int .u8 (reasonN true false : Int))] ⟨HN0.out.low HK.low, HS0.out.low HK.low, HK.at 0 rfl, HP⟩ (by kernel_rfl) ?_
    clear F a9
    intro a9 F
    refine AnyT.done (by kernel_rfl) ?_ _
    refine NoPanic.normal ?_
    show Code.wp _ _ _ _ _
    replace F := F.cut [(9, .int .u8 (reasonN true false : Int)), (6, .int .u8 0), (2, .pointer (some ⟨N, q, none⟩)), (1, .pointer (some ⟨p, 0, none⟩)), (0, kv)] (by kernel_rfl)
    have HK2 := HK.withBox ⟨p, paV N x, 83⟩ HP hpl (fun z hz => by rw [List.mem_singleton.1 hz]; exact hpz)
    clear HK HP
    have HK := HK2
    clear HK2
    replace HK : Keep w0 [(p, (paV N x), 83), (Z, (ntV Nt.zero none 0), 35)] [] w9 := HK
    refine wp_seq ?_
    refine wp_region_lit ?_
    refine fr_ch F 4 [(84, .pointer (some ⟨p, 4, none⟩)), (83, .pointer (some ⟨p, 0, none⟩)), (82, .pointer (some ⟨N, q, none⟩)), (81, .pointer (some ⟨p, 0, none⟩))] (by kernel_rfl) ?_
    clear F a9
    intro a9 F
    refine fr_putO F HK 0 rfl rfl rfl 52 _ _ rfl 4 (.pointer (some ⟨N, q, none⟩)) (fun a' F' => F'.ev 84 rfl) (fun a' F' => F'.ev 82 rfl) z_pn (Nat.le_of_ble_eq_true (by kernel_rfl)) (by kernel_rfl) ?_
    intro a10 w10 F' HK' HO
    replace HON := HON.trans HO (fun j _ h => h)
    clear HK F HO
    clear a9 w9
    rename World => w9
    rename Act => a9
    have HK := HK'
    have F := F'
    clear HK' F'
    replace HK : Keep w0 [(p, (paV N { x with tells := some q }), 83), (Z, (ntV Nt.zero none 0), 35)] [] w9 := HK
    refine wpList_nil ?_
    show Code.wp _ _ _ _ _
    refine wp_seq ?_
    refine wp_region_lit ?_
    refine fr_mv F (wanted_free rfl) 85 rfl (by decide) 9 rfl rfl ?_
    clear F a9
    intro a9 F
    refine fr_as F (wanted_free rfl) 6 rfl (by decide) 85 rfl rfl ?_
    clear F a9
    intro a9 F
    refine wpList_nil ?_
    show Code.wp _ _ _ _ _
    refine wp_ret ?_
    exact fr_ret1 F rfl _ rfl (FIN.out _ _ (by unfold sameT; simp only [hby2, decide_eq_false hc, Bool.true_and, Bool.and_true, Bool.false_and, Bool.and_false]) (HK.at 0 rfl) HON (HK.sub (List.nil_sublist _) (fun r hr => hr)))
  by_cases hpr : n.present = Nt.zero.present
  rotate_left
  · skip
    have hby2 : byP n2 n = true := hby
    refine wp_seq ?_
    refine wp_region_noPanic ?_
    have hb8 : Below w9.heap.size w9 w9.drew := below_draws (n := 1) rfl
    replace HK := HK.below hb8
    replace HP := HP.below hb8
    replace HON := HON.then hb8
    clear hb8
    refine AnyT.begin (S := fun w' => NtAt w' N q n a c ∧ NtAt w' N s n2 a2 c2 ∧ BoxAt w' Z (ntV Nt.zero none 0) 35 ∧ BoxAt w' p (paV N x) 83) (z := 1000) (by kernel_rfl) ⟨HN0.out.low HK.low, HS0.out.low HK.low, HK.at 0 rfl, HP⟩ (fun hS0 => ?_)
    clear hS0
    generalize w9.drew = w8 at *
    clear w9
    rename World => w9
    refine fr_chT F [0, 1, 2, 3, 4, 5] [(53, .pointer (some ⟨p, 0, none⟩)), (52, .pointer (some ⟨p, 0, none⟩)), (51, .pointer (some ⟨p, 0, none⟩)), (50, .bool true), (49, .bool true), (48, .bool true)] ⟨HN0.out.low HK.low, HS0.out.low HK.low, HK.at 0 rfl, HP⟩ (by kernel_rfl) ?_
    clear F a9
    intro a9 F
    refine fr_takeG (i := 6) (o := ⟨some 54, _, _, _, _, _⟩) F ⟨HN0.out.low HK.low, HS0.out.low HK.low, HK.at 0 rfl, HP⟩ rfl (by rw [wanted_at F rfl (t := 50) (b := true) (by kernel_rfl) rfl]; rfl) 54 rfl (by decide) (.pointer (some ⟨N, s, none⟩)) (fun w9 hS => (by intro a' F'; have h53 := F'.at' 53 _ rfl; have hc : w9.cell? ⟨p, 0, none⟩ = some (.pointer (some ⟨N, s, none⟩)) := (hS.2.2.2.cells 0).trans (congrArg (fun z => some (ptrN N z)) hx); go_simp)) ?_
    clear F a9
    intro a9 F
    refine fr_chT F [7] [(55, .pointer (some ⟨N, q, none⟩))] ⟨HN0.out.low HK.low, HS0.out.low HK.low, HK.at 0 rfl, HP⟩ (by kernel_rfl) ?_
    clear F a9
    intro a9 F
    refine fr_stepC (i := 8) (o := ⟨some 56, _, _, _, _, _⟩) F rfl (by rw [wanted_at F rfl (t := 50) (b := true) (by kernel_rfl) rfl]; rfl) 56 rfl (by decide) 48 #[.pointer (some ⟨N, s, none⟩), .pointer (some ⟨N, q, none⟩)] (by intro a' F'; have h54 := F'.at' 54 _ rfl; have h55 := F'.at' 55 _ rfl; go_simp) (by have h := order_by HK.env (HS0.out.low HK.low) (HN0.out.low HK.low); rw [show (decide (n2.conn = n.conn) && decide (n2.client = n.client)) = true from hby2] at h; exact h) ?_
    rintro e9 w8 ⟨rfl, hb8⟩
    replace HK := HK.below hb8
    replace HP := HP.below hb8
    replace HON := HON.then hb8
    clear hb8
    clear w9
    rename World => w9
    refine ⟨_, rfl, ⟨HN0.out.low HK.low, HS0.out.low HK.low, HK.at 0 rfl, HP⟩, ?_⟩
    clear F a9
    intro a9 F
    refine fr_chT F [9, 10, 11, 12, 13] [(61, .pointer (some ⟨N, q + 32, none⟩)), (60, .pointer (some ⟨N, q, none⟩)), (59, .pointer (some ⟨N, q, none⟩)), (58, .bool true), (57, .bool true)] ⟨HN0.out.low HK.low, HS0.out.low HK.low, HK.at 0 rfl, HP⟩ (by kernel_rfl) ?_
    clear F a9
    intro a9 F
    refine fr_takeG (i := 14) (o := ⟨some 62, _, _, _, _, _⟩) F ⟨HN0.out.low HK.low, HS0.out.low HK.low, HK.at 0 rfl, HP⟩ rfl (by rw [wanted_at F rfl (t := 58) (b := true) (by kernel_rfl) rfl]; rfl) 62 rfl (by decide) (.string n.codes) (fun w9 hS => (by intro a' F'; have h61 := F'.at' 61 _ rfl; have hc : w9.cell? ⟨N, q + 32, none⟩ = some (.string n.codes) := (hS.1).cell 32 _ rfl; go_simp)) ?_
    clear F a9
    intro a9 F
    refine fr_chT F [15, 16, 17] [(65, .pointer (some ⟨Z, 32, none⟩)), (64, .pointer (some ⟨Z, 0, none⟩)), (63, .pointer (some ⟨Z, 0, none⟩))] ⟨HN0.out.low HK.low, HS0.out.low HK.low, HK.at 0 rfl, HP⟩ (by kernel_rfl) ?_
    clear F a9
    intro a9 F
    refine fr_takeG (i := 18) (o := ⟨some 66, _, _, _, _, _⟩) F ⟨HN0.out.low HK.low, HS0.out.low HK.low, HK.at 0 rfl, HP⟩ rfl (by rw [wanted_at F rfl (t := 58) (b := true) (by kernel_rfl) rfl]; rfl) 66 rfl (by decide) (.string Nt.zero.codes) (fun w9 hS => (by intro a' F'; have h65 := F'.at' 65 _ rfl; have hc : w9.cell? ⟨Z, 32, none⟩ = some (.string Nt.zero.codes) := hS.2.2.1.cells 32; go_simp)) ?_
    clear F a9
    intro a9 F
    refine fr_takeG (i := 19) (o := ⟨some 67, _, _, _, _, _⟩) F ⟨HN0.out.low HK.low, HS0.out.low HK.low, HK.at 0 rfl, HP⟩ rfl (by rw [wanted_at F rfl (t := 58) (b := true) (by kernel_rfl) rfl]; rfl) 67 rfl (by decide) (.bool true) (fun w9 hS => (fun a' F' => op_eqS (F'.ev 62 rfl) (F'.ev 66 rfl) rfl Tryd.underlying9 rfl (decide_eq_true hc))) ?_
    clear F a9
    intro a9 F
    refine fr_chT F [20, 21, 22, 23, 24] [(72, .pointer (some ⟨N, q + 33, none⟩)), (71, .pointer (some ⟨N, q, none⟩)), (70, .pointer (some ⟨N, q, none⟩)), (69, .bool true), (68, .bool true)] ⟨HN0.out.low HK.low, HS0.out.low HK.low, HK.at 0 rfl, HP⟩ (by kernel_rfl) ?_
    clear F a9
    intro a9 F
    refine fr_takeG (i := 25) (o := ⟨some 73, _, _, _, _, _⟩) F ⟨HN0.out.low HK.low, HS0.out.low HK.low, HK.at 0 rfl, HP⟩ rfl (by rw [wanted_at F rfl (t := 69) (b := true) (by kernel_rfl) rfl]; rfl) 73 rfl (by decide) (.bool n.present) (fun w9 hS => (by intro a' F'; have h72 := F'.at' 72 _ rfl; have hc : w9.cell? ⟨N, q + 33, none⟩ = some (.bool n.present) := (hS.1).cell 33 _ rfl; go_simp)) ?_
    clear F a9
    intro a9 F
    refine fr_chT F [26, 27, 28] [(76, .pointer (some ⟨Z, 33, none⟩)), (75, .pointer (some ⟨Z, 0, none⟩)), (74, .pointer (some ⟨Z, 0, none⟩))] ⟨HN0.out.low HK.low, HS0.out.low HK.low, HK.at 0 rfl, HP⟩ (by kernel_rfl) ?_
    clear F a9
    intro a9 F
    refine fr_takeG (i := 29) (o := ⟨some 77, _, _, _, _, _⟩) F ⟨HN0.out.low HK.low, HS0.out.low HK.low, HK.at 0 rfl, HP⟩ rfl (by rw [wanted_at F rfl (t := 69) (b := true) (by kernel_rfl) rfl]; rfl) 77 rfl (by decide) (.bool Nt.zero.present) (fun w9 hS => (by intro a' F'; have h76 := F'.at' 76 _ rfl; have hc : w9.cell? ⟨Z, 33, none⟩ = some (.bool Nt.zero.present) := hS.2.2.1.cells 33; go_simp)) ?_
    clear F a9
    intro a9 F
    refine fr_takeG (i := 30) (o := ⟨some 78, _, _, _, _, _⟩) F ⟨HN0.out.low HK.low, HS0.out.low HK.low, HK.at 0 rfl, HP⟩ rfl (by rw [wanted_at F rfl (t := 69) (b := true) (by kernel_rfl) rfl]; rfl) 78 rfl (by decide) (.bool false) (fun w9 hS => (by intro a' F'; have h73 := F'.at' 73 _ rfl; have h77 := F'.at' 77 _ rfl; go_simp <;> simp [hpr])) ?_
    clear F a9
    intro a9 F
    refine fr_chT F [31] [(79, .bool false)] ⟨HN0.out.low HK.low, HS0.out.low HK.low, HK.at 0 rfl, HP⟩ (by kernel_rfl) ?_
    clear F a9
    intro a9 F
    refine fr_stepC (i := 32) (o := ⟨some 80, _, _, _, _, _⟩) F rfl (wanted_free rfl) 80 rfl (by decide) 46 #[.bool true, .bool false] (by intro a' F'; have h48 := F'.at' 48 _ rfl; have h79 := F'.at' 79 _ rfl; go_simp) (order_reason true false w9) ?_
    rintro e9 w8 ⟨rfl, hb8⟩
    replace HK := HK.below hb8
    replace HP := HP.below hb8
    replace HON := HON.then hb8
    clear hb8
    clear w9
    rename World => w9
    refine ⟨_, rfl, ⟨HN0.out.low HK.low, HS0.out.low HK.low, HK.at 0 rfl, HP⟩, ?_⟩
    clear F a9
    intro a9 F
    refine fr_chT F [33] [(9, .int .u8 (reasonN true false : Int))] ⟨HN0.out.low HK.low, HS0.out.low HK.low, HK.at 0 rfl, HP⟩ (by kernel_rfl) ?_
    clear F a9
    intro a9 F
    refine AnyT.done (by kernel_rfl) ?_ _
    refine NoPanic.normal ?_
    show Code.wp _ _ _ _ _
    replace F := F.cut [(9, .int .u8 (reasonN true false : Int)), (6, .int .u8 0), (2, .pointer (some ⟨N, q, none⟩)), (1, .pointer (some ⟨p, 0, none⟩)), (0, kv)] (by kernel_rfl)
    have HK2 := HK.withBox ⟨p, paV N x, 83⟩ HP hpl (fun z hz => by rw [List.mem_singleton.1 hz]; exact hpz)
    clear HK HP
    have HK := HK2
    clear HK2
    replace HK : Keep w0 [(p, (paV N x), 83), (Z, (ntV Nt.zero none 0), 35)] [] w9 := HK
    refine wp_seq ?_
    refine wp_region_lit ?_
    refine fr_ch F 4 [(84, .pointer (some ⟨p, 4, none⟩)), (83, .pointer (some ⟨p, 0, none⟩)), (82, .pointer (some ⟨N, q, none⟩)), (81, .pointer (some ⟨p, 0, none⟩))] (by kernel_rfl) ?_
    clear F a9
    intro a9 F
    refine fr_putO F HK 0 rfl rfl rfl 52 _ _ rfl 4 (.pointer (some ⟨N, q, none⟩)) (fun a' F' => F'.ev 84 rfl) (fun a' F' => F'.ev 82 rfl) z_pn (Nat.le_of_ble_eq_true (by kernel_rfl)) (by kernel_rfl) ?_
    intro a10 w10 F' HK' HO
    replace HON := HON.trans HO (fun j _ h => h)
    clear HK F HO
    clear a9 w9
    rename World => w9
    rename Act => a9
    have HK := HK'
    have F := F'
    clear HK' F'
    replace HK : Keep w0 [(p, (paV N { x with tells := some q }), 83), (Z, (ntV Nt.zero none 0), 35)] [] w9 := HK
    refine wpList_nil ?_
    show Code.wp _ _ _ _ _
    refine wp_seq ?_
    refine wp_region_lit ?_
    refine fr_mv F (wanted_free rfl) 85 rfl (by decide) 9 rfl rfl ?_
    clear F a9
    intro a9 F
    refine fr_as F (wanted_free rfl) 6 rfl (by decide) 85 rfl rfl ?_
    clear F a9
    intro a9 F
    refine wpList_nil ?_
    show Code.wp _ _ _ _ _
    refine wp_ret ?_
    exact fr_ret1 F rfl _ rfl (FIN.out _ _ (by unfold sameT; simp only [hby2, decide_eq_true hc, decide_eq_false hpr, Bool.true_and, Bool.and_true, Bool.false_and, Bool.and_false]) (HK.at 0 rfl) HON (HK.sub (List.nil_sublist _) (fun r hr => hr)))
  have hby2 : byP n2 n = true := hby
  refine wp_seq ?_
  refine wp_region_noPanic ?_
  have hb8 : Below w9.heap.size w9 w9.drew := below_draws (n := 1) rfl
  replace HK := HK.below hb8
  replace HP := HP.below hb8
  replace HON := HON.then hb8
  clear hb8
  refine AnyT.begin (S := fun w' => NtAt w' N q n a c ∧ NtAt w' N s n2 a2 c2 ∧ BoxAt w' Z (ntV Nt.zero none 0) 35 ∧ BoxAt w' p (paV N x) 83) (z := 1000) (by kernel_rfl) ⟨HN0.out.low HK.low, HS0.out.low HK.low, HK.at 0 rfl, HP⟩ (fun hS0 => ?_)
  clear hS0
  generalize w9.drew = w8 at *
  clear w9
  rename World => w9
  refine fr_chT F [0, 1, 2, 3, 4, 5] [(53, .pointer (some ⟨p, 0, none⟩)), (52, .pointer (some ⟨p, 0, none⟩)), (51, .pointer (some ⟨p, 0, none⟩)), (50, .bool true), (49, .bool true), (48, .bool true)] ⟨HN0.out.low HK.low, HS0.out.low HK.low, HK.at 0 rfl, HP⟩ (by kernel_rfl) ?_
  clear F a9
  intro a9 F
  refine fr_takeG (i := 6) (o := ⟨some 54, _, _, _, _, _⟩) F ⟨HN0.out.low HK.low, HS0.out.low HK.low, HK.at 0 rfl, HP⟩ rfl (by rw [wanted_at F rfl (t := 50) (b := true) (by kernel_rfl) rfl]; rfl) 54 rfl (by decide) (.pointer (some ⟨N, s, none⟩)) (fun w9 hS => (by intro a' F'; have h53 := F'.at' 53 _ rfl; have hc : w9.cell? ⟨p, 0, none⟩ = some (.pointer (some ⟨N, s, none⟩)) := (hS.2.2.2.cells 0).trans (congrArg (fun z => some (ptrN N z)) hx); go_simp)) ?_
  clear F a9
  intro a9 F
  refine fr_chT F [7] [(55, .pointer (some ⟨N, q, none⟩))] ⟨HN0.out.low HK.low, HS0.out.low HK.low, HK.at 0 rfl, HP⟩ (by kernel_rfl) ?_
  clear F a9
  intro a9 F
  refine fr_stepC (i := 8) (o := ⟨some 56, _, _, _, _, _⟩) F rfl (by rw [wanted_at F rfl (t := 50) (b := true) (by kernel_rfl) rfl]; rfl) 56 rfl (by decide) 48 #[.pointer (some ⟨N, s, none⟩), .pointer (some ⟨N, q, none⟩)] (by intro a' F'; have h54 := F'.at' 54 _ rfl; have h55 := F'.at' 55 _ rfl; go_simp) (by have h := order_by HK.env (HS0.out.low HK.low) (HN0.out.low HK.low); rw [show (decide (n2.conn = n.conn) && decide (n2.client = n.client)) = true from hby2] at h; exact h) ?_
  rintro e9 w8 ⟨rfl, hb8⟩
  replace HK := HK.below hb8
  replace HP := HP.below hb8
  replace HON := HON.then hb8
  clear hb8
  clear w9
  rename World => w9
  refine ⟨_, rfl, ⟨HN0.out.low HK.low, HS0.out.low HK.low, HK.at 0 rfl, HP⟩, ?_⟩
  clear F a9
  intro a9 F
  refine fr_chT F [9, 10, 11, 12, 13] [(61, .pointer (some ⟨N, q + 32, none⟩)), (60, .pointer (some ⟨N, q, none⟩)), (59, .pointer (some ⟨N, q, none⟩)), (58, .bool true), (57, .bool true)] ⟨HN0.out.low HK.low, HS0.out.low HK.low, HK.at 0 rfl, HP⟩ (by kernel_rfl) ?_
  clear F a9
  intro a9 F
  refine fr_takeG (i := 14) (o := ⟨some 62, _, _, _, _, _⟩) F ⟨HN0.out.low HK.low, HS0.out.low HK.low, HK.at 0 rfl, HP⟩ rfl (by rw [wanted_at F rfl (t := 58) (b := true) (by kernel_rfl) rfl]; rfl) 62 rfl (by decide) (.string n.codes) (fun w9 hS => (by intro a' F'; have h61 := F'.at' 61 _ rfl; have hc : w9.cell? ⟨N, q + 32, none⟩ = some (.string n.codes) := (hS.1).cell 32 _ rfl; go_simp)) ?_
  clear F a9
  intro a9 F
  refine fr_chT F [15, 16, 17] [(65, .pointer (some ⟨Z, 32, none⟩)), (64, .pointer (some ⟨Z, 0, none⟩)), (63, .pointer (some ⟨Z, 0, none⟩))] ⟨HN0.out.low HK.low, HS0.out.low HK.low, HK.at 0 rfl, HP⟩ (by kernel_rfl) ?_
  clear F a9
  intro a9 F
  refine fr_takeG (i := 18) (o := ⟨some 66, _, _, _, _, _⟩) F ⟨HN0.out.low HK.low, HS0.out.low HK.low, HK.at 0 rfl, HP⟩ rfl (by rw [wanted_at F rfl (t := 58) (b := true) (by kernel_rfl) rfl]; rfl) 66 rfl (by decide) (.string Nt.zero.codes) (fun w9 hS => (by intro a' F'; have h65 := F'.at' 65 _ rfl; have hc : w9.cell? ⟨Z, 32, none⟩ = some (.string Nt.zero.codes) := hS.2.2.1.cells 32; go_simp)) ?_
  clear F a9
  intro a9 F
  refine fr_takeG (i := 19) (o := ⟨some 67, _, _, _, _, _⟩) F ⟨HN0.out.low HK.low, HS0.out.low HK.low, HK.at 0 rfl, HP⟩ rfl (by rw [wanted_at F rfl (t := 58) (b := true) (by kernel_rfl) rfl]; rfl) 67 rfl (by decide) (.bool true) (fun w9 hS => (fun a' F' => op_eqS (F'.ev 62 rfl) (F'.ev 66 rfl) rfl Tryd.underlying9 rfl (decide_eq_true hc))) ?_
  clear F a9
  intro a9 F
  refine fr_chT F [20, 21, 22, 23, 24] [(72, .pointer (some ⟨N, q + 33, none⟩)), (71, .pointer (some ⟨N, q, none⟩)), (70, .pointer (some ⟨N, q, none⟩)), (69, .bool true), (68, .bool true)] ⟨HN0.out.low HK.low, HS0.out.low HK.low, HK.at 0 rfl, HP⟩ (by kernel_rfl) ?_
  clear F a9
  intro a9 F
  refine fr_takeG (i := 25) (o := ⟨some 73, _, _, _, _, _⟩) F ⟨HN0.out.low HK.low, HS0.out.low HK.low, HK.at 0 rfl, HP⟩ rfl (by rw [wanted_at F rfl (t := 69) (b := true) (by kernel_rfl) rfl]; rfl) 73 rfl (by decide) (.bool n.present) (fun w9 hS => (by intro a' F'; have h72 := F'.at' 72 _ rfl; have hc : w9.cell? ⟨N, q + 33, none⟩ = some (.bool n.present) := (hS.1).cell 33 _ rfl; go_simp)) ?_
  clear F a9
  intro a9 F
  refine fr_chT F [26, 27, 28] [(76, .pointer (some ⟨Z, 33, none⟩)), (75, .pointer (some ⟨Z, 0, none⟩)), (74, .pointer (some ⟨Z, 0, none⟩))] ⟨HN0.out.low HK.low, HS0.out.low HK.low, HK.at 0 rfl, HP⟩ (by kernel_rfl) ?_
  clear F a9
  intro a9 F
  refine fr_takeG (i := 29) (o := ⟨some 77, _, _, _, _, _⟩) F ⟨HN0.out.low HK.low, HS0.out.low HK.low, HK.at 0 rfl, HP⟩ rfl (by rw [wanted_at F rfl (t := 69) (b := true) (by kernel_rfl) rfl]; rfl) 77 rfl (by decide) (.bool Nt.zero.present) (fun w9 hS => (by intro a' F'; have h76 := F'.at' 76 _ rfl; have hc : w9.cell? ⟨Z, 33, none⟩ = some (.bool Nt.zero.present) := hS.2.2.1.cells 33; go_simp)) ?_
  clear F a9
  intro a9 F
  refine fr_takeG (i := 30) (o := ⟨some 78, _, _, _, _, _⟩) F ⟨HN0.out.low HK.low, HS0.out.low HK.low, HK.at 0 rfl, HP⟩ rfl (by rw [wanted_at F rfl (t := 69) (b := true) (by kernel_rfl) rfl]; rfl) 78 rfl (by decide) (.bool true) (fun w9 hS => (by intro a' F'; have h73 := F'.at' 73 _ rfl; have h77 := F'.at' 77 _ rfl; go_simp <;> simp [hpr])) ?_
  clear F a9
  intro a9 F
  refine fr_chT F [31] [(79, .bool true)] ⟨HN0.out.low HK.low, HS0.out.low HK.low, HK.at 0 rfl, HP⟩ (by kernel_rfl) ?_
  clear F a9
  intro a9 F
  refine fr_stepC (i := 32) (o := ⟨some 80, _, _, _, _, _⟩) F rfl (wanted_free rfl) 80 rfl (by decide) 46 #[.bool true, .bool true] (by intro a' F'; have h48 := F'.at' 48 _ rfl; have h79 := F'.at' 79 _ rfl; go_simp) (order_reason true true w9) ?_
  rintro e9 w8 ⟨rfl, hb8⟩
  replace HK := HK.below hb8
  replace HP := HP.below hb8
  replace HON := HON.then hb8
  clear hb8
  clear w9
  rename World => w9
  refine ⟨_, rfl, ⟨HN0.out.low HK.low, HS0.out.low HK.low, HK.at 0 rfl, HP⟩, ?_⟩
  clear F a9
  intro a9 F
  refine fr_chT F [33] [(9, .int .u8 (reasonN true true : Int))] ⟨HN0.out.low HK.low, HS0.out.low HK.low, HK.at 0 rfl, HP⟩ (by kernel_rfl) ?_
  clear F a9
  intro a9 F
  refine AnyT.done (by kernel_rfl) ?_ _
  refine NoPanic.normal ?_
  show Code.wp _ _ _ _ _
  replace F := F.cut [(9, .int .u8 (reasonN true true : Int)), (6, .int .u8 0), (2, .pointer (some ⟨N, q, none⟩)), (1, .pointer (some ⟨p, 0, none⟩)), (0, kv)] (by kernel_rfl)
  have HK2 := HK.withBox ⟨p, paV N x, 83⟩ HP hpl (fun z hz => by rw [List.mem_singleton.1 hz]; exact hpz)
  clear HK HP
  have HK := HK2
  clear HK2
  replace HK : Keep w0 [(p, (paV N x), 83), (Z, (ntV Nt.zero none 0), 35)] [] w9 := HK
  refine wp_seq ?_
  refine wp_region_lit ?_
  refine fr_ch F 4 [(84, .pointer (some ⟨p, 4, none⟩)), (82, .pointer (some ⟨N, q, none⟩))] (by kernel_rfl) ?_
  clear F a9
  intro a9 F
  refine fr_putO F HK 0 rfl rfl rfl 52 _ _ rfl 4 (.pointer (some ⟨N, q, none⟩)) (fun a' F' => F'.ev 84 rfl) (fun a' F' => F'.ev 82 rfl) z_pn (Nat.le_of_ble_eq_true (by kernel_rfl)) (by kernel_rfl) ?_
  intro a10 w10 F' HK' HO
  replace HON := HON.trans HO (fun j _ h => h)
  clear HK F HO
  clear a9 w9
  rename World => w9
  rename Act => a9
  have HK := HK'
  have F := F'
  clear HK' F'
  replace HK : Keep w0 [(p, (paV N { x with tells := some q }), 83), (Z, (ntV Nt.zero none 0), 35)] [] w9 := HK
  refine wpList_nil ?_
  show Code.wp _ _ _ _ _
  refine wp_seq ?_
  refine wp_region_lit ?_
  refine fr_mv F (wanted_free rfl) 85 rfl (by decide) 9 rfl rfl ?_
  clear F a9
  intro a9 F
  refine fr_as F (wanted_free rfl) 6 rfl (by decide) 85 rfl rfl ?_
  clear F a9
  intro a9 F
  refine wpList_nil ?_
  show Code.wp _ _ _ _ _
  refine wp_ret ?_
  exact fr_ret1 F rfl _ rfl (FIN.out _ _ (by unfold sameT; simp only [hby2, decide_eq_true hc, decide_eq_true hpr, Bool.true_and, Bool.and_true, Bool.false_and, Bool.and_false]) (HK.at 0 rfl) HON (HK.sub (List.nil_sublist _) (fun r hr => hr)))
end Go.Proofs.YtmppkgonkkffhaaDoor
