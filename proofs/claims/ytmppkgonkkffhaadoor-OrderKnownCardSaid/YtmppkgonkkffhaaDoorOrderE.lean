/- The walks of order.routes, does, keeps. Conditions: notes lie where the pointers are, below the caller's memory; bounds on their texts; the model lies behind its pointer. -/
import Derived.Test.YtmppkgonkkffhaaDoorJoinP
import Derived.Test.YtmppkgonkkffhaaDoorFrameT
import Derived.Test.YtmppkgonkkffhaaDoorPacketSame
namespace Go.Proofs.YtmppkgonkkffhaaDoor
open Go.RowKit
/-- What a kind of note that the model is asked about leaves. -/
def RetM (w0 w : World) (k OM m M K KM p N : Nat) (L : List St) (why : Nat) (x' : Pa) (σ : Sess) (e : Ending) (w' : World) : Prop :=
  ∃ L', e = .returned (.int .u8 (why : Int)) ∧ absL L' = σ ∧ BoxAt w' p (paV N x') 83 ∧ BoxAt w' k #[.pointer (some ⟨m, 0, none⟩), .map (some OM)] 49 ∧ MoAt w' w0.heap.size m M K KM L' ∧ Only (fun j => j = p ∨ FootM m M K KM L j) w w' ∧ (∀ j, FootM m M K KM L' j → FootM m M K KM L j ∨ w.heap.size ≤ j) ∧ Keep w0 [] [] w'
def sameD (s n : Nt) : Bool := byP s n && decide (s.p = n.p)
def sameR (s n : Nt) : Bool := byP s n && publishedP s.p n.msg
def sameK (r n : Nt) : Bool := decide (n.client = r.client) && (decide (n.msg = r.msg) && decide (n.msg.ret = true))
set_option maxRecDepth 100000 in
set_option maxHeartbeats 4000000 in
theorem routes_no1 {w0 w : World} {p N q : Nat} {x : Pa} {n : Nt} {a : Option Addr} {c : Nat} (kv : Value) (HK : Keep w0 [] [] w) (HP : BoxAt w p (paV N x) 83) (hpl : w0.heap.size ≤ p) (hn : NtAt w0 N q n a c) (hx : x.asks = none) : Calls Tryd.prog 25 #[kv, .pointer (some ⟨p, 0, none⟩), .pointer (some ⟨N, q, none⟩)] w (RetS w0 w p N (2) ({ x with routes := some q })) := by
  obtain ⟨RR, hRR⟩ : ∃ RR : Ending → World → Prop, RR = RetS w0 w p N (2) ({ x with routes := some q }) := ⟨_, rfl⟩
  have FIN := Lib.hid (show ∀ r w', r = 2 → BoxAt w' p (paV N ({ x with routes := some q })) 83 → Only (fun j => j = p) w w' → Keep w0 [] [] w' → RR (.returned (.int .u8 (r : Int))) w' from fun r w' h1 h2 h3 h4 => by rw [hRR, h1]; exact ⟨rfl, h2, h3, h4⟩)
  rw [← hRR]
  have HN0 := Lib.hid hn
  obtain ⟨w9, hw9⟩ : ∃ w9, w9 = w := ⟨_, rfl⟩
  have HON : Only (fun j => j = p) w w9 := by rw [hw9]; exact Only.refl _ _
  rw [← hw9] at HK HP
  suffices hgo : Calls Tryd.prog 25 #[kv, .pointer (some ⟨p, 0, none⟩), .pointer (some ⟨N, q, none⟩)] w9 RR by rw [hw9] at hgo; exact hgo
  clear hw9 hRR hn
  go_enter Tryd.func25, Tryd.ntmps25
  refine wp_forget (n := 49) (L := [(2, .pointer (some ⟨N, q, none⟩)), (1, .pointer (some ⟨p, 0, none⟩)), (0, kv)]) (FrL.add (FrL.add (FrL.add (FrL.nil ?_ ?_) _ _ ?_) _ _ ?_) _ _ ?_) ?_
  iterate 5 rfl
  intro a9 F
  refine wp_seq ?_
  refine wp_region_lit ?_
  refine fr_ch F 1 [(6, .int .u8 0)] (by kernel_rfl) ?_
  clear F a9
  intro a9 F
  refine wpList_nil ?_
  show Code.wp _ _ _ _ _
  refine wp_seq ?_
  refine wp_region_lit ?_
  refine fr_ch F 3 [(11, .pointer (some ⟨p, 0, none⟩)), (10, .pointer (some ⟨p, 0, none⟩)), (9, .pointer (some ⟨p, 0, none⟩))] (by kernel_rfl) ?_
  clear F a9
  intro a9 F
  refine fr_do F (wanted_free rfl) 12 rfl (by decide) (.pointer none) (by intro a' F'; have h11 := F'.at' 11 _ rfl; have hc : w9.cell? ⟨p, 0, none⟩ = some (.pointer none) := (HP.cells 0).trans (congrArg (fun z => some (ptrN N z)) hx); go_simp) ?_
  clear F a9
  intro a9 F
  refine fr_ch F 7 [(7, .bool false), (18, .bool false), (17, undef), (16, undef), (15, undef), (14, .bool false), (13, .bool false)] (by kernel_rfl) ?_
  clear F a9
  intro a9 F
  refine wpList_nil ?_
  show Code.wp _ _ _ _ _
  replace F := F.cut [(7, .bool false), (6, .int .u8 0), (2, .pointer (some ⟨N, q, none⟩)), (1, .pointer (some ⟨p, 0, none⟩)), (0, kv)] (by kernel_rfl)
  refine wp_seq ?_
  refine wp_region_noPanic ?_
  have hb8 : Below w9.heap.size w9 w9.drew := below_draws (n := 1) rfl
  replace HK := HK.below hb8
  replace HP := HP.below hb8
  replace HON := HON.then hb8
  clear hb8
  refine AnyT.begin (S := fun _ => True) (z := 1000) (by kernel_rfl) trivial (fun hS0 => ?_)
  clear hS0
  generalize w9.drew = w8 at *
  clear w9
  rename World => w9
  refine fr_chT F [0, 1, 2, 3, 4, 5, 6, 7, 8, 9, 10, 11, 12, 13, 14, 15, 16, 17, 18, 19, 20, 21, 22, 23] [(42, .bool false), (41, undef), (40, undef), (39, undef), (38, undef), (37, undef), (36, undef), (35, undef), (34, undef), (33, undef), (32, undef), (31, undef), (30, undef), (29, .bool false), (28, .bool false), (27, undef), (26, undef), (25, undef), (24, undef), (23, undef), (22, undef), (21, .bool false), (20, .bool false), (19, .bool false)] trivial (by kernel_rfl) ?_
  clear F a9
  intro a9 F
  refine fr_stepC (i := 24) (o := ⟨some 43, _, _, _, _, _⟩) F rfl (wanted_free rfl) 43 rfl (by decide) 46 #[.bool false, .bool false] (by intro a' F'; have h19 := F'.at' 19 _ rfl; have h42 := F'.at' 42 _ rfl; go_simp) (order_reason false false w9) ?_
  rintro e9 w8 ⟨rfl, hb8⟩
  replace HK := HK.below hb8
  replace HP := HP.below hb8
  replace HON := HON.then hb8
  clear hb8
  clear w9
  rename World => w9
  refine ⟨_, rfl, trivial, ?_⟩
  clear F a9
  intro a9 F
  refine fr_chT F [25] [(8, .int .u8 (reasonN false false : Int))] trivial (by kernel_rfl) ?_
  clear F a9
  intro a9 F
  refine AnyT.done (by kernel_rfl) ?_ _
  refine NoPanic.normal ?_
  show Code.wp _ _ _ _ _
  replace F := F.cut [(8, .int .u8 (reasonN false false : Int)), (6, .int .u8 0), (2, .pointer (some ⟨N, q, none⟩)), (1, .pointer (some ⟨p, 0, none⟩)), (0, kv)] (by kernel_rfl)
  have HK2 := HK.withBox ⟨p, paV N x, 83⟩ HP hpl (fun z hz => by cases hz)
  clear HK HP
  have HK := HK2
  clear HK2
  replace HK : Keep w0 [(p, (paV N x), 83)] [] w9 := HK
  refine wp_seq ?_
  refine wp_region_lit ?_
  refine fr_ch F 4 [(47, .pointer (some ⟨p, 2, none⟩)), (45, .pointer (some ⟨N, q, none⟩))] (by kernel_rfl) ?_
  clear F a9
  intro a9 F
  refine fr_putO F HK 0 rfl rfl rfl 52 _ _ rfl 2 (.pointer (some ⟨N, q, none⟩)) (fun a' F' => F'.ev 47 rfl) (fun a' F' => F'.ev 45 rfl) z_pn (Nat.le_of_ble_eq_true (by kernel_rfl)) (by kernel_rfl) ?_
  intro a10 w10 F' HK' HO
  replace HON := HON.trans HO (fun j _ h => h)
  clear HK F HO
  clear a9 w9
  rename World => w9
  rename Act => a9
  have HK := HK'
  have F := F'
  clear HK' F'
  replace HK : Keep w0 [(p, (paV N { x with routes := some q }), 83)] [] w9 := HK
  refine wpList_nil ?_
  show Code.wp _ _ _ _ _
  refine wp_seq ?_
  refine wp_region_lit ?_
  refine fr_mv F (wanted_free rfl) 48 rfl (by decide) 8 rfl rfl ?_
  clear F a9
  intro a9 F
  refine fr_as F (wanted_free rfl) 6 rfl (by decide) 48 rfl rfl ?_
  clear F a9
  intro a9 F
  refine wpList_nil ?_
  show Code.wp _ _ _ _ _
  refine wp_ret ?_
  exact fr_ret1 F rfl _ rfl (FIN.out _ _ (rfl) (HK.at 0 rfl) HON (HK.sub (List.nil_sublist _) (fun r hr => hr)))
set_option maxRecDepth 100000 in
set_option maxHeartbeats 4000000 in
theorem routes_no2 {w0 w : World} {p N q : Nat} {x : Pa} {n : Nt} {a : Option Addr} {c : Nat} (kv : Value) (HK : Keep w0 [] [] w) (HP : BoxAt w p (paV N x) 83) (hpl : w0.heap.size ≤ p) (hn : NtAt w0 N q n a c) {s : Nat} (hx : x.asks = some s) (hd : doneP x = true) : Calls Tryd.prog 25 #[kv, .pointer (some ⟨p, 0, none⟩), .pointer (some ⟨N, q, none⟩)] w (RetS w0 w p N (2) ({ x with routes := some q })) := by
  obtain ⟨RR, hRR⟩ : ∃ RR : Ending → World → Prop, RR = RetS w0 w p N (2) ({ x with routes := some q }) := ⟨_, rfl⟩
  have FIN := Lib.hid (show ∀ r w', r = 2 → BoxAt w' p (paV N ({ x with routes := some q })) 83 → Only (fun j => j = p) w w' → Keep w0 [] [] w' → RR (.returned (.int .u8 (r : Int))) w' from fun r w' h1 h2 h3 h4 => by rw [hRR, h1]; exact ⟨rfl, h2, h3, h4⟩)
  rw [← hRR]
  have HN0 := Lib.hid hn
  obtain ⟨w9, hw9⟩ : ∃ w9, w9 = w := ⟨_, rfl⟩
  have HON : Only (fun j => j = p) w w9 := by rw [hw9]; exact Only.refl _ _
  rw [← hw9] at HK HP
  suffices hgo : Calls Tryd.prog 25 #[kv, .pointer (some ⟨p, 0, none⟩), .pointer (some ⟨N, q, none⟩)] w9 RR by rw [hw9] at hgo; exact hgo
  clear hw9 hRR hn
  go_enter Tryd.func25, Tryd.ntmps25
  refine wp_forget (n := 49) (L := [(2, .pointer (some ⟨N, q, none⟩)), (1, .pointer (some ⟨p, 0, none⟩)), (0, kv)]) (FrL.add (FrL.add (FrL.add (FrL.nil ?_ ?_) _ _ ?_) _ _ ?_) _ _ ?_) ?_
  iterate 5 rfl
  intro a9 F
  have HD := Lib.hid (show ∀ w9, BoxAt w9 p (paV N x) 83 → Calls Tryd.prog 47 #[.pointer (some ⟨p, 0, none⟩)] w9 fun e w' => e = .returned (.bool true) ∧ Below w9.heap.size w9 w' from fun w9 h => by have h2 := order_done h; rw [hd] at h2; exact h2)
  refine wp_seq ?_
  refine wp_region_lit ?_
  refine fr_ch F 1 [(6, .int .u8 0)] (by kernel_rfl) ?_
  clear F a9
  intro a9 F
  refine wpList_nil ?_
  show Code.wp _ _ _ _ _
  refine wp_seq ?_
  refine wp_region_lit ?_
  refine fr_ch F 3 [(11, .pointer (some ⟨p, 0, none⟩)), (10, .pointer (some ⟨p, 0, none⟩)), (9, .pointer (some ⟨p, 0, none⟩))] (by kernel_rfl) ?_
  clear F a9
  intro a9 F
  refine fr_do F (wanted_free rfl) 12 rfl (by decide) (.pointer (some ⟨N, s, none⟩)) (by intro a' F'; have h11 := F'.at' 11 _ rfl; have hc : w9.cell? ⟨p, 0, none⟩ = some (.pointer (some ⟨N, s, none⟩)) := (HP.cells 0).trans (congrArg (fun z => some (ptrN N z)) hx); go_simp) ?_
  clear F a9
  intro a9 F
  refine fr_ch F 2 [(14, .bool true), (13, .bool true)] (by kernel_rfl) ?_
  clear F a9
  intro a9 F
  refine fr_mv F (by rw [wanted_at F rfl (t := 14) (b := true) (by kernel_rfl) rfl]; rfl) 15 rfl (by decide) 1 rfl rfl ?_
  clear F a9
  intro a9 F
  refine fr_call F (by rw [wanted_at F rfl (t := 14) (b := true) (by kernel_rfl) rfl]; rfl) 16 rfl (by decide) 47 #[.pointer (some ⟨p, 0, none⟩)] (by intro a' F'; have h15 := F'.at' 15 _ rfl; go_simp) (HD.out _ HP) ?_
  rintro e9 w8 ⟨rfl, hb8⟩
  replace HK := HK.below hb8
  replace HP := HP.below hb8
  replace HON := HON.then hb8
  clear hb8
  clear w9
  rename World => w9
  refine ⟨_, rfl, ?_⟩
  clear F a9
  intro a9 F
  refine fr_ch F 3 [(7, .bool false), (18, .bool false), (17, .bool false)] (by kernel_rfl) ?_
  clear F a9
  intro a9 F
  refine wpList_nil ?_
  show Code.wp _ _ _ _ _
  replace F := F.cut [(7, .bool false), (6, .int .u8 0), (2, .pointer (some ⟨N, q, none⟩)), (1, .pointer (some ⟨p, 0, none⟩)), (0, kv)] (by kernel_rfl)
  refine wp_seq ?_
  refine wp_region_noPanic ?_
  have hb8 : Below w9.heap.size w9 w9.drew := below_draws (n := 1) rfl
  replace HK := HK.below hb8
  replace HP := HP.below hb8
  replace HON := HON.then hb8
  clear hb8
  refine AnyT.begin (S := fun _ => True) (z := 1000) (by kernel_rfl) trivial (fun hS0 => ?_)
  clear hS0
  generalize w9.drew = w8 at *
  clear w9
  rename World => w9
  refine fr_chT F [0, 1, 2, 3, 4, 5, 6, 7, 8, 9, 10, 11, 12, 13, 14, 15, 16, 17, 18, 19, 20, 21, 22, 23] [(42, .bool false), (41, undef), (40, undef), (39, undef), (38, undef), (37, undef), (36, undef), (35, undef), (34, undef), (33, undef), (32, undef), (31, undef), (30, undef), (29, .bool false), (28, .bool false), (27, undef), (26, undef), (25, undef), (24, undef), (23, undef), (22, undef), (21, .bool false), (20, .bool false), (19, .bool false)] trivial (by kernel_rfl) ?_
  clear F a9
  intro a9 F
  refine fr_stepC (i := 24) (o := ⟨some 43, _, _, _, _, _⟩) F rfl (wanted_free rfl) 43 rfl (by decide) 46 #[.bool false, .bool false] (by intro a' F'; have h19 := F'.at' 19 _ rfl; have h42 := F'.at' 42 _ rfl; go_simp) (order_reason false false w9) ?_
  rintro e9 w8 ⟨rfl, hb8⟩
  replace HK := HK.below hb8
  replace HP := HP.below hb8
  replace HON := HON.then hb8
  clear hb8
  clear w9
  rename World => w9
  refine ⟨_, rfl, trivial, ?_⟩
  clear F a9
  intro a9 F
  refine fr_chT F [25] [(8, .int .u8 (reasonN false false : Int))] trivial (by kernel_rfl) ?_
  clear F a9
  intro a9 F
  refine AnyT.done (by kernel_rfl) ?_ _
  refine NoPanic.normal ?_
  show Code.wp _ _ _ _ _
  replace F := F.cut [(8, .int .u8 (reasonN false false : Int)), (6, .int .u8 0), (2, .pointer (some ⟨N, q, none⟩)), (1, .pointer (some ⟨p, 0, none⟩)), (0, kv)] (by kernel_rfl)
  have HK2 := HK.withBox ⟨p, paV N x, 83⟩ HP hpl (fun z hz => by cases hz)
  clear HK HP
  have HK := HK2
  clear HK2
  replace HK : Keep w0 [(p, (paV N x), 83)] [] w9 := HK
  refine wp_seq ?_
  refine wp_region_lit ?_
  refine fr_ch F 4 [(47, .pointer (some ⟨p, 2, none⟩)), (45, .pointer (some ⟨N, q, none⟩))] (by kernel_rfl) ?_
  clear F a9
  intro a9 F
  refine fr_putO F HK 0 rfl rfl rfl 52 _ _ rfl 2 (.pointer (some ⟨N, q, none⟩)) (fun a' F' => F'.ev 47 rfl) (fun a' F' => F'.ev 45 rfl) z_pn (Nat.le_of_ble_eq_true (by kernel_rfl)) (by kernel_rfl) ?_
  intro a10 w10 F' HK' HO
  replace HON := HON.trans HO (fun j _ h => h)
  clear HK F HO
  clear a9 w9
  rename World => w9
  rename Act => a9
  have HK := HK'
  have F := F'
  clear HK' F'
  replace HK : Keep w0 [(p, (paV N { x with routes := some q }), 83)] [] w9 := HK
  refine wpList_nil ?_
  show Code.wp _ _ _ _ _
  refine wp_seq ?_
  refine wp_region_lit ?_
  refine fr_mv F (wanted_free rfl) 48 rfl (by decide) 8 rfl rfl ?_
  clear F a9
  intro a9 F
  refine fr_as F (wanted_free rfl) 6 rfl (by decide) 48 rfl rfl ?_
  clear F a9
  intro a9 F
  refine wpList_nil ?_
  show Code.wp _ _ _ _ _
  refine wp_ret ?_
  exact fr_ret1 F rfl _ rfl (FIN.out _ _ (rfl) (HK.at 0 rfl) HON (HK.sub (List.nil_sublist _) (fun r hr => hr)))
set_option maxRecDepth 100000 in
set_option maxHeartbeats 4000000 in
theorem routes_row {w0 w : World} {p N q : Nat} {x : Pa} {n : Nt} {a : Option Addr} {c : Nat} (kv : Value) (HK : Keep w0 [] [] w) (HP : BoxAt w p (paV N x) 83) (hpl : w0.heap.size ≤ p) (hn : NtAt w0 N q n a c) {s : Nat} {n2 : Nt} {a2 : Option Addr} {c2 : Nat} (hx : x.asks = some s) (hd : doneP x = false) (hs : NtAt w0 N s n2 a2 c2) (hg2 : NtGood w0 n2 a2) (hg : NtGood w0 n a) : Calls Tryd.prog 25 #[kv, .pointer (some ⟨p, 0, none⟩), .pointer (some ⟨N, q, none⟩)] w (RetS w0 w p N (reasonN true (sameR n2 n)) ({ x with routes := some q })) := by
  obtain ⟨RR, hRR⟩ : ∃ RR : Ending → World → Prop, RR = RetS w0 w p N (reasonN true (sameR n2 n)) ({ x with routes := some q }) := ⟨_, rfl⟩
  have FIN := Lib.hid (show ∀ r w', r = reasonN true (sameR n2 n) → BoxAt w' p (paV N ({ x with routes := some q })) 83 → Only (fun j => j = p) w w' → Keep w0 [] [] w' → RR (.returned (.int .u8 (r : Int))) w' from fun r w' h1 h2 h3 h4 => by rw [hRR, h1]; exact ⟨rfl, h2, h3, h4⟩)
  rw [← hRR]
  have HN0 := Lib.hid hn
  obtain ⟨w9, hw9⟩ : ∃ w9, w9 = w := ⟨_, rfl⟩
  have HON : Only (fun j => j = p) w w9 := by rw [hw9]; exact Only.refl _ _
  rw [← hw9] at HK HP
  suffices hgo : Calls Tryd.prog 25 #[kv, .pointer (some ⟨p, 0, none⟩), .pointer (some ⟨N, q, none⟩)] w9 RR by rw [hw9] at hgo; exact hgo
  clear hw9 hRR hn
  go_enter Tryd.func25, Tryd.ntmps25
  refine wp_forget (n := 49) (L := [(2, .pointer (some ⟨N, q, none⟩)), (1, .pointer (some ⟨p, 0, none⟩)), (0, kv)]) (FrL.add (FrL.add (FrL.add (FrL.nil ?_ ?_) _ _ ?_) _ _ ?_) _ _ ?_) ?_
  iterate 5 rfl
  intro a9 F
  have HG := Lib.hid hg
  have HG2 := Lib.hid hg2
  have HS0 := Lib.hid hs
  clear hg hg2 hs
  have HD := Lib.hid (show ∀ w9, BoxAt w9 p (paV N x) 83 → Calls Tryd.prog 47 #[.pointer (some ⟨p, 0, none⟩)] w9 fun e w' => e = .returned (.bool false) ∧ Below w9.heap.size w9 w' from fun w9 h => by have h2 := order_done h; rw [hd] at h2; exact h2)
  refine wp_seq ?_
  refine wp_region_lit ?_
  refine fr_ch F 1 [(6, .int .u8 0)] (by kernel_rfl) ?_
  clear F a9
  intro a9 F
  refine wpList_nil ?_
  show Code.wp _ _ _ _ _
  refine wp_seq ?_
  refine wp_region_lit ?_
  refine fr_ch F 3 [(11, .pointer (some ⟨p, 0, none⟩)), (10, .pointer (some ⟨p, 0, none⟩)), (9, .pointer (some ⟨p, 0, none⟩))] (by kernel_rfl) ?_
  clear F a9
  intro a9 F
  refine fr_do F (wanted_free rfl) 12 rfl (by decide) (.pointer (some ⟨N, s, none⟩)) (by intro a' F'; have h11 := F'.at' 11 _ rfl; have hc : w9.cell? ⟨p, 0, none⟩ = some (.pointer (some ⟨N, s, none⟩)) := (HP.cells 0).trans (congrArg (fun z => some (ptrN N z)) hx); go_simp) ?_
  clear F a9
  intro a9 F
  refine fr_ch F 2 [(14, .bool true), (13, .bool true)] (by kernel_rfl) ?_
  clear F a9
  intro a9 F
  refine fr_mv F (by rw [wanted_at F rfl (t := 14) (b := true) (by kernel_rfl) rfl]; rfl) 15 rfl (by decide) 1 rfl rfl ?_
  clear F a9
  intro a9 F
  refine fr_call F (by rw [wanted_at F rfl (t := 14) (b := true) (by kernel_rfl) rfl]; rfl) 16 rfl (by decide) 47 #[.pointer (some ⟨p, 0, none⟩)] (by intro a' F'; have h15 := F'.at' 15 _ rfl; go_simp) (HD.out _ HP) ?_
  rintro e9 w8 ⟨rfl, hb8⟩
  replace HK := HK.below hb8
  replace HP := HP.below hb8
  replace HON := HON.then hb8
  clear hb8
  clear w9
  rename World => w9
  refine ⟨_, rfl, ?_⟩
  clear F a9
  intro a9 F
  refine fr_ch F 3 [(7, .bool true), (18, .bool true), (17, .bool true)] (by kernel_rfl) ?_
  clear F a9
  intro a9 F
  refine wpList_nil ?_
  show Code.wp _ _ _ _ _
  replace F := F.cut [(7, .bool true), (6, .int .u8 0), (2, .pointer (some ⟨N, q, none⟩)), (1, .pointer (some ⟨p, 0, none⟩)), (0, kv)] (by kernel_rfl)
  by_cases hby : byP n2 n = true
  rotate_left
  · have hby : byP n2 n = false := by cases h : byP n2 n; rfl; exact absurd h hby
    refine wp_seq ?_
    refine wp_region_noPanic ?_
    have hb8 : Below w9.heap.size w9 w9.drew := below_draws (n := 1) rfl
    replace HK := HK.below hb8
    replace HP := HP.below hb8
    replace HON := HON.then hb8
    clear hb8
    refine AnyT.begin (S := fun w' => BoxAt w' p (paV N x) 83 ∧ NtAt w' N q n a c ∧ NtAt w' N s n2 a2 c2) (z := 1000) (by kernel_rfl) ⟨HP, HN0.out.low HK.low, HS0.out.low HK.low⟩ (fun hS0 => ?_)
    clear hS0
    generalize w9.drew = w8 at *
    clear w9
    rename World => w9
    refine fr_chT F [0, 1, 2, 3, 4, 5] [(24, .pointer (some ⟨p, 0, none⟩)), (23, .pointer (some ⟨p, 0, none⟩)), (22, .pointer (some ⟨p, 0, none⟩)), (21, .bool true), (20, .bool true), (19, .bool true)] ⟨HP, HN0.out.low HK.low, HS0.out.low HK.low⟩ (by kernel_rfl) ?_
    clear F a9
    intro a9 F
    refine fr_takeG (i := 6) (o := ⟨some 25, _, _, _, _, _⟩) F ⟨HP, HN0.out.low HK.low, HS0.out.low HK.low⟩ rfl (by rw [wanted_at F rfl (t := 21) (b := true) (by kernel_rfl) rfl]; rfl) 25 rfl (by decide) (.pointer (some ⟨N, s, none⟩)) (fun w9 hS => (by intro a' F'; have h24 := F'.at' 24 _ rfl; have hc : w9.cell? ⟨p, 0, none⟩ = some (.pointer (some ⟨N, s, none⟩)) := (hS.1.cells 0).trans (congrArg (fun z => some (ptrN N z)) hx); go_simp)) ?_
    clear F a9
    intro a9 F
    refine fr_chT F [7] [(26, .pointer (some ⟨N, q, none⟩))] ⟨HP, HN0.out.low HK.low, HS0.out.low HK.low⟩ (by kernel_rfl) ?_
    clear F a9
    intro a9 F
    refine fr_stepC (i := 8) (o := ⟨some 27, _, _, _, _, _⟩) F rfl (by rw [wanted_at F rfl (t := 21) (b := true) (by kernel_rfl) rfl]; rfl) 27 rfl (by decide) 48 #[.pointer (some ⟨N, s, none⟩), .pointer (some ⟨N, q, none⟩)] (by intro a' F'; have h25 := F'.at' 25 _ rfl; have h26 := F'.at' 26 _ rfl; go_simp) (by have h := order_by HK.env (HS0.out.low HK.low) (HN0.out.low HK.low); rw [show (decide (n2.conn = n.conn) && decide (n2.client = n.client)) = false from hby] at h; exact h) ?_
    rintro e9 w8 ⟨rfl, hb8⟩
    replace HK := HK.below hb8
    replace HP := HP.below hb8
    replace HON := HON.then hb8
    clear hb8
    clear w9
    rename World => w9
    refine ⟨_, rfl, ⟨HP, HN0.out.low HK.low, HS0.out.low HK.low⟩, ?_⟩
    clear F a9
    intro a9 F
    refine fr_chT F [9, 10, 11, 12, 13, 14, 15, 16, 17, 18, 19, 20, 21, 22, 23] [(42, .bool false), (41, undef), (40, undef), (39, undef), (38, undef), (37, undef), (36, undef), (35, undef), (34, undef), (33, undef), (32, undef), (31, undef), (30, undef), (29, .bool false), (28, .bool false)] ⟨HP, HN0.out.low HK.low, HS0.out.low HK.low⟩ (by kernel_rfl) ?_
    clear F a9
    intro a9 F
    refine fr_stepC (i := 24) (o := ⟨some 43, _, _, _, _, _⟩) F rfl (wanted_free rfl) 43 rfl (by decide) 46 #[.bool true, .bool false] (by intro a' F'; have h19 := F'.at' 19 _ rfl; have h42 := F'.at' 42 _ rfl; go_simp) (order_reason true false w9) ?_
    rintro e9 w8 ⟨rfl, hb8⟩
    replace HK := HK.below hb8
    replace HP := HP.below hb8
    replace HON := HON.then hb8
    clear hb8
    clear w9
    rename World => w9
    refine ⟨_, rfl, ⟨HP, HN0.out.low HK.low, HS0.out.low HK.low⟩, ?_⟩
    clear F a9
    intro a9 F
    refine fr_chT F [25] [(8, .int .u8 (reasonN true false : Int))] ⟨HP, HN0.out.low HK.low, HS0.out.low HK.low⟩ (by kernel_rfl) ?_
    clear F a9
    intro a9 F
    refine AnyT.done (by kernel_rfl) ?_ _
    refine NoPanic.normal ?_
    show Code.wp _ _ _ _ _
    replace F := F.cut [(8, .int .u8 (reasonN true false : Int)), (6, .int .u8 0), (2, .pointer (some ⟨N, q, none⟩)), (1, .pointer (some ⟨p, 0, none⟩)), (0, kv)] (by kernel_rfl)
    have HK2 := HK.withBox ⟨p, paV N x, 83⟩ HP hpl (fun z hz => by cases hz)
    clear HK HP
    have HK := HK2
    clear HK2
    replace HK : Keep w0 [(p, (paV N x), 83)] [] w9 := HK
    refine wp_seq ?_
    refine wp_region_lit ?_
    refine fr_ch F 4 [(47, .pointer (some ⟨p, 2, none⟩)), (46, .pointer (some ⟨p, 0, none⟩)), (45, .pointer (some ⟨N, q, none⟩)), (44, .pointer (some ⟨p, 0, none⟩))] (by kernel_rfl) ?_
    clear F a9
    intro a9 F
    refine fr_putO F HK 0 rfl rfl rfl 52 _ _ rfl 2 (.pointer (some ⟨N, q, none⟩)) (fun a' F' => F'.ev 47 rfl) (fun a' F' => F'.ev 45 rfl) z_pn (Nat.le_of_ble_eq_true (by kernel_rfl)) (by kernel_rfl) ?_
    intro a10 w10 F' HK' HO
    replace HON := HON.trans HO (fun j _ h => h)
    clear HK F HO
    clear a9 w9
    rename World => w9
    rename Act => a9
    have HK := HK'
    have F := F'
    clear HK' F'
    replace HK : Keep w0 [(p, (paV N { x with routes := some q }), 83)] [] w9 := HK
    refine wpList_nil ?_
    show Code.wp _ _ _ _ _
    refine wp_seq ?_
    refine wp_region_lit ?_
    refine fr_mv F (wanted_free rfl) 48 rfl (by decide) 8 rfl rfl ?_
    clear F a9
    intro a9 F
    refine fr_as F (wanted_free rfl) 6 rfl (by decide) 48 rfl rfl ?_
    clear F a9
    intro a9 F
    refine wpList_nil ?_
    show Code.wp _ _ _ _ _
    refine wp_ret ?_
    exact fr_ret1 F rfl _ rfl (FIN.out _ _ (by unfold sameR; rw [hby]; rfl) (HK.at 0 rfl) HON (HK.sub (List.nil_sublist _) (fun r hr => hr)))
  obtain ⟨sm, hsm⟩ : ∃ sm, publishedP n2.p n.msg = sm := ⟨_, rfl⟩
  refine wp_seq ?_
  refine wp_region_noPanic ?_
  have hb8 : Below w9.heap.size w9 w9.drew := below_draws (n := 1) rfl
  replace HK := HK.below hb8
  replace HP := HP.below hb8
  replace HON := HON.then hb8
  clear hb8
  refine AnyT.begin (S := fun w' => BoxAt w' p (paV N x) 83 ∧ NtAt w' N q n a c ∧ NtAt w' N s n2 a2 c2) (z := 1000) (by kernel_rfl) ⟨HP, HN0.out.low HK.low, HS0.out.low HK.low⟩ (fun hS0 => ?_)
  clear hS0
  generalize w9.drew = w8 at *
  clear w9
  rename World => w9
  refine fr_chT F [0, 1, 2, 3, 4, 5] [(24, .pointer (some ⟨p, 0, none⟩)), (23, .pointer (some ⟨p, 0, none⟩)), (22, .pointer (some ⟨p, 0, none⟩)), (21, .bool true), (20, .bool true), (19, .bool true)] ⟨HP, HN0.out.low HK.low, HS0.out.low HK.low⟩ (by kernel_rfl) ?_
  clear F a9
  intro a9 F
  refine fr_takeG (i := 6) (o := ⟨some 25, _, _, _, _, _⟩) F ⟨HP, HN0.out.low HK.low, HS0.out.low HK.low⟩ rfl (by rw [wanted_at F rfl (t := 21) (b := true) (by kernel_rfl) rfl]; rfl) 25 rfl (by decide) (.pointer (some ⟨N, s, none⟩)) (fun w9 hS => (by intro a' F'; have h24 := F'.at' 24 _ rfl; have hc : w9.cell? ⟨p, 0, none⟩ = some (.pointer (some ⟨N, s, none⟩)) := (hS.1.cells 0).trans (congrArg (fun z => some (ptrN N z)) hx); go_simp)) ?_
  clear F a9
  intro a9 F
  refine fr_chT F [7] [(26, .pointer (some ⟨N, q, none⟩))] ⟨HP, HN0.out.low HK.low, HS0.out.low HK.low⟩ (by kernel_rfl) ?_
  clear F a9
  intro a9 F
  refine fr_stepC (i := 8) (o := ⟨some 27, _, _, _, _, _⟩) F rfl (by rw [wanted_at F rfl (t := 21) (b := true) (by kernel_rfl) rfl]; rfl) 27 rfl (by decide) 48 #[.pointer (some ⟨N, s, none⟩), .pointer (some ⟨N, q, none⟩)] (by intro a' F'; have h25 := F'.at' 25 _ rfl; have h26 := F'.at' 26 _ rfl; go_simp) (by have h := order_by HK.env (HS0.out.low HK.low) (HN0.out.low HK.low); rw [show (decide (n2.conn = n.conn) && decide (n2.client = n.client)) = true from hby] at h; exact h) ?_
  rintro e9 w8 ⟨rfl, hb8⟩
  replace HK := HK.below hb8
  replace HP := HP.below hb8
  replace HON := HON.then hb8
  clear hb8
  clear w9
  rename World => w9
  refine ⟨_, rfl, ⟨HP, HN0.out.low HK.low, HS0.out.low HK.low⟩, ?_⟩
  clear F a9
  intro a9 F
  refine fr_chT F [9, 10, 11, 12, 13] [(32, .pointer (some ⟨p, 0, none⟩)), (31, .pointer (some ⟨p, 0, none⟩)), (30, .pointer (some ⟨p, 0, none⟩)), (29, .bool true), (28, .bool true)] ⟨HP, HN0.out.low HK.low, HS0.out.low HK.low⟩ (by kernel_rfl) ?_
  clear F a9
  intro a9 F
  refine fr_takeG (i := 14) (o := ⟨some 33, _, _, _, _, _⟩) F ⟨HP, HN0.out.low HK.low, HS0.out.low HK.low⟩ rfl (by rw [wanted_at F rfl (t := 29) (b := true) (by kernel_rfl) rfl]; rfl) 33 rfl (by decide) (.pointer (some ⟨N, s, none⟩)) (fun w9 hS => (by intro a' F'; have h32 := F'.at' 32 _ rfl; have hc : w9.cell? ⟨p, 0, none⟩ = some (.pointer (some ⟨N, s, none⟩)) := (hS.1.cells 0).trans (congrArg (fun z => some (ptrN N z)) hx); go_simp)) ?_
  clear F a9
  intro a9 F
  refine fr_chT F [15, 16] [(35, .pointer (some ⟨N, s + 4, none⟩)), (34, .pointer (some ⟨N, s, none⟩))] ⟨HP, HN0.out.low HK.low, HS0.out.low HK.low⟩ (by kernel_rfl) ?_
  clear F a9
  intro a9 F
  refine fr_takeG (i := 17) (o := ⟨some 36, _, _, _, _, _⟩) F ⟨HP, HN0.out.low HK.low, HS0.out.low HK.low⟩ rfl (by rw [wanted_at F rfl (t := 29) (b := true) (by kernel_rfl) rfl]; rfl) 36 rfl (by decide) (.agg (pkV n2.p a2 c2)) (fun w9 hS => (fun a' F' => run_load_midF 33 _ rfl N (s + 4) (F'.ev 35 rfl) (pkV n2.p a2 c2).toList _ hS.2.2.pk Tryd.underlying33 rfl infoPk)) ?_
  clear F a9
  intro a9 F
  refine fr_chT F [18, 19, 20] [(39, .pointer (some ⟨N, q + 28, none⟩)), (38, .pointer (some ⟨N, q, none⟩)), (37, .pointer (some ⟨N, q, none⟩))] ⟨HP, HN0.out.low HK.low, HS0.out.low HK.low⟩ (by kernel_rfl) ?_
  clear F a9
  intro a9 F
  refine fr_takeG (i := 21) (o := ⟨some 40, _, _, _, _, _⟩) F ⟨HP, HN0.out.low HK.low, HS0.out.low HK.low⟩ rfl (by rw [wanted_at F rfl (t := 29) (b := true) (by kernel_rfl) rfl]; rfl) 40 rfl (by decide) (.agg (msV n.msg)) (fun w9 hS => (fun a' F' => run_load_midF 30 _ rfl N (q + 28) (F'.ev 39 rfl) (msV n.msg).toList _ hS.2.1.msg Tryd.underlying30 rfl infoMs)) ?_
  clear F a9
  intro a9 F
  refine fr_stepC (i := 22) (o := ⟨some 41, _, _, _, _, _⟩) F rfl (by rw [wanted_at F rfl (t := 29) (b := true) (by kernel_rfl) rfl]; rfl) 41 rfl (by decide) 51 #[.agg (pkV n2.p a2 c2), .agg (msV n.msg)] (by intro a' F'; have h36 := F'.at' 36 _ rfl; have h40 := F'.at' 40 _ rfl; go_simp) (by have h := order_published (a := a2) (c := c2) HK.env HG2.out.pk HG.out.ms; rw [hsm] at h; exact h) ?_
  rintro e9 w8 ⟨rfl, hb8⟩
  replace HK := HK.below hb8
  replace HP := HP.below hb8
  replace HON := HON.then hb8
  clear hb8
  clear w9
  rename World => w9
  refine ⟨_, rfl, ⟨HP, HN0.out.low HK.low, HS0.out.low HK.low⟩, ?_⟩
  clear F a9
  intro a9 F
  refine fr_chT F [23] [(42, .bool sm)] ⟨HP, HN0.out.low HK.low, HS0.out.low HK.low⟩ (by kernel_rfl) ?_
  clear F a9
  intro a9 F
  refine fr_stepC (i := 24) (o := ⟨some 43, _, _, _, _, _⟩) F rfl (wanted_free rfl) 43 rfl (by decide) 46 #[.bool true, .bool sm] (by intro a' F'; have h19 := F'.at' 19 _ rfl; have h42 := F'.at' 42 _ rfl; go_simp) (order_reason true sm w9) ?_
  rintro e9 w8 ⟨rfl, hb8⟩
  replace HK := HK.below hb8
  replace HP := HP.below hb8
  replace HON := HON.then hb8
  clear hb8
  clear w9
  rename World => w9
  refine ⟨_, rfl, ⟨HP, HN0.out.low HK.low, HS0.out.low HK.low⟩, ?_⟩
  clear F a9
  intro a9 F
  refine fr_chT F [25] [(8, .int .u8 (reasonN true sm : Int))] ⟨HP, HN0.out.low HK.low, HS0.out.low HK.low⟩ (by kernel_rfl) ?_
  clear F a9
  intro a9 F
  refine AnyT.done (by kernel_rfl) ?_ _
  refine NoPanic.normal ?_
  show Code.wp _ _ _ _ _
  replace F := F.cut [(8, .int .u8 (reasonN true sm : Int)), (6, .int .u8 0), (2, .pointer (some ⟨N, q, none⟩)), (1, .pointer (some ⟨p, 0, none⟩)), (0, kv)] (by kernel_rfl)
  have HK2 := HK.withBox ⟨p, paV N x, 83⟩ HP hpl (fun z hz => by cases hz)
  clear HK HP
  have HK := HK2
  clear HK2
  replace HK : Keep w0 [(p, (paV N x), 83)] [] w9 := HK
  refine wp_seq ?_
  refine wp_region_lit ?_
  refine fr_ch F 4 [(47, .pointer (some ⟨p, 2, none⟩)), (45, .pointer (some ⟨N, q, none⟩))] (by kernel_rfl) ?_
  clear F a9
  intro a9 F
  refine fr_putO F HK 0 rfl rfl rfl 52 _ _ rfl 2 (.pointer (some ⟨N, q, none⟩)) (fun a' F' => F'.ev 47 rfl) (fun a' F' => F'.ev 45 rfl) z_pn (Nat.le_of_ble_eq_true (by kernel_rfl)) (by kernel_rfl) ?_
  intro a10 w10 F' HK' HO
  replace HON := HON.trans HO (fun j _ h => h)
  clear HK F HO
  clear a9 w9
  rename World => w9
  rename Act => a9
  have HK := HK'
  have F := F'
  clear HK' F'
  replace HK : Keep w0 [(p, (paV N { x with routes := some q }), 83)] [] w9 := HK
  refine wpList_nil ?_
  show Code.wp _ _ _ _ _
  refine wp_seq ?_
  refine wp_region_lit ?_
  refine fr_mv F (wanted_free rfl) 48 rfl (by decide) 8 rfl rfl ?_
  clear F a9
  intro a9 F
  refine fr_as F (wanted_free rfl) 6 rfl (by decide) 48 rfl rfl ?_
  clear F a9
  intro a9 F
  refine wpList_nil ?_
  show Code.wp _ _ _ _ _
  refine wp_ret ?_
  exact fr_ret1 F rfl _ rfl (FIN.out _ _ (by unfold sameR; rw [hby, hsm]; rfl) (HK.at 0 rfl) HON (HK.sub (List.nil_sublist _) (fun r hr => hr)))
set_option maxRecDepth 100000 in
set_option maxHeartbeats 4000000 in
theorem does_no1 {w0 w : World} {p N q : Nat} {x : Pa} {n : Nt} {a : Option Addr} {c : Nat} (kv : Value) (HK : Keep w0 [] [] w) (HP : BoxAt w p (paV N x) 83) (hpl : w0.heap.size ≤ p) (hn : NtAt w0 N q n a c) (hx : x.asks = none) : Calls Tryd.prog 24 #[kv, .pointer (some ⟨p, 0, none⟩), .pointer (some ⟨N, q, none⟩)] w (RetS w0 w p N (2) ({ x with does := some q })) := by
  obtain ⟨RR, hRR⟩ : ∃ RR : Ending → World → Prop, RR = RetS w0 w p N (2) ({ x with does := some q }) := ⟨_, rfl⟩
  have FIN := Lib.hid (show ∀ r w', r = 2 → BoxAt w' p (paV N ({ x with does := some q })) 83 → Only (fun j => j = p) w w' → Keep w0 [] [] w' → RR (.returned (.int .u8 (r : Int))) w' from fun r w' h1 h2 h3 h4 => by rw [hRR, h1]; exact ⟨rfl, h2, h3, h4⟩)
  rw [← hRR]
  have HN0 := Lib.hid hn
  obtain ⟨w9, hw9⟩ : ∃ w9, w9 = w := ⟨_, rfl⟩
  have HON : Only (fun j => j = p) w w9 := by rw [hw9]; exact Only.refl _ _
  rw [← hw9] at HK HP
  suffices hgo : Calls Tryd.prog 24 #[kv, .pointer (some ⟨p, 0, none⟩), .pointer (some ⟨N, q, none⟩)] w9 RR by rw [hw9] at hgo; exact hgo
  clear hw9 hRR hn
  go_enter Tryd.func24, Tryd.ntmps24
  refine wp_forget (n := 54) (L := [(2, .pointer (some ⟨N, q, none⟩)), (1, .pointer (some ⟨p, 0, none⟩)), (0, kv)]) (FrL.add (FrL.add (FrL.add (FrL.nil ?_ ?_) _ _ ?_) _ _ ?_) _ _ ?_) ?_
  iterate 5 rfl
  intro a9 F
  refine wp_seq ?_
  refine wp_region_lit ?_
  refine fr_ch F 1 [(6, .int .u8 0)] (by kernel_rfl) ?_
  clear F a9
  intro a9 F
  refine wpList_nil ?_
  show Code.wp _ _ _ _ _
  refine wp_seq ?_
  refine wp_region_lit ?_
  refine fr_ch F 3 [(11, .pointer (some ⟨p, 0, none⟩)), (10, .pointer (some ⟨p, 0, none⟩)), (9, .pointer (some ⟨p, 0, none⟩))] (by kernel_rfl) ?_
  clear F a9
  intro a9 F
  refine fr_do F (wanted_free rfl) 12 rfl (by decide) (.pointer none) (by intro a' F'; have h11 := F'.at' 11 _ rfl; have hc : w9.cell? ⟨p, 0, none⟩ = some (.pointer none) := (HP.cells 0).trans (congrArg (fun z => some (ptrN N z)) hx); go_simp) ?_
  clear F a9
  intro a9 F
  refine fr_ch F 7 [(7, .bool false), (18, .bool false), (17, undef), (16, undef), (15, undef), (14, .bool false), (13, .bool false)] (by kernel_rfl) ?_
  clear F a9
  intro a9 F
  refine wpList_nil ?_
  show Code.wp _ _ _ _ _
  replace F := F.cut [(7, .bool false), (6, .int .u8 0), (2, .pointer (some ⟨N, q, none⟩)), (1, .pointer (some ⟨p, 0, none⟩)), (0, kv)] (by kernel_rfl)
  refine wp_seq ?_
  refine wp_region_noPanic ?_
  have hb8 : Below w9.heap.size w9 w9.drew := below_draws (n := 1) rfl
  replace HK := HK.below hb8
  replace HP := HP.below hb8
  replace HON := HON.then hb8
  clear hb8
  refine AnyT.begin (S := fun _ => True) (z := 1000) (by kernel_rfl) trivial (fun hS0 => ?_)
  clear hS0
  generalize w9.drew = w8 at *
  clear w9
  rename World => w9
  refine fr_chT F [0, 1, 2, 3, 4, 5, 6, 7, 8, 9, 10, 11, 12, 13, 14, 15, 16, 17, 18, 19, 20, 21, 22, 23] [(42, .bool false), (41, undef), (40, undef), (39, undef), (38, undef), (37, undef), (36, undef), (35, undef), (34, undef), (33, undef), (32, undef), (31, undef), (30, undef), (29, .bool false), (28, .bool false), (27, undef), (26, undef), (25, undef), (24, undef), (23, undef), (22, undef), (21, .bool false), (20, .bool false), (19, .bool false)] trivial (by kernel_rfl) ?_
  clear F a9
  intro a9 F
  refine fr_stepC (i := 24) (o := ⟨some 43, _, _, _, _, _⟩) F rfl (wanted_free rfl) 43 rfl (by decide) 46 #[.bool false, .bool false] (by intro a' F'; have h19 := F'.at' 19 _ rfl; have h42 := F'.at' 42 _ rfl; go_simp) (order_reason false false w9) ?_
  rintro e9 w8 ⟨rfl, hb8⟩
  replace HK := HK.below hb8
  replace HP := HP.below hb8
  replace HON := HON.then hb8
  clear hb8
  clear w9
  rename World => w9
  refine ⟨_, rfl, trivial, ?_⟩
  clear F a9
  intro a9 F
  refine fr_chT F [25] [(8, .int .u8 (reasonN false false : Int))] trivial (by kernel_rfl) ?_
  clear F a9
  intro a9 F
  refine AnyT.done (by kernel_rfl) ?_ _
  refine NoPanic.normal ?_
  show Code.wp _ _ _ _ _
  replace F := F.cut [(8, .int .u8 (reasonN false false : Int)), (6, .int .u8 0), (2, .pointer (some ⟨N, q, none⟩)), (1, .pointer (some ⟨p, 0, none⟩)), (0, kv)] (by kernel_rfl)
  have HK2 := HK.withBox ⟨p, paV N x, 83⟩ HP hpl (fun z hz => by cases hz)
  clear HK HP
  have HK := HK2
  clear HK2
  replace HK : Keep w0 [(p, (paV N x), 83)] [] w9 := HK
  refine wp_seq ?_
  refine wp_region_lit ?_
  refine fr_ch F 4 [(47, .pointer (some ⟨p, 1, none⟩)), (45, .pointer (some ⟨N, q, none⟩))] (by kernel_rfl) ?_
  clear F a9
  intro a9 F
  refine fr_putO F HK 0 rfl rfl rfl 52 _ _ rfl 1 (.pointer (some ⟨N, q, none⟩)) (fun a' F' => F'.ev 47 rfl) (fun a' F' => F'.ev 45 rfl) z_pn (Nat.le_of_ble_eq_true (by kernel_rfl)) (by kernel_rfl) ?_
  intro a10 w10 F' HK' HO
  replace HON := HON.trans HO (fun j _ h => h)
  clear HK F HO
  clear a9 w9
  rename World => w9
  rename Act => a9
  have HK := HK'
  have F := F'
  clear HK' F'
  replace HK : Keep w0 [(p, (paV N { x with does := some q }), 83)] [] w9 := HK
  refine wpList_nil ?_
  show Code.wp _ _ _ _ _
  refine wp_seq ?_
  refine wp_seq ?_
  refine wp_region_lit ?_
  refine fr_mv F (wanted_free rfl) 48 rfl (by decide) 8 rfl rfl ?_
  clear F a9
  intro a9 F
  refine fr_do F (wanted_free rfl) 49 rfl (by decide) (.bool false) (by intro a' F'; have h48 := F'.at' 48 _ rfl; go_simp <;> decide) ?_
  clear F a9
  intro a9 F
  refine wpList_nil ?_
  show Code.wp _ _ _ _ _
  refine wp_cond_false (F.ev 49 rfl) ?_
  refine wp_skip ?_
  show Code.wp _ _ _ _ _
  refine wp_seq ?_
  refine wp_region_lit ?_
  refine fr_mv F (wanted_free rfl) 53 rfl (by decide) 8 rfl rfl ?_
  clear F a9
  intro a9 F
  refine fr_as F (wanted_free rfl) 6 rfl (by decide) 53 rfl rfl ?_
  clear F a9
  intro a9 F
  refine wpList_nil ?_
  show Code.wp _ _ _ _ _
  refine wp_ret ?_
  exact fr_ret1 F rfl _ rfl (FIN.out _ _ (rfl) (HK.at 0 rfl) HON (HK.sub (List.nil_sublist _) (fun r hr => hr)))
set_option maxRecDepth 100000 in
set_option maxHeartbeats 4000000 in
theorem does_no2 {w0 w : World} {p N q : Nat} {x : Pa} {n : Nt} {a : Option Addr} {c : Nat} (kv : Value) (HK : Keep w0 [] [] w) (HP : BoxAt w p (paV N x) 83) (hpl : w0.heap.size ≤ p) (hn : NtAt w0 N q n a c) {s : Nat} (hx : x.asks = some s) (hd : doneP x = true) : Calls Tryd.prog 24 #[kv, .pointer (some ⟨p, 0, none⟩), .pointer (some ⟨N, q, none⟩)] w (RetS w0 w p N (2) ({ x with does := some q })) := by
  obtain ⟨RR, hRR⟩ : ∃ RR : Ending → World → Prop, RR = RetS w0 w p N (2) ({ x with does := some q }) := ⟨_, rfl⟩
  have FIN := Lib.hid (show ∀ r w', r = 2 → BoxAt w' p (paV N ({ x with does := some q })) 83 → Only (fun j => j = p) w w' → Keep w0 [] [] w' → RR (.returned (.int .u8 (r : Int))) w' from fun r w' h1 h2 h3 h4 => by rw [hRR, h1]; exact ⟨rfl, h2, h3, h4⟩)
  rw [← hRR]
  have HN0 := Lib.hid hn
  obtain ⟨w9, hw9⟩ : ∃ w9, w9 = w := ⟨_, rfl⟩
  have HON : Only (fun j => j = p) w w9 := by rw [hw9]; exact Only.refl _ _
  rw [← hw9] at HK HP
  suffices hgo : Calls Tryd.prog 24 #[kv, .pointer (some ⟨p, 0, none⟩), .pointer (some ⟨N, q, none⟩)] w9 RR by rw [hw9] at hgo; exact hgo
  clear hw9 hRR hn
  go_enter Tryd.func24, Tryd.ntmps24
  refine wp_forget (n := 54) (L := [(2, .pointer (some ⟨N, q, none⟩)), (1, .pointer (some ⟨p, 0, none⟩)), (0, kv)]) (FrL.add (FrL.add (FrL.add (FrL.nil ?_ ?_) _ _ ?_) _ _ ?_) _ _ ?_) ?_
  iterate 5 rfl
  intro a9 F
  have HD := Lib.hid (show ∀ w9, BoxAt w9 p (paV N x) 83 → Calls Tryd.prog 47 #[.pointer (some ⟨p, 0, none⟩)] w9 fun e w' => e = .returned (.bool true) ∧ Below w9.heap.size w9 w' from fun w9 h => by have h2 := order_done h; rw [hd] at h2; exact h2)
  refine wp_seq ?_
  refine wp_region_lit ?_
  refine fr_ch F 1 [(6, .int .u8 0)] (by kernel_rfl) ?_
  clear F a9
  intro a9 F
  refine wpList_nil ?_
  show Code.wp _ _ _ _ _
  refine wp_seq ?_
  refine wp_region_lit ?_
  refine fr_ch F 3 [(11, .pointer (some ⟨p, 0, none⟩)), (10, .pointer (some ⟨p, 0, none⟩)), (9, .pointer (some ⟨p, 0, none⟩))] (by kernel_rfl) ?_
  clear F a9
  intro a9 F
  refine fr_do F (wanted_free rfl) 12 rfl (by decide) (.pointer (some ⟨N, s, none⟩)) (by intro a' F'; have h11 := F'.at' 11 _ rfl; have hc : w9.cell? ⟨p, 0, none⟩ = some (.pointer (some ⟨N, s, none⟩)) := (HP.cells 0).trans (congrArg (fun z => some (ptrN N z)) hx); go_simp) ?_
  clear F a9
  intro a9 F
  refine fr_ch F 2 [(14, .bool true), (13, .bool true)] (by kernel_rfl) ?_
  clear F a9
  intro a9 F
  refine fr_mv F (by rw [wanted_at F rfl (t := 14) (b := true) (by kernel_rfl) rfl]; rfl) 15 rfl (by decide) 1 rfl rfl ?_
  clear F a9
  intro a9 F
  refine fr_call F (by rw [wanted_at F rfl (t := 14) (b := true) (by kernel_rfl) rfl]; rfl) 16 rfl (by decide) 47 #[.pointer (some ⟨p, 0, none⟩)] (by intro a' F'; have h15 := F'.at' 15 _ rfl; go_simp) (HD.out _ HP) ?_
  rintro e9 w8 ⟨rfl, hb8⟩
  replace HK := HK.below hb8
  replace HP := HP.below hb8
  replace HON := HON.then hb8
  clear hb8
  clear w9
  rename World => w9
  refine ⟨_, rfl, ?_⟩
  clear F a9
  intro a9 F
  refine fr_ch F 3 [(7, .bool false), (18, .bool false), (17, .bool false)] (by kernel_rfl) ?_
  clear F a9
  intro a9 F
  refine wpList_nil ?_
  show Code.wp _ _ _ _ _
  replace F := F.cut [(7, .bool false), (6, .int .u8 0), (2, .pointer (some ⟨N, q, none⟩)), (1, .pointer (some ⟨p, 0, none⟩)), (0, kv)] (by kernel_rfl)
  refine wp_seq ?_
  refine wp_region_noPanic ?_
  have hb8 : Below w9.heap.size w9 w9.drew := below_draws (n := 1) rfl
  replace HK := HK.below hb8
  replace HP := HP.below hb8
  replace HON := HON.then hb8
  clear hb8
  refine AnyT.begin (S := fun _ => True) (z := 1000) (by kernel_rfl) trivial (fun hS0 => ?_)
  clear hS0
  generalize w9.drew = w8 at *
  clear w9
  rename World => w9
  refine fr_chT F [0, 1, 2, 3, 4, 5, 6, 7, 8, 9, 10, 11, 12, 13, 14, 15, 16, 17, 18, 19, 20, 21, 22, 23] [(42, .bool false), (41, undef), (40, undef), (39, undef), (38, undef), (37, undef), (36, undef), (35, undef), (34, undef), (33, undef), (32, undef), (31, undef), (30, undef), (29, .bool false), (28, .bool false), (27, undef), (26, undef), (25, undef), (24, undef), (23, undef), (22, undef), (21, .bool false), (20, .bool false), (19, .bool false)] trivial (by kernel_rfl) ?_
  clear F a9
  intro a9 F
  refine fr_stepC (i := 24) (o := ⟨some 43, _, _, _, _, _⟩) F rfl (wanted_free rfl) 43 rfl (by decide) 46 #[.bool false, .bool false] (by intro a' F'; have h19 := F'.at' 19 _ rfl; have h42 := F'.at' 42 _ rfl; go_simp) (order_reason false false w9) ?_
  rintro e9 w8 ⟨rfl, hb8⟩
  replace HK := HK.below hb8
  replace HP := HP.below hb8
  replace HON := HON.then hb8
  clear hb8
  clear w9
  rename World => w9
  refine ⟨_, rfl, trivial, ?_⟩
  clear F a9
  intro a9 F
  refine fr_chT F [25] [(8, .int .u8 (reasonN false false : Int))] trivial (by kernel_rfl) ?_
  clear F a9
  intro a9 F
  refine AnyT.done (by kernel_rfl) ?_ _
  refine NoPanic.normal ?_
  show Code.wp _ _ _ _ _
  replace F := F.cut [(8, .int .u8 (reasonN false false : Int)), (6, .int .u8 0), (2, .pointer (some ⟨N, q, none⟩)), (1, .pointer (some ⟨p, 0, none⟩)), (0, kv)] (by kernel_rfl)
  have HK2 := HK.withBox ⟨p, paV N x, 83⟩ HP hpl (fun z hz => by cases hz)
  clear HK HP
  have HK := HK2
  clear HK2
  replace HK : Keep w0 [(p, (paV N x), 83)] [] w9 := HK
  refine wp_seq ?_
  refine wp_region_lit ?_
  refine fr_ch F 4 [(47, .pointer (some ⟨p, 1, none⟩)), (45, .pointer (some ⟨N, q, none⟩))] (by kernel_rfl) ?_
  clear F a9
  intro a9 F
  refine fr_putO F HK 0 rfl rfl rfl 52 _ _ rfl 1 (.pointer (some ⟨N, q, none⟩)) (fun a' F' => F'.ev 47 rfl) (fun a' F' => F'.ev 45 rfl) z_pn (Nat.le_of_ble_eq_true (by kernel_rfl)) (by kernel_rfl) ?_
  intro a10 w10 F' HK' HO
  replace HON := HON.trans HO (fun j _ h => h)
  clear HK F HO
  clear a9 w9
  rename World => w9
  rename Act => a9
  have HK := HK'
  have F := F'
  clear HK' F'
  replace HK : Keep w0 [(p, (paV N { x with does := some q }), 83)] [] w9 := HK
  refine wpList_nil ?_
  show Code.wp _ _ _ _ _
  refine wp_seq ?_
  refine wp_seq ?_
  refine wp_region_lit ?_
  refine fr_mv F (wanted_free rfl) 48 rfl (by decide) 8 rfl rfl ?_
  clear F a9
  intro a9 F
  refine fr_do F (wanted_free rfl) 49 rfl (by decide) (.bool false) (by intro a' F'; have h48 := F'.at' 48 _ rfl; go_simp <;> decide) ?_
  clear F a9
  intro a9 F
  refine wpList_nil ?_
  show Code.wp _ _ _ _ _
  refine wp_cond_false (F.ev 49 rfl) ?_
  refine wp_skip ?_
  show Code.wp _ _ _ _ _
  refine wp_seq ?_
  refine wp_region_lit ?_
  refine fr_mv F (wanted_free rfl) 53 rfl (by decide) 8 rfl rfl ?_
  clear F a9
  intro a9 F
  refine fr_as F (wanted_free rfl) 6 rfl (by decide) 53 rfl rfl ?_
  clear F a9
  intro a9 F
  refine wpList_nil ?_
  show Code.wp _ _ _ _ _
  refine wp_ret ?_
  exact fr_ret1 F rfl _ rfl (FIN.out _ _ (rfl) (HK.at 0 rfl) HON (HK.sub (List.nil_sublist _) (fun r hr => hr)))
set_option maxRecDepth 100000 in
set_option maxHeartbeats 4000000 in
theorem does_bad {w0 w : World} {p N q : Nat} {x : Pa} {n : Nt} {a : Option Addr} {c : Nat} (kv : Value) (HK : Keep w0 [] [] w) (HP : BoxAt w p (paV N x) 83) (hpl : w0.heap.size ≤ p) (hn : NtAt w0 N q n a c) {s : Nat} {n2 : Nt} {a2 : Option Addr} {c2 : Nat} (hx : x.asks = some s) (hd : doneP x = false) (hs : NtAt w0 N s n2 a2 c2) (hg2 : NtGood w0 n2 a2) (hg : NtGood w0 n a) (hno : sameD n2 n = false) : Calls Tryd.prog 24 #[kv, .pointer (some ⟨p, 0, none⟩), .pointer (some ⟨N, q, none⟩)] w (RetS w0 w p N (3) ({ x with does := some q })) := by
  obtain ⟨RR, hRR⟩ : ∃ RR : Ending → World → Prop, RR = RetS w0 w p N (3) ({ x with does := some q }) := ⟨_, rfl⟩
  have FIN := Lib.hid (show ∀ r w', r = 3 → BoxAt w' p (paV N ({ x with does := some q })) 83 → Only (fun j => j = p) w w' → Keep w0 [] [] w' → RR (.returned (.int .u8 (r : Int))) w' from fun r w' h1 h2 h3 h4 => by rw [hRR, h1]; exact ⟨rfl, h2, h3, h4⟩)
  rw [← hRR]
  have HN0 := Lib.hid hn
  obtain ⟨w9, hw9⟩ : ∃ w9, w9 = w := ⟨_, rfl⟩
  have HON : Only (fun j => j = p) w w9 := by rw [hw9]; exact Only.refl _ _
  rw [← hw9] at HK HP
  suffices hgo : Calls Tryd.prog 24 #[kv, .pointer (some ⟨p, 0, none⟩), .pointer (some ⟨N, q, none⟩)] w9 RR by rw [hw9] at hgo; exact hgo
  clear hw9 hRR hn
  go_enter Tryd.func24, Tryd.ntmps24
  refine wp_forget (n := 54) (L := [(2, .pointer (some ⟨N, q, none⟩)), (1, .pointer (some ⟨p, 0, none⟩)), (0, kv)]) (FrL.add (FrL.add (FrL.add (FrL.nil ?_ ?_) _ _ ?_) _ _ ?_) _ _ ?_) ?_
  iterate 5 rfl
  intro a9 F
  have HG := Lib.hid hg
  have HG2 := Lib.hid hg2
  have HS0 := Lib.hid hs
  clear hg hg2 hs
  have HD := Lib.hid (show ∀ w9, BoxAt w9 p (paV N x) 83 → Calls Tryd.prog 47 #[.pointer (some ⟨p, 0, none⟩)] w9 fun e w' => e = .returned (.bool false) ∧ Below w9.heap.size w9 w' from fun w9 h => by have h2 := order_done h; rw [hd] at h2; exact h2)
  refine wp_seq ?_
  refine wp_region_lit ?_
  refine fr_ch F 1 [(6, .int .u8 0)] (by kernel_rfl) ?_
  clear F a9
  intro a9 F
  refine wpList_nil ?_
  show Code.wp _ _ _ _ _
  refine wp_seq ?_
  refine wp_region_lit ?_
  refine fr_ch F 3 [(11, .pointer (some ⟨p, 0, none⟩)), (10, .pointer (some ⟨p, 0, none⟩)), (9, .pointer (some ⟨p, 0, none⟩))] (by kernel_rfl) ?_
  clear F a9
  intro a9 F
  refine fr_do F (wanted_free rfl) 12 rfl (by decide) (.pointer (some ⟨N, s, none⟩)) (by intro a' F'; have h11 := F'.at' 11 _ rfl; have hc : w9.cell? ⟨p, 0, none⟩ = some (.pointer (some ⟨N, s, none⟩)) := (HP.cells 0).trans (congrArg (fun z => some (ptrN N z)) hx); go_simp) ?_
  clear F a9
  intro a9 F
  refine fr_ch F 2 [(14, .bool true), (13, .bool true)] (by kernel_rfl) ?_
  clear F a9
  intro a9 F
  refine fr_mv F (by rw [wanted_at F rfl (t := 14) (b := true) (by kernel_rfl) rfl]; rfl) 15 rfl (by decide) 1 rfl rfl ?_
  clear F a9
  intro a9 F
  refine fr_call F (by rw [wanted_at F rfl (t := 14) (b := true) (by kernel_rfl) rfl]; rfl) 16 rfl (by decide) 47 #[.pointer (some ⟨p, 0, none⟩)] (by intro a' F'; have h15 := F'.at' 15 _ rfl; go_simp) (HD.out _ HP) ?_
  rintro e9 w8 ⟨rfl, hb8⟩
  replace HK := HK.below hb8
  replace HP := HP.below hb8
  replace HON := HON.then hb8
  clear hb8
  clear w9
  rename World => w9
  refine ⟨_, rfl, ?_⟩
  clear F a9
  intro a9 F
  refine fr_ch F 3 [(7, .bool true), (18, .bool true), (17, .bool true)] (by kernel_rfl) ?_
  clear F a9
  intro a9 F
  refine wpList_nil ?_
  show Code.wp _ _ _ _ _
  replace F := F.cut [(7, .bool true), (6, .int .u8 0), (2, .pointer (some ⟨N, q, none⟩)), (1, .pointer (some ⟨p, 0, none⟩)), (0, kv)] (by kernel_rfl)
  by_cases hby : byP n2 n = true
  rotate_left
  · have hby : byP n2 n = false := by cases h : byP n2 n; rfl; exact absurd h hby
    refine wp_seq ?_
    refine wp_region_noPanic ?_
    have hb8 : Below w9.heap.size w9 w9.drew := below_draws (n := 1) rfl
    replace HK := HK.below hb8
    replace HP := HP.below hb8
    replace HON := HON.then hb8
    clear hb8
    refine AnyT.begin (S := fun w' => BoxAt w' p (paV N x) 83 ∧ NtAt w' N q n a c ∧ NtAt w' N s n2 a2 c2) (z := 1000) (by kernel_rfl) ⟨HP, HN0.out.low HK.low, HS0.out.low HK.low⟩ (fun hS0 => ?_)
    clear hS0
    generalize w9.drew = w8 at *
    clear w9
    rename World => w9
    refine fr_chT F [0, 1, 2, 3, 4, 5] [(24, .pointer (some ⟨p, 0, none⟩)), (23, .pointer (some ⟨p, 0, none⟩)), (22, .pointer (some ⟨p, 0, none⟩)), (21, .bool true), (20, .bool true), (19, .bool true)] ⟨HP, HN0.out.low HK.low, HS0.out.low HK.low⟩ (by kernel_rfl) ?_
    clear F a9
    intro a9 F
    refine fr_takeG (i := 6) (o := ⟨some 25, _, _, _, _, _⟩) F ⟨HP, HN0.out.low HK.low, HS0.out.low HK.low⟩ rfl (by rw [wanted_at F rfl (t := 21) (b := true) (by kernel_rfl) rfl]; rfl) 25 rfl (by decide) (.pointer (some ⟨N, s, none⟩)) (fun w9 hS => (by intro a' F'; have h24 := F'.at' 24 _ rfl; have hc : w9.cell? ⟨p, 0, none⟩ = some (.pointer (some ⟨N, s, none⟩)) := (hS.1.cells 0).trans (congrArg (fun z => some (ptrN N z)) hx); go_simp)) ?_
    clear F a9
    intro a9 F
    refine fr_chT F [7] [(26, .pointer (some ⟨N, q, none⟩))] ⟨HP, HN0.out.low HK.low, HS0.out.low HK.low⟩ (by kernel_rfl) ?_
    clear F a9
    intro a9 F
    refine fr_stepC (i := 8) (o := ⟨some 27, _, _, _, _, _⟩) F rfl (by rw [wanted_at F rfl (t := 21) (b := true) (by kernel_rfl) rfl]; rfl) 27 rfl (by decide) 48 #[.pointer (some ⟨N, s, none⟩), .pointer (some ⟨N, q, none⟩)] (by intro a' F'; have h25 := F'.at' 25 _ rfl; have h26 := F'.at' 26 _ rfl; go_simp) (by have h := order_by HK.env (HS0.out.low HK.low) (HN0.out.low HK.low); rw [show (decide (n2.conn = n.conn) && decide (n2.client = n.client)) = false from hby] at h; exact h) ?_
    rintro e9 w8 ⟨rfl, hb8⟩
    replace HK := HK.below hb8
    replace HP := HP.below hb8
    replace HON := HON.then hb8
    clear hb8
    clear w9
    rename World => w9
    refine ⟨_, rfl, ⟨HP, HN0.out.low HK.low, HS0.out.low HK.low⟩, ?_⟩
    clear F a9
    intro a9 F
    refine fr_chT F [9, 10, 11, 12, 13, 14, 15, 16, 17, 18, 19, 20, 21, 22, 23] [(42, .bool false), (41, undef), (40, undef), (39, undef), (38, undef), (37, undef), (36, undef), (35, undef), (34, undef), (33, undef), (32, undef), (31, undef), (30, undef), (29, .bool false), (28, .bool false)] ⟨HP, HN0.out.low HK.low, HS0.out.low HK.low⟩ (by kernel_rfl) ?_
    clear F a9
    intro a9 F
    refine fr_stepC (i := 24) (o := ⟨some 43, _, _, _, _, _⟩) F rfl (wanted_free rfl) 43 rfl (by decide) 46 #[.bool true, .bool false] (by intro a' F'; have h19 := F'.at' 19 _ rfl; have h42 := F'.at' 42 _ rfl; go_simp) (order_reason true false w9) ?_
    rintro e9 w8 ⟨rfl, hb8⟩
    replace HK := HK.below hb8
    replace HP := HP.below hb8
    replace HON := HON.then hb8
    clear hb8
    clear w9
    rename World => w9
    refine ⟨_, rfl, ⟨HP, HN0.out.low HK.low, HS0.out.low HK.low⟩, ?_⟩
    clear F a9
    intro a9 F
    refine fr_chT F [25] [(8, .int .u8 (reasonN true false : Int))] ⟨HP, HN0.out.low HK.low, HS0.out.low HK.low⟩ (by kernel_rfl) ?_
    clear F a9
    intro a9 F
    refine AnyT.done (by kernel_rfl) ?_ _
    refine NoPanic.normal ?_
    show Code.wp _ _ _ _ _
    replace F := F.cut [(8, .int .u8 (reasonN true false : Int)), (6, .int .u8 0), (2, .pointer (some ⟨N, q, none⟩)), (1, .pointer (some ⟨p, 0, none⟩)), (0, kv)] (by kernel_rfl)
    have HK2 := HK.withBox ⟨p, paV N x, 83⟩ HP hpl (fun z hz => by cases hz)
    clear HK HP
    have HK := HK2
    clear HK2
    replace HK : Keep w0 [(p, (paV N x), 83)] [] w9 := HK
    refine wp_seq ?_
    refine wp_region_lit ?_
    refine fr_ch F 4 [(47, .pointer (some ⟨p, 1, none⟩)), (46, .pointer (some ⟨p, 0, none⟩)), (45, .pointer (some ⟨N, q, none⟩)), (44, .pointer (some ⟨p, 0, none⟩))] (by kernel_rfl) ?_
    clear F a9
    intro a9 F
    refine fr_putO F HK 0 rfl rfl rfl 52 _ _ rfl 1 (.pointer (some ⟨N, q, none⟩)) (fun a' F' => F'.ev 47 rfl) (fun a' F' => F'.ev 45 rfl) z_pn (Nat.le_of_ble_eq_true (by kernel_rfl)) (by kernel_rfl) ?_
    intro a10 w10 F' HK' HO
    replace HON := HON.trans HO (fun j _ h => h)
    clear HK F HO
    clear a9 w9
    rename World => w9
    rename Act => a9
    have HK := HK'
    have F := F'
    clear HK' F'
    replace HK : Keep w0 [(p, (paV N { x with does := some q }), 83)] [] w9 := HK
    refine wpList_nil ?_
    show Code.wp _ _ _ _ _
    refine wp_seq ?_
    refine wp_seq ?_
    refine wp_region_lit ?_
    refine fr_mv F (wanted_free rfl) 48 rfl (by decide) 8 rfl rfl ?_
    clear F a9
    intro a9 F
    refine fr_do F (wanted_free rfl) 49 rfl (by decide) (.bool false) (by intro a' F'; have h48 := F'.at' 48 _ rfl; go_simp <;> decide) ?_
    clear F a9
    intro a9 F
    refine wpList_nil ?_
    show Code.wp _ _ _ _ _
    refine wp_cond_false (F.ev 49 rfl) ?_
    refine wp_skip ?_
    show Code.wp _ _ _ _ _
    refine wp_seq ?_
    refine wp_region_lit ?_
    refine fr_mv F (wanted_free rfl) 53 rfl (by decide) 8 rfl rfl ?_
    clear F a9
    intro a9 F
    refine fr_as F (wanted_free rfl) 6 rfl (by decide) 53 rfl rfl ?_
    clear F a9
    intro a9 F
    refine wpList_nil ?_
    show Code.wp _ _ _ _ _
    refine wp_ret ?_
    exact fr_ret1 F rfl _ rfl (FIN.out _ _ (rfl) (HK.at 0 rfl) HON (HK.sub (List.nil_sublist _) (fun r hr => hr)))
  have hsm : decide (n2.p = n.p) = false := by unfold sameD at hno; rw [hby] at hno; exact hno
  refine wp_seq ?_
  refine wp_region_noPanic ?_
  have hb8 : Below w9.heap.size w9 w9.drew := below_draws (n := 1) rfl
  replace HK := HK.below hb8
  replace HP := HP.below hb8
  replace HON := HON.then hb8
  clear hb8
  refine AnyT.begin (S := fun w' => BoxAt w' p (paV N x) 83 ∧ NtAt w' N q n a c ∧ NtAt w' N s n2 a2 c2) (z := 1000) (by kernel_rfl) ⟨HP, HN0.out.low HK.low, HS0.out.low HK.low⟩ (fun hS0 => ?_)
  clear hS0
  generalize w9.drew = w8 at *
  clear w9
  rename World => w9
  refine fr_chT F [0, 1, 2, 3, 4, 5] [(24, .pointer (some ⟨p, 0, none⟩)), (23, .pointer (some ⟨p, 0, none⟩)), (22, .pointer (some ⟨p, 0, none⟩)), (21, .bool true), (20, .bool true), (19, .bool true)] ⟨HP, HN0.out.low HK.low, HS0.out.low HK.low⟩ (by kernel_rfl) ?_
  clear F a9
  intro a9 F
  refine fr_takeG (i := 6) (o := ⟨some 25, _, _, _, _, _⟩) F ⟨HP, HN0.out.low HK.low, HS0.out.low HK.low⟩ rfl (by rw [wanted_at F rfl (t := 21) (b := true) (by kernel_rfl) rfl]; rfl) 25 rfl (by decide) (.pointer (some ⟨N, s, none⟩)) (fun w9 hS => (by intro a' F'; have h24 := F'.at' 24 _ rfl; have hc : w9.cell? ⟨p, 0, none⟩ = some (.pointer (some ⟨N, s, none⟩)) := (hS.1.cells 0).trans (congrArg (fun z => some (ptrN N z)) hx); go_simp)) ?_
  clear F a9
  intro a9 F
  refine fr_chT F [7] [(26, .pointer (some ⟨N, q, none⟩))] ⟨HP, HN0.out.low HK.low, HS0.out.low HK.low⟩ (by kernel_rfl) ?_
  clear F a9
  intro a9 F
  refine fr_stepC (i := 8) (o := ⟨some 27, _, _, _, _, _⟩) F rfl (by rw [wanted_at F rfl (t := 21) (b := true) (by kernel_rfl) rfl]; rfl) 27 rfl (by decide) 48 #[.pointer (some ⟨N, s, none⟩), .pointer (some ⟨N, q, none⟩)] (by intro a' F'; have h25 := F'.at' 25 _ rfl; have h26 := F'.at' 26 _ rfl; go_simp) (by have h := order_by HK.env (HS0.out.low HK.low) (HN0.out.low HK.low); rw [show (decide (n2.conn = n.conn) && decide (n2.client = n.client)) = true from hby] at h; exact h) ?_
  rintro e9 w8 ⟨rfl, hb8⟩
  replace HK := HK.below hb8
  replace HP := HP.below hb8
  replace HON := HON.then hb8
  clear hb8
  clear w9
  rename World => w9
  refine ⟨_, rfl, ⟨HP, HN0.out.low HK.low, HS0.out.low HK.low⟩, ?_⟩
  clear F a9
  intro a9 F
  refine fr_chT F [9, 10, 11, 12, 13] [(32, .pointer (some ⟨p, 0, none⟩)), (31, .pointer (some ⟨p, 0, none⟩)), (30, .pointer (some ⟨p, 0, none⟩)), (29, .bool true), (28, .bool true)] ⟨HP, HN0.out.low HK.low, HS0.out.low HK.low⟩ (by kernel_rfl) ?_
  clear F a9
  intro a9 F
  refine fr_takeG (i := 14) (o := ⟨some 33, _, _, _, _, _⟩) F ⟨HP, HN0.out.low HK.low, HS0.out.low HK.low⟩ rfl (by rw [wanted_at F rfl (t := 29) (b := true) (by kernel_rfl) rfl]; rfl) 33 rfl (by decide) (.pointer (some ⟨N, s, none⟩)) (fun w9 hS => (by intro a' F'; have h32 := F'.at' 32 _ rfl; have hc : w9.cell? ⟨p, 0, none⟩ = some (.pointer (some ⟨N, s, none⟩)) := (hS.1.cells 0).trans (congrArg (fun z => some (ptrN N z)) hx); go_simp)) ?_
  clear F a9
  intro a9 F
  refine fr_chT F [15, 16] [(35, .pointer (some ⟨N, s + 4, none⟩)), (34, .pointer (some ⟨N, s, none⟩))] ⟨HP, HN0.out.low HK.low, HS0.out.low HK.low⟩ (by kernel_rfl) ?_
  clear F a9
  intro a9 F
  refine fr_takeG (i := 17) (o := ⟨some 36, _, _, _, _, _⟩) F ⟨HP, HN0.out.low HK.low, HS0.out.low HK.low⟩ rfl (by rw [wanted_at F rfl (t := 29) (b := true) (by kernel_rfl) rfl]; rfl) 36 rfl (by decide) (.agg (pkV n2.p a2 c2)) (fun w9 hS => (fun a' F' => run_load_midF 33 _ rfl N (s + 4) (F'.ev 35 rfl) (pkV n2.p a2 c2).toList _ hS.2.2.pk Tryd.underlying33 rfl infoPk)) ?_
  clear F a9
  intro a9 F
  refine fr_chT F [18, 19, 20] [(39, .pointer (some ⟨N, q + 4, none⟩)), (38, .pointer (some ⟨N, q, none⟩)), (37, .pointer (some ⟨N, q, none⟩))] ⟨HP, HN0.out.low HK.low, HS0.out.low HK.low⟩ (by kernel_rfl) ?_
  clear F a9
  intro a9 F
  refine fr_takeG (i := 21) (o := ⟨some 40, _, _, _, _, _⟩) F ⟨HP, HN0.out.low HK.low, HS0.out.low HK.low⟩ rfl (by rw [wanted_at F rfl (t := 29) (b := true) (by kernel_rfl) rfl]; rfl) 40 rfl (by decide) (.agg (pkV n.p a c)) (fun w9 hS => (fun a' F' => run_load_midF 33 _ rfl N (q + 4) (F'.ev 39 rfl) (pkV n.p a c).toList _ hS.2.1.pk Tryd.underlying33 rfl infoPk)) ?_
  clear F a9
  intro a9 F
  refine fr_stepC (i := 22) (o := ⟨some 41, _, _, _, _, _⟩) F rfl (by rw [wanted_at F rfl (t := 29) (b := true) (by kernel_rfl) rfl]; rfl) 41 rfl (by decide) 49 #[.agg (pkV n2.p a2 c2), .agg (pkV n.p a c)] (by intro a' F'; have h36 := F'.at' 36 _ rfl; have h40 := F'.at' 40 _ rfl; go_simp) (by have h := packet_Same n2.p n.p a2 a c2 c w9 HK.env HG2.out.pk HG.out.pk (HG2.out.ok.row.below HK.low) (HG.out.ok.row.below HK.low); rw [hsm] at h; exact h) ?_
  rintro e9 w8 ⟨rfl, hb8⟩
  replace HK := HK.below hb8
  replace HP := HP.below hb8
  replace HON := HON.then hb8
  clear hb8
  clear w9
  rename World => w9
  refine ⟨_, rfl, ⟨HP, HN0.out.low HK.low, HS0.out.low HK.low⟩, ?_⟩
  clear F a9
  intro a9 F
  refine fr_chT F [23] [(42, .bool false)] ⟨HP, HN0.out.low HK.low, HS0.out.low HK.low⟩ (by kernel_rfl) ?_
  clear F a9
  intro a9 F
  refine fr_stepC (i := 24) (o := ⟨some 43, _, _, _, _, _⟩) F rfl (wanted_free rfl) 43 rfl (by decide) 46 #[.bool true, .bool false] (by intro a' F'; have h19 := F'.at' 19 _ rfl; have h42 := F'.at' 42 _ rfl; go_simp) (order_reason true false w9) ?_
  rintro e9 w8 ⟨rfl, hb8⟩
  replace HK := HK.below hb8
  replace HP := HP.below hb8
  replace HON := HON.then hb8
  clear hb8
  clear w9
  rename World => w9
  refine ⟨_, rfl, ⟨HP, HN0.out.low HK.low, HS0.out.low HK.low⟩, ?_⟩
  clear F a9
  intro a9 F
  refine fr_chT F [25] [(8, .int .u8 (reasonN true false : Int))] ⟨HP, HN0.out.low HK.low, HS0.out.low HK.low⟩ (by kernel_rfl) ?_
  clear F a9
  intro a9 F
  refine AnyT.done (by kernel_rfl) ?_ _
  refine NoPanic.normal ?_
  show Code.wp _ _ _ _ _
  replace F := F.cut [(8, .int .u8 (reasonN true false : Int)), (6, .int .u8 0), (2, .pointer (some ⟨N, q, none⟩)), (1, .pointer (some ⟨p, 0, none⟩)), (0, kv)] (by kernel_rfl)
  have HK2 := HK.withBox ⟨p, paV N x, 83⟩ HP hpl (fun z hz => by cases hz)
  clear HK HP
  have HK := HK2
  clear HK2
  replace HK : Keep w0 [(p, (paV N x), 83)] [] w9 := HK
  refine wp_seq ?_
  refine wp_region_lit ?_
  refine fr_ch F 4 [(47, .pointer (some ⟨p, 1, none⟩)), (45, .pointer (some ⟨N, q, none⟩))] (by kernel_rfl) ?_
  clear F a9
  intro a9 F
  refine fr_putO F HK 0 rfl rfl rfl 52 _ _ rfl 1 (.pointer (some ⟨N, q, none⟩)) (fun a' F' => F'.ev 47 rfl) (fun a' F' => F'.ev 45 rfl) z_pn (Nat.le_of_ble_eq_true (by kernel_rfl)) (by kernel_rfl) ?_
  intro a10 w10 F' HK' HO
  replace HON := HON.trans HO (fun j _ h => h)
  clear HK F HO
  clear a9 w9
  rename World => w9
  rename Act => a9
  have HK := HK'
  have F := F'
  clear HK' F'
  replace HK : Keep w0 [(p, (paV N { x with does := some q }), 83)] [] w9 := HK
  refine wpList_nil ?_
  show Code.wp _ _ _ _ _
  refine wp_seq ?_
  refine wp_seq ?_
  refine wp_region_lit ?_
  refine fr_mv F (wanted_free rfl) 48 rfl (by decide) 8 rfl rfl ?_
  clear F a9
  intro a9 F
  refine fr_do F (wanted_free rfl) 49 rfl (by decide) (.bool false) (by intro a' F'; have h48 := F'.at' 48 _ rfl; go_simp <;> decide) ?_
  clear F a9
  intro a9 F
  refine wpList_nil ?_
  show Code.wp _ _ _ _ _
  refine wp_cond_false (F.ev 49 rfl) ?_
  refine wp_skip ?_
  show Code.wp _ _ _ _ _
  refine wp_seq ?_
  refine wp_region_lit ?_
  refine fr_mv F (wanted_free rfl) 53 rfl (by decide) 8 rfl rfl ?_
  clear F a9
  intro a9 F
  refine fr_as F (wanted_free rfl) 6 rfl (by decide) 53 rfl rfl ?_
  clear F a9
  intro a9 F
  refine wpList_nil ?_
  show Code.wp _ _ _ _ _
  refine wp_ret ?_
  exact fr_ret1 F rfl _ rfl (FIN.out _ _ (rfl) (HK.at 0 rfl) HON (HK.sub (List.nil_sublist _) (fun r hr => hr)))
set_option maxRecDepth 100000 in
set_option maxHeartbeats 4000000 in
theorem does_ok {w0 w : World} {k OM m M K KM p N q : Nat} {L : List St} {x : Pa} {n : Nt} {a : Option Addr} {c : Nat} (HK : Keep w0 [] [] w) (HMO : MoAt w w0.heap.size m M K KM L) (HB : BoxAt w k #[.pointer (some ⟨m, 0, none⟩), .map (some OM)] 49) (HP : BoxAt w p (paV N x) 83) (hpl : w0.heap.size ≤ p) (hn : NtAt w0 N q n a c) (hg : NtGood w0 n a) {s : Nat} {n2 : Nt} {a2 : Option Addr} {c2 : Nat} (hx : x.asks = some s) (hd : doneP x = false) (hs : NtAt w0 N s n2 a2 c2) (hg2 : NtGood w0 n2 a2) (hyes : sameD n2 n = true) : Calls Tryd.prog 24 #[.pointer (some ⟨k, 0, none⟩), .pointer (some ⟨p, 0, none⟩), .pointer (some ⟨N, q, none⟩)] w (RetM w0 w k OM m M K KM p N L (appliedN (applyS (absL L) n).1 n) ({ x with does := some q }) ((applyS (absL L) n).2)) := by
  obtain ⟨RR, hRR⟩ : ∃ RR : Ending → World → Prop, RR = RetM w0 w k OM m M K KM p N L (appliedN (applyS (absL L) n).1 n) ({ x with does := some q }) ((applyS (absL L) n).2) := ⟨_, rfl⟩
  have FIN := Lib.hid (show ∀ r L' w', r = appliedN (applyS (absL L) n).1 n → absL L' = (applyS (absL L) n).2 → BoxAt w' p (paV N ({ x with does := some q })) 83 → BoxAt w' k #[.pointer (some ⟨m, 0, none⟩), .map (some OM)] 49 → MoAt w' w0.heap.size m M K KM L' → Only (fun j => j = p ∨ FootM m M K KM L j) w w' → (∀ j, FootM m M K KM L' j → FootM m M K KM L j ∨ w.heap.size ≤ j) → Keep w0 [] [] w' → RR (.returned (.int .u8 (r : Int))) w' from fun r L' w' h1 h2 h3 h4 h5 h6 h7 h8 => by rw [hRR, h1]; exact ⟨L', rfl, h2, h3, h4, h5, h6, h7, h8⟩)
  rw [← hRR]
  have HN0 := Lib.hid hn
  have HG := Lib.hid hg
  obtain ⟨w9, hw9⟩ : ∃ w9, w9 = w := ⟨_, rfl⟩
  have HON : Only (fun j => j = p) w w9 := by rw [hw9]; exact Only.refl _ _
  rw [← hw9] at HK HP HMO HB
  suffices hgo : Calls Tryd.prog 24 #[.pointer (some ⟨k, 0, none⟩), .pointer (some ⟨p, 0, none⟩), .pointer (some ⟨N, q, none⟩)] w9 RR by rw [hw9] at hgo; exact hgo
  clear hw9 hRR hn hg
  go_enter Tryd.func24, Tryd.ntmps24
  refine wp_forget (n := 54) (L := [(2, .pointer (some ⟨N, q, none⟩)), (1, .pointer (some ⟨p, 0, none⟩)), (0, .pointer (some ⟨k, 0, none⟩))]) (FrL.add (FrL.add (FrL.add (FrL.nil ?_ ?_) _ _ ?_) _ _ ?_) _ _ ?_) ?_
  iterate 5 rfl
  intro a9 F
  have HG2 := Lib.hid hg2
  have HS0 := Lib.hid hs
  clear hg2 hs
  have hby : byP n2 n = true := by unfold sameD at hyes; exact (Bool.and_eq_true_iff.1 hyes).1
  have hsm : decide (n2.p = n.p) = true := by unfold sameD at hyes; exact (Bool.and_eq_true_iff.1 hyes).2
  have HD := Lib.hid (show ∀ w9, BoxAt w9 p (paV N x) 83 → Calls Tryd.prog 47 #[.pointer (some ⟨p, 0, none⟩)] w9 fun e w' => e = .returned (.bool false) ∧ Below w9.heap.size w9 w' from fun w9 h => by have h2 := order_done h; rw [hd] at h2; exact h2)
  refine wp_seq ?_
  refine wp_region_lit ?_
  refine fr_ch F 1 [(6, .int .u8 0)] (by kernel_rfl) ?_
  clear F a9
  intro a9 F
  refine wpList_nil ?_
  show Code.wp _ _ _ _ _
  refine wp_seq ?_
  refine wp_region_lit ?_
  refine fr_ch F 3 [(11, .pointer (some ⟨p, 0, none⟩)), (10, .pointer (some ⟨p, 0, none⟩)), (9, .pointer (some ⟨p, 0, none⟩))] (by kernel_rfl) ?_
  clear F a9
  intro a9 F
  refine fr_do F (wanted_free rfl) 12 rfl (by decide) (.pointer (some ⟨N, s, none⟩)) (by intro a' F'; have h11 := F'.at' 11 _ rfl; have hc : w9.cell? ⟨p, 0, none⟩ = some (.pointer (some ⟨N, s, none⟩)) := (HP.cells 0).trans (congrArg (fun z => some (ptrN N z)) hx); go_simp) ?_
  clear F a9
  intro a9 F
  refine fr_ch F 2 [(14, .bool true), (13, .bool true)] (by kernel_rfl) ?_
  clear F a9
  intro a9 F
  refine fr_mv F (by rw [wanted_at F rfl (t := 14) (b := true) (by kernel_rfl) rfl]; rfl) 15 rfl (by decide) 1 rfl rfl ?_
  clear F a9
  intro a9 F
  refine fr_call F (by rw [wanted_at F rfl (t := 14) (b := true) (by kernel_rfl) rfl]; rfl) 16 rfl (by decide) 47 #[.pointer (some ⟨p, 0, none⟩)] (by intro a' F'; have h15 := F'.at' 15 _ rfl; go_simp) (HD.out _ HP) ?_
  rintro e9 w8 ⟨rfl, hb8⟩
  replace HK := HK.below hb8
  replace HP := HP.below hb8
  replace HON := HON.then hb8
  replace HMO := HMO.below hb8
  replace HB := HB.below hb8
  clear hb8
  clear w9
  rename World => w9
  refine ⟨_, rfl, ?_⟩
  clear F a9
  intro a9 F
  refine fr_ch F 3 [(7, .bool true), (18, .bool true), (17, .bool true)] (by kernel_rfl) ?_
  clear F a9
  intro a9 F
  refine wpList_nil ?_
  show Code.wp _ _ _ _ _
  replace F := F.cut [(7, .bool true), (6, .int .u8 0), (2, .pointer (some ⟨N, q, none⟩)), (1, .pointer (some ⟨p, 0, none⟩)), (0, .pointer (some ⟨k, 0, none⟩))] (by kernel_rfl)
  refine wp_seq ?_
  refine wp_region_noPanic ?_
  have hb8 : Below w9.heap.size w9 w9.drew := below_draws (n := 1) rfl
  replace HK := HK.below hb8
  replace HP := HP.below hb8
  replace HON := HON.then hb8
  replace HMO := HMO.below hb8
  replace HB := HB.below hb8
  clear hb8
  refine AnyT.begin (S := fun w' => BoxAt w' p (paV N x) 83 ∧ NtAt w' N q n a c ∧ NtAt w' N s n2 a2 c2) (z := 1000) (by kernel_rfl) ⟨HP, HN0.out.low HK.low, HS0.out.low HK.low⟩ (fun hS0 => ?_)
  clear hS0
  generalize w9.drew = w8 at *
  clear w9
  rename World => w9
  refine fr_chT F [0, 1, 2, 3, 4, 5] [(24, .pointer (some ⟨p, 0, none⟩)), (23, .pointer (some ⟨p, 0, none⟩)), (22, .pointer (some ⟨p, 0, none⟩)), (21, .bool true), (20, .bool true), (19, .bool true)] ⟨HP, HN0.out.low HK.low, HS0.out.low HK.low⟩ (by kernel_rfl) ?_
  clear F a9
  intro a9 F
  refine fr_takeG (i := 6) (o := ⟨some 25, _, _, _, _, _⟩) F ⟨HP, HN0.out.low HK.low, HS0.out.low HK.low⟩ rfl (by rw [wanted_at F rfl (t := 21) (b := true) (by kernel_rfl) rfl]; rfl) 25 rfl (by decide) (.pointer (some ⟨N, s, none⟩)) (fun w9 hS => (by intro a' F'; have h24 := F'.at' 24 _ rfl; have hc : w9.cell? ⟨p, 0, none⟩ = some (.pointer (some ⟨N, s, none⟩)) := (hS.1.cells 0).trans (congrArg (fun z => some (ptrN N z)) hx); go_simp)) ?_
  clear F a9
  intro a9 F
  refine fr_chT F [7] [(26, .pointer (some ⟨N, q, none⟩))] ⟨HP, HN0.out.low HK.low, HS0.out.low HK.low⟩ (by kernel_rfl) ?_
  clear F a9
  intro a9 F
  refine fr_stepC (i := 8) (o := ⟨some 27, _, _, _, _, _⟩) F rfl (by rw [wanted_at F rfl (t := 21) (b := true) (by kernel_rfl) rfl]; rfl) 27 rfl (by decide) 48 #[.pointer (some ⟨N, s, none⟩), .pointer (some ⟨N, q, none⟩)] (by intro a' F'; have h25 := F'.at' 25 _ rfl; have h26 := F'.at' 26 _ rfl; go_simp) (by have h := order_by HK.env (HS0.out.low HK.low) (HN0.out.low HK.low); rw [show (decide (n2.conn = n.conn) && decide (n2.client = n.client)) = true from hby] at h; exact h) ?_
  rintro e9 w8 ⟨rfl, hb8⟩
  replace HK := HK.below hb8
  replace HP := HP.below hb8
  replace HON := HON.then hb8
  replace HMO := HMO.below hb8
  replace HB := HB.below hb8
  clear hb8
  clear w9
  rename World => w9
  refine ⟨_, rfl, ⟨HP, HN0.out.low HK.low, HS0.out.low HK.low⟩, ?_⟩
  clear F a9
  intro a9 F
  refine fr_chT F [9, 10, 11, 12, 13] [(32, .pointer (some ⟨p, 0, none⟩)), (31, .pointer (some ⟨p, 0, none⟩)), (30, .pointer (some ⟨p, 0, none⟩)), (29, .bool true), (28, .bool true)] ⟨HP, HN0.out.low HK.low, HS0.out.low HK.low⟩ (by kernel_rfl) ?_
  clear F a9
  intro a9 F
  refine fr_takeG (i := 14) (o := ⟨some 33, _, _, _, _, _⟩) F ⟨HP, HN0.out.low HK.low, HS0.out.low HK.low⟩ rfl (by rw [wanted_at F rfl (t := 29) (b := true) (by kernel_rfl) rfl]; rfl) 33 rfl (by decide) (.pointer (some ⟨N, s, none⟩)) (fun w9 hS => (by intro a' F'; have h32 := F'.at' 32 _ rfl; have hc : w9.cell? ⟨p, 0, none⟩ = some (.pointer (some ⟨N, s, none⟩)) := (hS.1.cells 0).trans (congrArg (fun z => some (ptrN N z)) hx); go_simp)) ?_
  clear F a9
  intro a9 F
  refine fr_chT F [15, 16] [(35, .pointer (some ⟨N, s + 4, none⟩)), (34, .pointer (some ⟨N, s, none⟩))] ⟨HP, HN0.out.low HK.low, HS0.out.low HK.low⟩ (by kernel_rfl) ?_
  clear F a9
  intro a9 F
  refine fr_takeG (i := 17) (o := ⟨some 36, _, _, _, _, _⟩) F ⟨HP, HN0.out.low HK.low, HS0.out.low HK.low⟩ rfl (by rw [wanted_at F rfl (t := 29) (b := true) (by kernel_rfl) rfl]; rfl) 36 rfl (by decide) (.agg (pkV n2.p a2 c2)) (fun w9 hS => (fun a' F' => run_load_midF 33 _ rfl N (s + 4) (F'.ev 35 rfl) (pkV n2.p a2 c2).toList _ hS.2.2.pk Tryd.underlying33 rfl infoPk)) ?_
  clear F a9
  intro a9 F
  refine fr_chT F [18, 19, 20] [(39, .pointer (some ⟨N, q + 4, none⟩)), (38, .pointer (some ⟨N, q, none⟩)), (37, .pointer (some ⟨N, q, none⟩))] ⟨HP, HN0.out.low HK.low, HS0.out.low HK.low⟩ (by kernel_rfl) ?_
  clear F a9
  intro a9 F
  refine fr_takeG (i := 21) (o := ⟨some 40, _, _, _, _, _⟩) F ⟨HP, HN0.out.low HK.low, HS0.out.low HK.low⟩ rfl (by rw [wanted_at F rfl (t := 29) (b := true) (by kernel_rfl) rfl]; rfl) 40 rfl (by decide) (.agg (pkV n.p a c)) (fun w9 hS => (fun a' F' => run_load_midF 33 _ rfl N (q + 4) (F'.ev 39 rfl) (pkV n.p a c).toList _ hS.2.1.pk Tryd.underlying33 rfl infoPk)) ?_
  clear F a9
  intro a9 F
  refine fr_stepC (i := 22) (o := ⟨some 41, _, _, _, _, _⟩) F rfl (by rw [wanted_at F rfl (t := 29) (b := true) (by kernel_rfl) rfl]; rfl) 41 rfl (by decide) 49 #[.agg (pkV n2.p a2 c2), .agg (pkV n.p a c)] (by intro a' F'; have h36 := F'.at' 36 _ rfl; have h40 := F'.at' 40 _ rfl; go_simp) (by have h := packet_Same n2.p n.p a2 a c2 c w9 HK.env HG2.out.pk HG.out.pk (HG2.out.ok.row.below HK.low) (HG.out.ok.row.below HK.low); rw [hsm] at h; exact h) ?_
  rintro e9 w8 ⟨rfl, hb8⟩
  replace HK := HK.below hb8
  replace HP := HP.below hb8
  replace HON := HON.then hb8
  replace HMO := HMO.below hb8
  replace HB := HB.below hb8
  clear hb8
  clear w9
  rename World => w9
  refine ⟨_, rfl, ⟨HP, HN0.out.low HK.low, HS0.out.low HK.low⟩, ?_⟩
  clear F a9
  intro a9 F
  refine fr_chT F [23] [(42, .bool true)] ⟨HP, HN0.out.low HK.low, HS0.out.low HK.low⟩ (by kernel_rfl) ?_
  clear F a9
  intro a9 F
  refine fr_stepC (i := 24) (o := ⟨some 43, _, _, _, _, _⟩) F rfl (wanted_free rfl) 43 rfl (by decide) 46 #[.bool true, .bool true] (by intro a' F'; have h19 := F'.at' 19 _ rfl; have h42 := F'.at' 42 _ rfl; go_simp) (order_reason true true w9) ?_
  rintro e9 w8 ⟨rfl, hb8⟩
  replace HK := HK.below hb8
  replace HP := HP.below hb8
  replace HON := HON.then hb8
  replace HMO := HMO.below hb8
  replace HB := HB.below hb8
  clear hb8
  clear w9
  rename World => w9
  refine ⟨_, rfl, ⟨HP, HN0.out.low HK.low, HS0.out.low HK.low⟩, ?_⟩
  clear F a9
  intro a9 F
  refine fr_chT F [25] [(8, .int .u8 (reasonN true true : Int))] ⟨HP, HN0.out.low HK.low, HS0.out.low HK.low⟩ (by kernel_rfl) ?_
  clear F a9
  intro a9 F
  refine AnyT.done (by kernel_rfl) ?_ _
  refine NoPanic.normal ?_
  show Code.wp _ _ _ _ _
  replace F := F.cut [(8, .int .u8 (reasonN true true : Int)), (6, .int .u8 0), (2, .pointer (some ⟨N, q, none⟩)), (1, .pointer (some ⟨p, 0, none⟩)), (0, .pointer (some ⟨k, 0, none⟩))] (by kernel_rfl)
  have HK2 := HK.withBox ⟨p, paV N x, 83⟩ HP hpl (fun z hz => by cases hz)
  have hfp := HMO.boxFar (by decide) HP
  have hkp : k ≠ p := box_ne HB HP (by decide)
  clear HK HP
  have HK := HK2
  clear HK2
  replace HK : Keep w0 [(p, (paV N x), 83)] [] w9 := HK
  refine wp_seq ?_
  refine wp_region_lit ?_
  refine fr_ch F 4 [(47, .pointer (some ⟨p, 1, none⟩)), (45, .pointer (some ⟨N, q, none⟩))] (by kernel_rfl) ?_
  clear F a9
  intro a9 F
  refine fr_putO F HK 0 rfl rfl rfl 52 _ _ rfl 1 (.pointer (some ⟨N, q, none⟩)) (fun a' F' => F'.ev 47 rfl) (fun a' F' => F'.ev 45 rfl) z_pn (Nat.le_of_ble_eq_true (by kernel_rfl)) (by kernel_rfl) ?_
  intro a10 w10 F' HK' HO
  replace HON := HON.trans HO (fun j _ h => h)
  replace HMO := HMO.only HO (fun j hj e => hfp (e ▸ hj))
  replace HB := HB.only HO hkp
  clear HK F HO
  clear a9 w9
  rename World => w9
  rename Act => a9
  have HK := HK'
  have F := F'
  clear HK' F'
  replace HK : Keep w0 [(p, (paV N { x with does := some q }), 83)] [] w9 := HK
  refine wpList_nil ?_
  show Code.wp _ _ _ _ _
  refine wp_seq ?_
  refine wp_seq ?_
  refine wp_region_lit ?_
  refine fr_mv F (wanted_free rfl) 48 rfl (by decide) 8 rfl rfl ?_
  clear F a9
  intro a9 F
  refine fr_do F (wanted_free rfl) 49 rfl (by decide) (.bool true) (by intro a' F'; have h48 := F'.at' 48 _ rfl; go_simp <;> decide) ?_
  clear F a9
  intro a9 F
  refine wpList_nil ?_
  show Code.wp _ _ _ _ _
  refine wp_cond_true (F.ev 49 rfl) ?_
  have HC := order_applied (HK.sub (List.nil_sublist _) (fun r hr => hr)) HMO HB HN0.out HG.out
  obtain ⟨bb, hbb⟩ : ∃ bb, appliedN (applyS (absL L) n).1 n = bb := ⟨_, rfl⟩
  rw [hbb] at HC
  refine wp_region_lit ?_
  refine fr_mv F (wanted_free rfl) 50 rfl (by decide) 0 rfl rfl ?_
  clear F a9
  intro a9 F
  refine fr_mv F (wanted_free rfl) 51 rfl (by decide) 2 rfl rfl ?_
  clear F a9
  intro a9 F
  refine fr_call F (wanted_free rfl) 52 rfl (by decide) 50 #[.pointer (some ⟨k, 0, none⟩), .pointer (some ⟨N, q, none⟩)] (by intro a' F'; have h50 := F'.at' 50 _ rfl; have h51 := F'.at' 51 _ rfl; go_simp) (HC) ?_
  rintro e9 w8 ⟨L', rfl, habs, hout⟩
  have HK2 := hout.keep
  have HMO2 := hout.mo
  have HPx := (HK.at 0 rfl).only hout.only hfp
  have HB2 := HB.only hout.only (HMO.boxFar (by decide) HB)
  have HON2 : Only (fun j => j = p ∨ FootM m M K KM L j) w w8 := Only.trans (HON.weaken (fun j h => Or.inl h)) hout.only (fun j _ h => Or.inr h)
  have hft : ∀ j, FootM m M K KM L' j → FootM m M K KM L j ∨ w.heap.size ≤ j := fun j hj => (hout.foot j hj).elim Or.inl (fun h => Or.inr (Nat.le_trans HON.size h))
  clear HK HMO HB HON hout HC
  have HK := HK2
  have HMO := HMO2
  have HB := HB2
  clear HK2 HMO2 HB2
  clear w9
  rename World => w9
  refine ⟨_, rfl, ?_⟩
  clear F a9
  intro a9 F
  refine fr_as F (wanted_free rfl) 8 rfl (by decide) 52 rfl rfl ?_
  clear F a9
  intro a9 F
  refine wpList_nil ?_
  show Code.wp _ _ _ _ _
  refine wp_seq ?_
  refine wp_region_lit ?_
  refine fr_mv F (wanted_free rfl) 53 rfl (by decide) 8 rfl rfl ?_
  clear F a9
  intro a9 F
  refine fr_as F (wanted_free rfl) 6 rfl (by decide) 53 rfl rfl ?_
  clear F a9
  intro a9 F
  refine wpList_nil ?_
  show Code.wp _ _ _ _ _
  refine wp_ret ?_
  exact fr_ret1 F rfl _ rfl (FIN.out _ L' _ hbb.symm habs HPx HB HMO HON2 hft HK)
end Go.Proofs.YtmppkgonkkffhaaDoor
