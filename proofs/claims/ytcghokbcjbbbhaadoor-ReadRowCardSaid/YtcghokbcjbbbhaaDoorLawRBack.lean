/- The walk of ReadBack. Conditions: the decoder's tables lie as Go lays them; the packet's list in its cells. -/
import Derived.Test.YtcghokbcjbbbhaaDoorLaw05
import Derived.Test.YtcghokbcjbbbhaaDoorPlainSmall
import Derived.Test.YtcghokbcjbbbhaaDoorLaw04
import Derived.Test.YtcghokbcjbbbhaaDoorLaw04Great
import Derived.Test.YtcghokbcjbbbhaaDoorCardPk
import Derived.Test.YtcghokbcjbbbhaaDoorAtBl
import Derived.Test.YtcghokbcjbbbhaaDoorPacketSame
namespace Go.Proofs.YtcghokbcjbbbhaaDoor
open Go.RowKit
theorem bl_add (s t : ByteArray) : bl (s ++ t) = bl s ++ bl t := by
  unfold bl
  simp
theorem enc_long {p : Pk} (h0 : 0 ≤ restP p) (hp : PkOk p) : 2 ≤ (encB p).length := by
  rw [encB_len p hp h0]
  have := (lenS_le (restP p).toNat).1
  omega
set_option maxRecDepth 100000 in
set_option maxHeartbeats 4000000 in
theorem rback_great1 (p : Pk) (a : Option Addr) (c : Nat) (b : ByteArray) (k : Nat) (w : World) (hE : Env w) (hq : PkArg w p a c) (gb : Bool) (hgp : greatB p = true) (hgb : decide (20000 < b.size) = gb) : Calls Tryd.prog 6 #[.agg (pkV p a c), .string b, .int .u16 (k : Int)] w fun e w' => e = .returned (.bool true) ∧ Below w.heap.size w w' := by
  have HG := Lib.hid (show ∀ w9, CellsA w9 a (subCells p.subs) → Calls Tryd.prog 17 #[.agg (pkV p a c)] w9 fun e w' => e = .returned (.bool true) ∧ Below w9.heap.size w9 w' from fun w9 h1 => by
    have h2 := law03_Great p a c w9 h1
    rw [hgp] at h2
    exact h2)
  have HB := Lib.hid (show ∀ w9, Calls Tryd.prog 27 #[.string b] w9 fun e w' => e = .returned (.bool gb) ∧ w9 = w' from fun w9 => by
    have h2 := law05_Great b w9
    rw [hgb] at h2
    exact h2)
  clear hgp hgb
  obtain ⟨RR, hRR⟩ : ∃ RR : Ending → World → Prop, RR = fun e w' => e = .returned (.bool true) ∧ Below w.heap.size w w' := ⟨_, rfl⟩
  have FIN := Lib.hid (show ∀ w', Below w.heap.size w w' → RR (.returned (.bool true)) w' from fun w' hb => by rw [hRR]; exact ⟨rfl, hb⟩)
  rw [← hRR]
  obtain ⟨w9, hw9⟩ : ∃ w9, w9 = w := ⟨_, rfl⟩
  have HK : Keep w [] [(a, subCells p.subs)] w9 := by rw [hw9]; exact Keep.begin hE _ (by intro r hr; simp at hr; subst hr; exact hq.row)
  suffices hgo : Calls Tryd.prog 6 #[.agg (pkV p a c), .string b, .int .u16 (k : Int)] w9 RR by rw [hw9] at hgo; exact hgo
  clear hw9 hRR hE hq
  go_enter Tryd.func6, Tryd.ntmps6
  refine wp_forget (n := 66) (L := [(2, .int .u16 (k : Int)), (1, .string b), (0, .agg (pkV p a c))]) (FrL.add (FrL.add (FrL.add (FrL.nil ?_ ?_) _ _ ?_) _ _ ?_) _ _ ?_) ?_
  iterate 5 rfl
  intro a9 F
  refine wp_seq ?_
  refine wp_region_lit ?_
  refine fr_box F HK 3 (by decide) rfl 27 _ rfl rfl (pkV p a c) (fun a' F' => F'.ev 0 rfl) ?_
  rintro P a10 w10 hX F' HK' hb
  clear HK F hb hX
  clear a9 w9
  rename World => w9
  rename Act => a9
  have HK := HK'
  have F := F'
  clear HK' F'
  replace HK : Keep w [(P, (pkV p a c), 27)] [(a, subCells p.subs)] w9 := HK
  refine fr_do F (wanted_free rfl) 6 rfl (by decide) (.bool false) (by intro a' F'; go_simp) ?_
  clear F a9
  intro a9 F
  refine wpList_nil ?_
  show Code.wp _ _ _ _ _
  replace F : FrL 66 [(3, .pointer (some ⟨P, 0, none⟩)), (2, .int .u16 (k : Int)), (1, .string b), (0, .agg (pkV p a c))] a9 := (((((FrL.nil F.size F.defers).add 0 _ (F.at' 0 _ rfl)).add 1 _ (F.at' 1 _ rfl)).add 2 _ (F.at' 2 _ rfl)).add 3 _ (F.at' 3 _ rfl))
  refine wp_seq ?_
  refine wp_seq ?_
  refine wp_region_lit ?_
  refine fr_do F (wanted_free rfl) 12 rfl (by decide) (.agg ((pkV p a c))) (by intro a' F'; exact run_load_box rfl (F'.ev 3 rfl) (HK.at 0 rfl) Tryd.underlying27 rfl infoPk) ?_
  clear F a9
  intro a9 F
  refine fr_call F (wanted_free rfl) 13 rfl (by decide) 17 #[.agg (pkV p a c)] (by intro a' F'; have h12 := F'.at' 12 _ rfl; go_simp) (HG.out _ (HK.rowAt 0 rfl)) ?_
  rintro e9 w8 ⟨rfl, hb8⟩
  replace HK := HK.below hb8
  clear hb8
  clear w9
  rename World => w9
  refine ⟨_, rfl, ?_⟩
  clear F a9
  intro a9 F
  refine fr_do F (wanted_free rfl) 14 rfl (by decide) (.bool true) (by intro a' F'; have h13 := F'.at' 13 _ rfl; go_simp) ?_
  clear F a9
  intro a9 F
  refine fr_left F (by rw [wanted_at F rfl (t := 14) (b := true) (by kernel_rfl) rfl]; rfl) 15 rfl (by decide) ?_
  clear F a9
  intro a9 F
  refine fr_left F (by rw [wanted_at F rfl (t := 14) (b := true) (by kernel_rfl) rfl]; rfl) 16 rfl (by decide) ?_
  clear F a9
  intro a9 F
  refine fr_do F (wanted_free rfl) 17 rfl (by decide) (.bool true) (by intro a' F'; have h14 := F'.at' 14 _ rfl; have h16 := F'.at' 16 _ rfl; go_simp) ?_
  clear F a9
  intro a9 F
  refine wpList_nil ?_
  show Code.wp _ _ _ _ _
  refine wp_cond_true (F.ev 17 rfl) ?_
  refine wp_seq ?_
  refine wp_region_lit ?_
  refine fr_call F (wanted_free rfl) 18 rfl (by decide) 28 #[] (by intro a' F'; go_simp) (law05_awake _ HK.env) ?_
  rintro e9 w8 ⟨rfl, hb8⟩
  replace HK := HK.below hb8
  clear hb8
  clear w9
  rename World => w9
  refine ⟨_, rfl, ?_⟩
  clear F a9
  intro a9 F
  refine fr_do F (wanted_free rfl) 6 rfl (by decide) (.bool true) (by intro a' F'; have h18 := F'.at' 18 _ rfl; go_simp) ?_
  clear F a9
  intro a9 F
  refine wpList_nil ?_
  show Code.wp _ _ _ _ _
  refine wp_ret ?_
  exact fr_ret1 F rfl _ rfl (FIN.out _ HK.low)
set_option maxRecDepth 100000 in
set_option maxHeartbeats 4000000 in
theorem rback_great2 (p : Pk) (a : Option Addr) (c : Nat) (b : ByteArray) (k : Nat) (w : World) (hE : Env w) (hq : PkArg w p a c) (hgp : greatB p = false) (hgb : decide (20000 < b.size) = true) : Calls Tryd.prog 6 #[.agg (pkV p a c), .string b, .int .u16 (k : Int)] w fun e w' => e = .returned (.bool true) ∧ Below w.heap.size w w' := by
  have HG := Lib.hid (show ∀ w9, CellsA w9 a (subCells p.subs) → Calls Tryd.prog 17 #[.agg (pkV p a c)] w9 fun e w' => e = .returned (.bool false) ∧ Below w9.heap.size w9 w' from fun w9 h1 => by
    have h2 := law03_Great p a c w9 h1
    rw [hgp] at h2
    exact h2)
  have HB := Lib.hid (show ∀ w9, Calls Tryd.prog 27 #[.string b] w9 fun e w' => e = .returned (.bool true) ∧ w9 = w' from fun w9 => by
    have h2 := law05_Great b w9
    rw [hgb] at h2
    exact h2)
  clear hgp hgb
  obtain ⟨RR, hRR⟩ : ∃ RR : Ending → World → Prop, RR = fun e w' => e = .returned (.bool true) ∧ Below w.heap.size w w' := ⟨_, rfl⟩
  have FIN := Lib.hid (show ∀ w', Below w.heap.size w w' → RR (.returned (.bool true)) w' from fun w' hb => by rw [hRR]; exact ⟨rfl, hb⟩)
  rw [← hRR]
  obtain ⟨w9, hw9⟩ : ∃ w9, w9 = w := ⟨_, rfl⟩
  have HK : Keep w [] [(a, subCells p.subs)] w9 := by rw [hw9]; exact Keep.begin hE _ (by intro r hr; simp at hr; subst hr; exact hq.row)
  suffices hgo : Calls Tryd.prog 6 #[.agg (pkV p a c), .string b, .int .u16 (k : Int)] w9 RR by rw [hw9] at hgo; exact hgo
  clear hw9 hRR hE hq
  go_enter Tryd.func6, Tryd.ntmps6
  refine wp_forget (n := 66) (L := [(2, .int .u16 (k : Int)), (1, .string b), (0, .agg (pkV p a c))]) (FrL.add (FrL.add (FrL.add (FrL.nil ?_ ?_) _ _ ?_) _ _ ?_) _ _ ?_) ?_
  iterate 5 rfl
  intro a9 F
  refine wp_seq ?_
  refine wp_region_lit ?_
  refine fr_box F HK 3 (by decide) rfl 27 _ rfl rfl (pkV p a c) (fun a' F' => F'.ev 0 rfl) ?_
  rintro P a10 w10 hX F' HK' hb
  clear HK F hb hX
  clear a9 w9
  rename World => w9
  rename Act => a9
  have HK := HK'
  have F := F'
  clear HK' F'
  replace HK : Keep w [(P, (pkV p a c), 27)] [(a, subCells p.subs)] w9 := HK
  refine fr_do F (wanted_free rfl) 6 rfl (by decide) (.bool false) (by intro a' F'; go_simp) ?_
  clear F a9
  intro a9 F
  refine wpList_nil ?_
  show Code.wp _ _ _ _ _
  replace F : FrL 66 [(3, .pointer (some ⟨P, 0, none⟩)), (2, .int .u16 (k : Int)), (1, .string b), (0, .agg (pkV p a c))] a9 := (((((FrL.nil F.size F.defers).add 0 _ (F.at' 0 _ rfl)).add 1 _ (F.at' 1 _ rfl)).add 2 _ (F.at' 2 _ rfl)).add 3 _ (F.at' 3 _ rfl))
  refine wp_seq ?_
  refine wp_seq ?_
  refine wp_region_lit ?_
  refine fr_do F (wanted_free rfl) 12 rfl (by decide) (.agg ((pkV p a c))) (by intro a' F'; exact run_load_box rfl (F'.ev 3 rfl) (HK.at 0 rfl) Tryd.underlying27 rfl infoPk) ?_
  clear F a9
  intro a9 F
  refine fr_call F (wanted_free rfl) 13 rfl (by decide) 17 #[.agg (pkV p a c)] (by intro a' F'; have h12 := F'.at' 12 _ rfl; go_simp) (HG.out _ (HK.rowAt 0 rfl)) ?_
  rintro e9 w8 ⟨rfl, hb8⟩
  replace HK := HK.below hb8
  clear hb8
  clear w9
  rename World => w9
  refine ⟨_, rfl, ?_⟩
  clear F a9
  intro a9 F
  refine fr_do F (wanted_free rfl) 14 rfl (by decide) (.bool false) (by intro a' F'; have h13 := F'.at' 13 _ rfl; go_simp) ?_
  clear F a9
  intro a9 F
  refine fr_do F (by rw [wanted_at F rfl (t := 14) (b := false) (by kernel_rfl) rfl]; rfl) 15 rfl (by decide) (.string b) (by intro a' F'; have h1 := F'.at' 1 _ rfl; go_simp) ?_
  clear F a9
  intro a9 F
  refine fr_call F (by rw [wanted_at F rfl (t := 14) (b := false) (by kernel_rfl) rfl]; rfl) 16 rfl (by decide) 27 #[.string b] (by intro a' F'; have h15 := F'.at' 15 _ rfl; go_simp) (HB.out _) ?_
  rintro e9 w8 ⟨rfl, rfl⟩
  refine ⟨_, rfl, ?_⟩
  clear F a9
  intro a9 F
  refine fr_do F (wanted_free rfl) 17 rfl (by decide) (.bool true) (by intro a' F'; have h14 := F'.at' 14 _ rfl; have h16 := F'.at' 16 _ rfl; go_simp) ?_
  clear F a9
  intro a9 F
  refine wpList_nil ?_
  show Code.wp _ _ _ _ _
  refine wp_cond_true (F.ev 17 rfl) ?_
  refine wp_seq ?_
  refine wp_region_lit ?_
  refine fr_call F (wanted_free rfl) 18 rfl (by decide) 28 #[] (by intro a' F'; go_simp) (law05_awake _ HK.env) ?_
  rintro e9 w8 ⟨rfl, hb8⟩
  replace HK := HK.below hb8
  clear hb8
  clear w9
  rename World => w9
  refine ⟨_, rfl, ?_⟩
  clear F a9
  intro a9 F
  refine fr_do F (wanted_free rfl) 6 rfl (by decide) (.bool true) (by intro a' F'; have h18 := F'.at' 18 _ rfl; go_simp) ?_
  clear F a9
  intro a9 F
  refine wpList_nil ?_
  show Code.wp _ _ _ _ _
  refine wp_ret ?_
  exact fr_ret1 F rfl _ rfl (FIN.out _ HK.low)
set_option maxRecDepth 100000 in
set_option maxHeartbeats 4000000 in
theorem rback_bad (p : Pk) (a : Option Addr) (c : Nat) (b : ByteArray) (k : Nat) (w : World) (hE : Env w) (hq : PkArg w p a c) (hgp : greatB p = false) (hgb : decide (20000 < b.size) = false) (h0 : restP p < 0) : Calls Tryd.prog 6 #[.agg (pkV p a c), .string b, .int .u16 (k : Int)] w fun e w' => e = .returned (.bool true) ∧ Below w.heap.size w w' := by
  have hp := (small_of hgp).ok hq.ty
  obtain ⟨t, ht⟩ : ∃ t, encS p = t := ⟨_, rfl⟩
  have HN := Lib.hid (show ∀ w9, Env w9 → CellsA w9 a (subCells p.subs) → Calls Tryd.prog 19 #[.agg (pkV p a c)] w9 fun e w' => e = .returned (.tuple #[.string t, .int .i64 4]) ∧ Below w9.heap.size w9 w' from fun w9 h1 h2 => by
    have h3 := write_Encode p a c w9 h1 hp h2
    rw [encE_bad h0, ht] at h3
    exact h3)
  have HG := Lib.hid (show ∀ w9, CellsA w9 a (subCells p.subs) → Calls Tryd.prog 17 #[.agg (pkV p a c)] w9 fun e w' => e = .returned (.bool false) ∧ Below w9.heap.size w9 w' from fun w9 h1 => by
    have h2 := law03_Great p a c w9 h1
    rw [hgp] at h2
    exact h2)
  have HB := Lib.hid (show ∀ w9, Calls Tryd.prog 27 #[.string b] w9 fun e w' => e = .returned (.bool false) ∧ w9 = w' from fun w9 => by
    have h2 := law05_Great b w9
    rw [hgb] at h2
    exact h2)
  clear hgp hgb
  obtain ⟨RR, hRR⟩ : ∃ RR : Ending → World → Prop, RR = fun e w' => e = .returned (.bool true) ∧ Below w.heap.size w w' := ⟨_, rfl⟩
  have FIN := Lib.hid (show ∀ w', Below w.heap.size w w' → RR (.returned (.bool true)) w' from fun w' hb => by rw [hRR]; exact ⟨rfl, hb⟩)
  rw [← hRR]
  obtain ⟨w9, hw9⟩ : ∃ w9, w9 = w := ⟨_, rfl⟩
  have HK : Keep w [] [(a, subCells p.subs)] w9 := by rw [hw9]; exact Keep.begin hE _ (by intro r hr; simp at hr; subst hr; exact hq.row)
  suffices hgo : Calls Tryd.prog 6 #[.agg (pkV p a c), .string b, .int .u16 (k : Int)] w9 RR by rw [hw9] at hgo; exact hgo
  clear hw9 hRR hE hq hp ht h0
  go_enter Tryd.func6, Tryd.ntmps6
  refine wp_forget (n := 66) (L := [(2, .int .u16 (k : Int)), (1, .string b), (0, .agg (pkV p a c))]) (FrL.add (FrL.add (FrL.add (FrL.nil ?_ ?_) _ _ ?_) _ _ ?_) _ _ ?_) ?_
  iterate 5 rfl
  intro a9 F
  refine wp_seq ?_
  refine wp_region_lit ?_
  refine fr_box F HK 3 (by decide) rfl 27 _ rfl rfl (pkV p a c) (fun a' F' => F'.ev 0 rfl) ?_
  rintro P a10 w10 hX F' HK' hb
  clear HK F hb hX
  clear a9 w9
  rename World => w9
  rename Act => a9
  have HK := HK'
  have F := F'
  clear HK' F'
  replace HK : Keep w [(P, (pkV p a c), 27)] [(a, subCells p.subs)] w9 := HK
  refine fr_do F (wanted_free rfl) 6 rfl (by decide) (.bool false) (by intro a' F'; go_simp) ?_
  clear F a9
  intro a9 F
  refine wpList_nil ?_
  show Code.wp _ _ _ _ _
  replace F : FrL 66 [(3, .pointer (some ⟨P, 0, none⟩)), (2, .int .u16 (k : Int)), (1, .string b), (0, .agg (pkV p a c))] a9 := (((((FrL.nil F.size F.defers).add 0 _ (F.at' 0 _ rfl)).add 1 _ (F.at' 1 _ rfl)).add 2 _ (F.at' 2 _ rfl)).add 3 _ (F.at' 3 _ rfl))
  refine wp_seq ?_
  refine wp_seq ?_
  refine wp_region_lit ?_
  refine fr_do F (wanted_free rfl) 12 rfl (by decide) (.agg ((pkV p a c))) (by intro a' F'; exact run_load_box rfl (F'.ev 3 rfl) (HK.at 0 rfl) Tryd.underlying27 rfl infoPk) ?_
  clear F a9
  intro a9 F
  refine fr_call F (wanted_free rfl) 13 rfl (by decide) 17 #[.agg (pkV p a c)] (by intro a' F'; have h12 := F'.at' 12 _ rfl; go_simp) (HG.out _ (HK.rowAt 0 rfl)) ?_
  rintro e9 w8 ⟨rfl, hb8⟩
  replace HK := HK.below hb8
  clear hb8
  clear w9
  rename World => w9
  refine ⟨_, rfl, ?_⟩
  clear F a9
  intro a9 F
  refine fr_do F (wanted_free rfl) 14 rfl (by decide) (.bool false) (by intro a' F'; have h13 := F'.at' 13 _ rfl; go_simp) ?_
  clear F a9
  intro a9 F
  refine fr_do F (by rw [wanted_at F rfl (t := 14) (b := false) (by kernel_rfl) rfl]; rfl) 15 rfl (by decide) (.string b) (by intro a' F'; have h1 := F'.at' 1 _ rfl; go_simp) ?_
  clear F a9
  intro a9 F
  refine fr_call F (by rw [wanted_at F rfl (t := 14) (b := false) (by kernel_rfl) rfl]; rfl) 16 rfl (by decide) 27 #[.string b] (by intro a' F'; have h15 := F'.at' 15 _ rfl; go_simp) (HB.out _) ?_
  rintro e9 w8 ⟨rfl, rfl⟩
  refine ⟨_, rfl, ?_⟩
  clear F a9
  intro a9 F
  refine fr_do F (wanted_free rfl) 17 rfl (by decide) (.bool false) (by intro a' F'; have h14 := F'.at' 14 _ rfl; have h16 := F'.at' 16 _ rfl; go_simp) ?_
  clear F a9
  intro a9 F
  refine wpList_nil ?_
  show Code.wp _ _ _ _ _
  refine wp_cond_false (F.ev 17 rfl) ?_
  refine wp_skip ?_
  show Code.wp _ _ _ _ _
  replace F : FrL 66 [(3, .pointer (some ⟨P, 0, none⟩)), (2, .int .u16 (k : Int)), (1, .string b)] a9 := ((((FrL.nil F.size F.defers).add 1 _ (F.at' 1 _ rfl)).add 2 _ (F.at' 2 _ rfl)).add 3 _ (F.at' 3 _ rfl))
  refine wp_seq ?_
  refine wp_region_lit ?_
  refine fr_do F (wanted_free rfl) 20 rfl (by decide) (.agg ((pkV p a c))) (by intro a' F'; exact run_load_box rfl (F'.ev 3 rfl) (HK.at 0 rfl) Tryd.underlying27 rfl infoPk) ?_
  clear F a9
  intro a9 F
  refine fr_call F (wanted_free rfl) 21 rfl (by decide) 19 #[.agg (pkV p a c)] (by intro a' F'; have h20 := F'.at' 20 _ rfl; go_simp) (HN.out _ HK.env (HK.rowAt 0 rfl)) ?_
  rintro e9 w8 ⟨rfl, hb8⟩
  replace HK := HK.below hb8
  clear hb8
  clear w9
  rename World => w9
  refine ⟨_, rfl, ?_⟩
  clear F a9
  intro a9 F
  refine fr_do F (wanted_free rfl) 19 rfl (by decide) (.tuple #[.string t, .int .i64 4]) (by intro a' F'; have h21 := F'.at' 21 _ rfl; go_simp) ?_
  clear F a9
  intro a9 F
  refine fr_do F (wanted_free rfl) 22 rfl (by decide) (.string t) (by intro a' F'; have h19 := F'.at' 19 _ rfl; go_simp) ?_
  clear F a9
  intro a9 F
  refine fr_do F (wanted_free rfl) 23 rfl (by decide) (.int .i64 4) (by intro a' F'; have h19 := F'.at' 19 _ rfl; go_simp) ?_
  clear F a9
  intro a9 F
  refine fr_do F (wanted_free rfl) 7 rfl (by decide) (.string t) (by intro a' F'; have h22 := F'.at' 22 _ rfl; go_simp) ?_
  clear F a9
  intro a9 F
  refine fr_do F (wanted_free rfl) 8 rfl (by decide) (.int .i64 4) (by intro a' F'; have h23 := F'.at' 23 _ rfl; go_simp) ?_
  clear F a9
  intro a9 F
  refine wpList_nil ?_
  show Code.wp _ _ _ _ _
  replace F : FrL 66 [(8, .int .i64 4), (7, .string t), (3, .pointer (some ⟨P, 0, none⟩)), (2, .int .u16 (k : Int)), (1, .string b)] a9 := ((((((FrL.nil F.size F.defers).add 1 _ (F.at' 1 _ rfl)).add 2 _ (F.at' 2 _ rfl)).add 3 _ (F.at' 3 _ rfl)).add 7 _ (F.at' 7 _ rfl)).add 8 _ (F.at' 8 _ rfl))
  refine wp_seq ?_
  refine wp_seq ?_
  refine wp_region_lit ?_
  refine fr_do F (wanted_free rfl) 24 rfl (by decide) (.int .i64 4) (by intro a' F'; have h8 := F'.at' 8 _ rfl; go_simp) ?_
  clear F a9
  intro a9 F
  refine fr_do F (wanted_free rfl) 25 rfl (by decide) (.bool true) (by intro a' F'; have h24 := F'.at' 24 _ rfl; go_simp) ?_
  clear F a9
  intro a9 F
  refine wpList_nil ?_
  show Code.wp _ _ _ _ _
  refine wp_cond_true (F.ev 25 rfl) ?_
  refine wp_seq ?_
  refine wp_region_lit ?_
  refine fr_call F (wanted_free rfl) 26 rfl (by decide) 28 #[] (by intro a' F'; go_simp) (law05_awake _ HK.env) ?_
  rintro e9 w8 ⟨rfl, hb8⟩
  replace HK := HK.below hb8
  clear hb8
  clear w9
  rename World => w9
  refine ⟨_, rfl, ?_⟩
  clear F a9
  intro a9 F
  refine fr_do F (wanted_free rfl) 6 rfl (by decide) (.bool true) (by intro a' F'; have h26 := F'.at' 26 _ rfl; go_simp) ?_
  clear F a9
  intro a9 F
  refine wpList_nil ?_
  show Code.wp _ _ _ _ _
  refine wp_ret ?_
  exact fr_ret1 F rfl _ rfl (FIN.out _ HK.low)
set_option maxRecDepth 100000 in
set_option maxHeartbeats 4000000 in
theorem rback_good (p : Pk) (a : Option Addr) (c : Nat) (b : ByteArray) (k : Nat) (w : World) (hE : Env w) (hq : PkArg w p a c) (hk : k < 65536) (hgp : greatB p = false) (hgb : decide (20000 < b.size) = false) (h0 : 0 ≤ restP p) : Calls Tryd.prog 6 #[.agg (pkV p a c), .string b, .int .u16 (k : Int)] w fun e w' => e = .returned (.bool true) ∧ Below w.heap.size w w' := by
  have hp := (small_of hgp).ok hq.ty
  have h2len := enc_long h0 hp
  have hsz2 := size_good hp h0
  have hbt : bl (encS p) = encB p := by rw [encS_good h0]; rfl
  obtain ⟨t, ht⟩ : ∃ t, encS p = t := ⟨_, rfl⟩
  rw [ht] at hbt hsz2
  have htl : t.size = (encB p).length := by rw [← bl_len, hbt]
  have hmx := restP_max p
  have hle : sizeN p ≤ 300000000 := by unfold sizeN; have := lenS_le (restP p).toNat; split <;> omega
  have hle2 : t.size ≤ 10420 := by
    have h5 := enc_small (small_of hgp)
    omega
  have hb2 : b.size ≤ 20000 := by simpa using hgb
  have hcat : ¬ 9223372036854775807 < t.size + b.size := by omega
  have hfirst : ∃ x r, encB p = x :: r ∧ firstOk x.toNat = true := ⟨_, _, rfl, by rw [byteN_nat _ (by have := rest_types h0; have := flags_lt' p (fun h3 => (pub_parts h3 h0).2.1); omega)]; exact firstOk_enc p h0⟩
  obtain ⟨x0, r0, hx0, hfo⟩ := hfirst
  obtain ⟨hg1, hg2⟩ := at_bl t 0 x0 (by rw [hbt, hx0]; rfl)
  have hv : (t[0]'hg1).toNat = x0.toNat := by rw [hg2]
  have hx2 := x0.toNat_lt
  clear hg2
  have hde : decR (bl (t ++ b)) = (p, t.size, 0) := by rw [bl_add, hbt, dec_enc p hp h0, htl]
  obtain ⟨m, hm⟩ : ∃ m, k % t.size = m := ⟨_, rfl⟩
  have HM := Lib.hid (show (k : Int).tmod (t.size : Int) = (m : Int) from by rw [← hm]; rfl)
  have htne : ¬ t = ByteArray.empty := fun h => by rw [h] at hg1; exact absurd hg1 (by decide)
  have hmlt : m < t.size := by rw [← hm]; exact Nat.mod_lt _ (by omega)
  have hcut : decR (bl (t.extract 0 m)) = (Pk.zero, 0, 2) := by
    rw [bl_extract, hbt, List.drop_zero, Nat.sub_zero]
    exact dec_cut p hp h0 m (by omega)
  have HD := Lib.hid (show ∀ w9, Env w9 → Calls Tryd.prog 29 #[.string (t ++ b)] w9 (RetDec w9 (p, t.size, 0)) from fun w9 h1 => by
    have h2 := read_Decode (t ++ b) (by rw [ByteArray.size_append]; omega) w9 h1
    rw [hde] at h2
    exact h2)
  have HF := Lib.hid (fun w9 (h1 : Env w9) => law05_fails (t.extract 0 m) (by rw [← bl_len, bl_extract]; simp; rw [bl_len]; omega) 2 hcut w9 h1)
  have HSM := Lib.hid (show ∀ w9 al cap, Env w9 → CellsA w9 a (subCells p.subs) → CellsA w9 al (subCells p.subs) → Calls Tryd.prog 30 #[.agg (pkV p a c), .agg (pkV p al cap)] w9 fun e w' => e = .returned (.bool true) ∧ Below w9.heap.size w9 w' from fun w9 al cap h1 h2 h3 => by
    have h4 := packet_Same p p a al c cap w9 h1 hp hp h2 h3
    rw [decide_eq_true rfl] at h4
    exact h4)
  have HN := Lib.hid (show ∀ w9, Env w9 → CellsA w9 a (subCells p.subs) → Calls Tryd.prog 19 #[.agg (pkV p a c)] w9 fun e w' => e = .returned (.tuple #[.string t, .int .i64 0]) ∧ Below w9.heap.size w9 w' from fun w9 h1 h2 => by
    have h3 := write_Encode p a c w9 h1 hp h2
    rw [encE_good h0, ht] at h3
    exact h3)
  have HG := Lib.hid (show ∀ w9, CellsA w9 a (subCells p.subs) → Calls Tryd.prog 17 #[.agg (pkV p a c)] w9 fun e w' => e = .returned (.bool false) ∧ Below w9.heap.size w9 w' from fun w9 h1 => by
    have h2 := law03_Great p a c w9 h1
    rw [hgp] at h2
    exact h2)
  have HB := Lib.hid (show ∀ w9, Calls Tryd.prog 27 #[.string b] w9 fun e w' => e = .returned (.bool false) ∧ w9 = w' from fun w9 => by
    have h2 := law05_Great b w9
    rw [hgb] at h2
    exact h2)
  clear hgp hgb
  obtain ⟨RR, hRR⟩ : ∃ RR : Ending → World → Prop, RR = fun e w' => e = .returned (.bool true) ∧ Below w.heap.size w w' := ⟨_, rfl⟩
  have FIN := Lib.hid (show ∀ w', Below w.heap.size w w' → RR (.returned (.bool true)) w' from fun w' hb => by rw [hRR]; exact ⟨rfl, hb⟩)
  rw [← hRR]
  obtain ⟨w9, hw9⟩ : ∃ w9, w9 = w := ⟨_, rfl⟩
  have HK : Keep w [] [(a, subCells p.subs)] w9 := by rw [hw9]; exact Keep.begin hE _ (by intro r hr; simp at hr; subst hr; exact hq.row)
  suffices hgo : Calls Tryd.prog 6 #[.agg (pkV p a c), .string b, .int .u16 (k : Int)] w9 RR by rw [hw9] at hgo; exact hgo
  clear hw9 hRR hE hq hp ht hle hle2 hb2 hmx hx0 hbt hde hcut hsz2 h2len htl
  generalize x0.toNat = x at hfo hv hx2
  clear h0
  go_enter Tryd.func6, Tryd.ntmps6
  refine wp_forget (n := 66) (L := [(2, .int .u16 (k : Int)), (1, .string b), (0, .agg (pkV p a c))]) (FrL.add (FrL.add (FrL.add (FrL.nil ?_ ?_) _ _ ?_) _ _ ?_) _ _ ?_) ?_
  iterate 5 rfl
  intro a9 F
  refine wp_seq ?_
  refine wp_region_lit ?_
  refine fr_box F HK 3 (by decide) rfl 27 _ rfl rfl (pkV p a c) (fun a' F' => F'.ev 0 rfl) ?_
  rintro P a10 w10 hX F' HK' hb
  clear HK F hb hX
  clear a9 w9
  rename World => w9
  rename Act => a9
  have HK := HK'
  have F := F'
  clear HK' F'
  replace HK : Keep w [(P, (pkV p a c), 27)] [(a, subCells p.subs)] w9 := HK
  refine fr_do F (wanted_free rfl) 6 rfl (by decide) (.bool false) (by intro a' F'; go_simp) ?_
  clear F a9
  intro a9 F
  refine wpList_nil ?_
  show Code.wp _ _ _ _ _
  replace F : FrL 66 [(3, .pointer (some ⟨P, 0, none⟩)), (2, .int .u16 (k : Int)), (1, .string b), (0, .agg (pkV p a c))] a9 := (((((FrL.nil F.size F.defers).add 0 _ (F.at' 0 _ rfl)).add 1 _ (F.at' 1 _ rfl)).add 2 _ (F.at' 2 _ rfl)).add 3 _ (F.at' 3 _ rfl))
  refine wp_seq ?_
  refine wp_seq ?_
  refine wp_region_lit ?_
  refine fr_do F (wanted_free rfl) 12 rfl (by decide) (.agg ((pkV p a c))) (by intro a' F'; exact run_load_box rfl (F'.ev 3 rfl) (HK.at 0 rfl) Tryd.underlying27 rfl infoPk) ?_
  clear F a9
  intro a9 F
  refine fr_call F (wanted_free rfl) 13 rfl (by decide) 17 #[.agg (pkV p a c)] (by intro a' F'; have h12 := F'.at' 12 _ rfl; go_simp) (HG.out _ (HK.rowAt 0 rfl)) ?_
  rintro e9 w8 ⟨rfl, hb8⟩
  replace HK := HK.below hb8
  clear hb8
  clear w9
  rename World => w9
  refine ⟨_, rfl, ?_⟩
  clear F a9
  intro a9 F
  refine fr_do F (wanted_free rfl) 14 rfl (by decide) (.bool false) (by intro a' F'; have h13 := F'.at' 13 _ rfl; go_simp) ?_
  clear F a9
  intro a9 F
  refine fr_do F (by rw [wanted_at F rfl (t := 14) (b := false) (by kernel_rfl) rfl]; rfl) 15 rfl (by decide) (.string b) (by intro a' F'; have h1 := F'.at' 1 _ rfl; go_simp) ?_
  clear F a9
  intro a9 F
  refine fr_call F (by rw [wanted_at F rfl (t := 14) (b := false) (by kernel_rfl) rfl]; rfl) 16 rfl (by decide) 27 #[.string b] (by intro a' F'; have h15 := F'.at' 15 _ rfl; go_simp) (HB.out _) ?_
  rintro e9 w8 ⟨rfl, rfl⟩
  refine ⟨_, rfl, ?_⟩
  clear F a9
  intro a9 F
  refine fr_do F (wanted_free rfl) 17 rfl (by decide) (.bool false) (by intro a' F'; have h14 := F'.at' 14 _ rfl; have h16 := F'.at' 16 _ rfl; go_simp) ?_
  clear F a9
  intro a9 F
  refine wpList_nil ?_
  show Code.wp _ _ _ _ _
  refine wp_cond_false (F.ev 17 rfl) ?_
  refine wp_skip ?_
  show Code.wp _ _ _ _ _
  replace F : FrL 66 [(3, .pointer (some ⟨P, 0, none⟩)), (2, .int .u16 (k : Int)), (1, .string b)] a9 := ((((FrL.nil F.size F.defers).add 1 _ (F.at' 1 _ rfl)).add 2 _ (F.at' 2 _ rfl)).add 3 _ (F.at' 3 _ rfl))
  refine wp_seq ?_
  refine wp_region_lit ?_
  refine fr_do F (wanted_free rfl) 20 rfl (by decide) (.agg ((pkV p a c))) (by intro a' F'; exact run_load_box rfl (F'.ev 3 rfl) (HK.at 0 rfl) Tryd.underlying27 rfl infoPk) ?_
  clear F a9
  intro a9 F
  refine fr_call F (wanted_free rfl) 21 rfl (by decide) 19 #[.agg (pkV p a c)] (by intro a' F'; have h20 := F'.at' 20 _ rfl; go_simp) (HN.out _ HK.env (HK.rowAt 0 rfl)) ?_
  rintro e9 w8 ⟨rfl, hb8⟩
  replace HK := HK.below hb8
  clear hb8
  clear w9
  rename World => w9
  refine ⟨_, rfl, ?_⟩
  clear F a9
  intro a9 F
  refine fr_do F (wanted_free rfl) 19 rfl (by decide) (.tuple #[.string t, .int .i64 0]) (by intro a' F'; have h21 := F'.at' 21 _ rfl; go_simp) ?_
  clear F a9
  intro a9 F
  refine fr_do F (wanted_free rfl) 22 rfl (by decide) (.string t) (by intro a' F'; have h19 := F'.at' 19 _ rfl; go_simp) ?_
  clear F a9
  intro a9 F
  refine fr_do F (wanted_free rfl) 23 rfl (by decide) (.int .i64 0) (by intro a' F'; have h19 := F'.at' 19 _ rfl; go_simp) ?_
  clear F a9
  intro a9 F
  refine fr_do F (wanted_free rfl) 7 rfl (by decide) (.string t) (by intro a' F'; have h22 := F'.at' 22 _ rfl; go_simp) ?_
  clear F a9
  intro a9 F
  refine fr_do F (wanted_free rfl) 8 rfl (by decide) (.int .i64 0) (by intro a' F'; have h23 := F'.at' 23 _ rfl; go_simp) ?_
  clear F a9
  intro a9 F
  refine wpList_nil ?_
  show Code.wp _ _ _ _ _
  replace F : FrL 66 [(8, .int .i64 0), (7, .string t), (3, .pointer (some ⟨P, 0, none⟩)), (2, .int .u16 (k : Int)), (1, .string b)] a9 := ((((((FrL.nil F.size F.defers).add 1 _ (F.at' 1 _ rfl)).add 2 _ (F.at' 2 _ rfl)).add 3 _ (F.at' 3 _ rfl)).add 7 _ (F.at' 7 _ rfl)).add 8 _ (F.at' 8 _ rfl))
  refine wp_seq ?_
  refine wp_seq ?_
  refine wp_region_lit ?_
  refine fr_do F (wanted_free rfl) 24 rfl (by decide) (.int .i64 0) (by intro a' F'; have h8 := F'.at' 8 _ rfl; go_simp) ?_
  clear F a9
  intro a9 F
  refine fr_do F (wanted_free rfl) 25 rfl (by decide) (.bool false) (by intro a' F'; have h24 := F'.at' 24 _ rfl; go_simp) ?_
  clear F a9
  intro a9 F
  refine wpList_nil ?_
  show Code.wp _ _ _ _ _
  refine wp_cond_false (F.ev 25 rfl) ?_
  refine wp_skip ?_
  show Code.wp _ _ _ _ _
  replace F : FrL 66 [(7, .string t), (3, .pointer (some ⟨P, 0, none⟩)), (2, .int .u16 (k : Int)), (1, .string b)] a9 := (((((FrL.nil F.size F.defers).add 1 _ (F.at' 1 _ rfl)).add 2 _ (F.at' 2 _ rfl)).add 3 _ (F.at' 3 _ rfl)).add 7 _ (F.at' 7 _ rfl))
  refine wp_seq ?_
  refine wp_region_lit ?_
  refine fr_do F (wanted_free rfl) 28 rfl (by decide) (.string t) (by intro a' F'; have h7 := F'.at' 7 _ rfl; go_simp) ?_
  clear F a9
  intro a9 F
  refine fr_do F (wanted_free rfl) 29 rfl (by decide) (.string b) (by intro a' F'; have h1 := F'.at' 1 _ rfl; go_simp) ?_
  clear F a9
  intro a9 F
  refine fr_do F (wanted_free rfl) 30 rfl (by decide) (.string (t ++ b)) (by intro a' F'; have h28 := F'.at' 28 _ rfl; have h29 := F'.at' 29 _ rfl; go_simp <;> first | rfl | omega | (rw [IntKind.wrap_i64]; omega) | (intro hcon; exfalso; omega) | (rw [Bool.eq_iff_iff]; simp; omega) | (rw [decide_eq_decide]; omega) | (congr 1; omega) | (congr 2; omega)) ?_
  clear F a9
  intro a9 F
  refine fr_call F (wanted_free rfl) 31 rfl (by decide) 29 #[.string (t ++ b)] (by intro a' F'; have h30 := F'.at' 30 _ rfl; go_simp) (HD.out _ HK.env) ?_
  rintro e9 w8 ⟨al, cap, rfl, hown, hb8⟩
  replace HK := HK.ownRow hb8 hown
  clear hb8 hown
  clear w9
  rename World => w9
  refine ⟨_, rfl, ?_⟩
  clear F a9
  intro a9 F
  refine fr_do F (wanted_free rfl) 27 rfl (by decide) (.tuple #[.agg (pkV p al cap), .int .i64 (t.size : Int), .int .i64 ((0 : Nat) : Int)]) (by intro a' F'; have h31 := F'.at' 31 _ rfl; go_simp) ?_
  clear F a9
  intro a9 F
  refine fr_do F (wanted_free rfl) 32 rfl (by decide) (.agg (pkV p al cap)) (by intro a' F'; have h27 := F'.at' 27 _ rfl; go_simp) ?_
  clear F a9
  intro a9 F
  refine fr_do F (wanted_free rfl) 33 rfl (by decide) (.int .i64 (t.size : Int)) (by intro a' F'; have h27 := F'.at' 27 _ rfl; go_simp) ?_
  clear F a9
  intro a9 F
  refine fr_do F (wanted_free rfl) 34 rfl (by decide) (.int .i64 ((0 : Nat) : Int)) (by intro a' F'; have h27 := F'.at' 27 _ rfl; go_simp) ?_
  clear F a9
  intro a9 F
  obtain ⟨i0, hi, hz0, hz1, hz2⟩ := info_parts infoPkR
  refine fr_new F HK 9 (by decide) rfl 27 rfl rfl rfl (.tmp 32) rfl rfl i0 _ hi hz0 (cells := (pkV p al cap)) hz1 rfl (pk_one _ _ _) (fun a' Y F' => F'.ev 32 rfl) ?_
  rintro Q a10 w10 hX F' HK' hb
  clear HK F hb hX hi hz0 hz1 hz2 i0
  clear a9 w9
  rename World => w9
  rename Act => a9
  have HK := HK'
  have F := F'
  clear HK' F'
  replace HK : Keep w [(Q, (pkV p al cap), 27), (P, (pkV p a c), 27)] [(al, subCells (p).subs), (a, subCells p.subs)] w9 := HK
  refine fr_do F (wanted_free rfl) 10 rfl (by decide) (.int .i64 (t.size : Int)) (by intro a' F'; have h33 := F'.at' 33 _ rfl; go_simp) ?_
  clear F a9
  intro a9 F
  refine fr_do F (wanted_free rfl) 11 rfl (by decide) (.int .i64 ((0 : Nat) : Int)) (by intro a' F'; have h34 := F'.at' 34 _ rfl; go_simp) ?_
  clear F a9
  intro a9 F
  refine wpList_nil ?_
  show Code.wp _ _ _ _ _
  replace F : FrL 66 [(11, .int .i64 ((0 : Nat) : Int)), (10, .int .i64 (t.size : Int)), (9, .pointer (some ⟨Q, 0, none⟩)), (7, .string t), (3, .pointer (some ⟨P, 0, none⟩)), (2, .int .u16 (k : Int))] a9 := (((((((FrL.nil F.size F.defers).add 2 _ (F.at' 2 _ rfl)).add 3 _ (F.at' 3 _ rfl)).add 7 _ (F.at' 7 _ rfl)).add 9 _ (F.at' 9 _ rfl)).add 10 _ (F.at' 10 _ rfl)).add 11 _ (F.at' 11 _ rfl))
  refine wp_seq ?_
  refine wp_seq ?_
  refine wp_region_lit ?_
  refine fr_do F (wanted_free rfl) 35 rfl (by decide) (.int .i64 ((0 : Nat) : Int)) (by intro a' F'; have h11 := F'.at' 11 _ rfl; go_simp) ?_
  clear F a9
  intro a9 F
  refine fr_do F (wanted_free rfl) 36 rfl (by decide) (.bool false) (by intro a' F'; have h35 := F'.at' 35 _ rfl; go_simp <;> first | rfl | omega | (rw [IntKind.wrap_i64]; omega) | (intro hcon; exfalso; omega) | (rw [Bool.eq_iff_iff]; simp; omega) | (rw [decide_eq_decide]; omega) | (congr 1; omega) | (congr 2; omega)) ?_
  clear F a9
  intro a9 F
  refine fr_do F (wanted_free rfl) 37 rfl (by decide) (.bool false) (by intro a' F'; have h36 := F'.at' 36 _ rfl; go_simp) ?_
  clear F a9
  intro a9 F
  refine fr_do F (by rw [wanted_at F rfl (t := 37) (b := false) (by kernel_rfl) rfl]; rfl) 38 rfl (by decide) (.int .i64 (t.size : Int)) (by intro a' F'; have h10 := F'.at' 10 _ rfl; go_simp) ?_
  clear F a9
  intro a9 F
  refine fr_do F (by rw [wanted_at F rfl (t := 37) (b := false) (by kernel_rfl) rfl]; rfl) 39 rfl (by decide) (.string t) (by intro a' F'; have h7 := F'.at' 7 _ rfl; go_simp) ?_
  clear F a9
  intro a9 F
  refine fr_do F (by rw [wanted_at F rfl (t := 37) (b := false) (by kernel_rfl) rfl]; rfl) 40 rfl (by decide) (.int .i64 (t.size : Int)) (by intro a' F'; have h39 := F'.at' 39 _ rfl; go_simp) ?_
  clear F a9
  intro a9 F
  refine fr_do F (by rw [wanted_at F rfl (t := 37) (b := false) (by kernel_rfl) rfl]; rfl) 41 rfl (by decide) (.bool false) (by intro a' F'; have h38 := F'.at' 38 _ rfl; have h40 := F'.at' 40 _ rfl; go_simp <;> first | rfl | omega | (rw [IntKind.wrap_i64]; omega) | (intro hcon; exfalso; omega) | (rw [Bool.eq_iff_iff]; simp; omega) | (rw [decide_eq_decide]; omega) | (congr 1; omega) | (congr 2; omega)) ?_
  clear F a9
  intro a9 F
  refine fr_do F (wanted_free rfl) 42 rfl (by decide) (.bool false) (by intro a' F'; have h37 := F'.at' 37 _ rfl; have h41 := F'.at' 41 _ rfl; go_simp) ?_
  clear F a9
  intro a9 F
  refine fr_do F (wanted_free rfl) 43 rfl (by decide) (.bool false) (by intro a' F'; have h42 := F'.at' 42 _ rfl; go_simp) ?_
  clear F a9
  intro a9 F
  refine fr_do F (by rw [wanted_at F rfl (t := 43) (b := false) (by kernel_rfl) rfl]; rfl) 44 rfl (by decide) (.agg ((pkV p a c))) (by intro a' F'; exact run_load_box rfl (F'.ev 3 rfl) (HK.at 1 rfl) Tryd.underlying27 rfl infoPk) ?_
  clear F a9
  intro a9 F
  refine fr_do F (by rw [wanted_at F rfl (t := 43) (b := false) (by kernel_rfl) rfl]; rfl) 45 rfl (by decide) (.agg ((pkV p al cap))) (by intro a' F'; exact run_load_box rfl (F'.ev 9 rfl) (HK.at 0 rfl) Tryd.underlying27 rfl infoPk) ?_
  clear F a9
  intro a9 F
  refine fr_call F (by rw [wanted_at F rfl (t := 43) (b := false) (by kernel_rfl) rfl]; rfl) 46 rfl (by decide) 30 #[.agg (pkV p a c), .agg (pkV p al cap)] (by intro a' F'; have h44 := F'.at' 44 _ rfl; have h45 := F'.at' 45 _ rfl; go_simp) (HSM.out _ _ _ HK.env (HK.rowAt 1 rfl) (HK.rowAt 0 rfl)) ?_
  rintro e9 w8 ⟨rfl, hb8⟩
  replace HK := HK.below hb8
  clear hb8
  clear w9
  rename World => w9
  refine ⟨_, rfl, ?_⟩
  clear F a9
  intro a9 F
  refine fr_do F (by rw [wanted_at F rfl (t := 43) (b := false) (by kernel_rfl) rfl]; rfl) 47 rfl (by decide) (.bool false) (by intro a' F'; have h46 := F'.at' 46 _ rfl; go_simp) ?_
  clear F a9
  intro a9 F
  refine fr_do F (wanted_free rfl) 48 rfl (by decide) (.bool false) (by intro a' F'; have h43 := F'.at' 43 _ rfl; have h47 := F'.at' 47 _ rfl; go_simp) ?_
  clear F a9
  intro a9 F
  refine fr_do F (wanted_free rfl) 49 rfl (by decide) (.bool false) (by intro a' F'; have h48 := F'.at' 48 _ rfl; go_simp) ?_
  clear F a9
  intro a9 F
  refine fr_do F (by rw [wanted_at F rfl (t := 49) (b := false) (by kernel_rfl) rfl]; rfl) 50 rfl (by decide) (.string t) (by intro a' F'; have h7 := F'.at' 7 _ rfl; go_simp) ?_
  clear F a9
  intro a9 F
  refine fr_do F (by rw [wanted_at F rfl (t := 49) (b := false) (by kernel_rfl) rfl]; rfl) 51 rfl (by decide) (.int .u8 (x : Int)) (by intro a' F'; have h50 := F'.at' 50 _ rfl; go_simp <;> first | rfl | omega | (rw [IntKind.wrap_i64]; omega) | (intro hcon; exfalso; omega) | (rw [Bool.eq_iff_iff]; simp; omega) | (rw [decide_eq_decide]; omega) | (congr 1; omega) | (congr 2; omega)) ?_
  clear F a9
  intro a9 F
  refine fr_call F (by rw [wanted_at F rfl (t := 49) (b := false) (by kernel_rfl) rfl]; rfl) 52 rfl (by decide) 31 #[.int .u8 (x : Int)] (by intro a' F'; have h51 := F'.at' 51 _ rfl; go_simp) (read_First x hx2 w9) ?_
  rintro e9 w8 ⟨rfl, rfl⟩
  rw [hfo]
  refine ⟨_, rfl, ?_⟩
  clear F a9
  intro a9 F
  refine fr_do F (by rw [wanted_at F rfl (t := 49) (b := false) (by kernel_rfl) rfl]; rfl) 53 rfl (by decide) (.bool false) (by intro a' F'; have h52 := F'.at' 52 _ rfl; go_simp) ?_
  clear F a9
  intro a9 F
  refine fr_do F (wanted_free rfl) 54 rfl (by decide) (.bool false) (by intro a' F'; have h49 := F'.at' 49 _ rfl; have h53 := F'.at' 53 _ rfl; go_simp) ?_
  clear F a9
  intro a9 F
  refine wpList_nil ?_
  show Code.wp _ _ _ _ _
  refine wp_cond_false (F.ev 54 rfl) ?_
  refine wp_skip ?_
  show Code.wp _ _ _ _ _
  replace F : FrL 66 [(7, .string t), (2, .int .u16 (k : Int))] a9 := (((FrL.nil F.size F.defers).add 2 _ (F.at' 2 _ rfl)).add 7 _ (F.at' 7 _ rfl))
  refine wp_seq ?_
  refine wp_region_lit ?_
  refine fr_do F (wanted_free rfl) 55 rfl (by decide) (.string t) (by intro a' F'; have h7 := F'.at' 7 _ rfl; go_simp) ?_
  clear F a9
  intro a9 F
  refine fr_do F (wanted_free rfl) 56 rfl (by decide) (.int .u16 (k : Int)) (by intro a' F'; have h2 := F'.at' 2 _ rfl; go_simp) ?_
  clear F a9
  intro a9 F
  refine fr_do F (wanted_free rfl) 57 rfl (by decide) (.int .i64 (k : Int)) (by intro a' F'; have h56 := F'.at' 56 _ rfl; go_simp <;> first | rfl | omega | (rw [IntKind.wrap_i64]; omega) | (intro hcon; exfalso; omega) | (rw [Bool.eq_iff_iff]; simp; omega) | (rw [decide_eq_decide]; omega) | (congr 1; omega) | (congr 2; omega)) ?_
  clear F a9
  intro a9 F
  refine fr_do F (wanted_free rfl) 58 rfl (by decide) (.string t) (by intro a' F'; have h7 := F'.at' 7 _ rfl; go_simp) ?_
  clear F a9
  intro a9 F
  refine fr_do F (wanted_free rfl) 59 rfl (by decide) (.int .i64 (t.size : Int)) (by intro a' F'; have h58 := F'.at' 58 _ rfl; go_simp) ?_
  clear F a9
  intro a9 F
  refine fr_do F (wanted_free rfl) 60 rfl (by decide) (.int .i64 (m : Int)) (by intro a' F'; have h57 := F'.at' 57 _ rfl; have h59 := F'.at' 59 _ rfl; go_simp <;> first | exact HM.out | rw [if_neg htne, HM.out]) ?_
  clear F a9
  intro a9 F
  refine fr_do F (wanted_free rfl) 61 rfl (by decide) (.string (t.extract 0 m)) (by intro a' F'; have h55 := F'.at' 55 _ rfl; have h60 := F'.at' 60 _ rfl; go_simp <;> first | rfl | omega | (rw [IntKind.wrap_i64]; omega) | (intro hcon; exfalso; omega) | (rw [Bool.eq_iff_iff]; simp; omega) | (rw [decide_eq_decide]; omega) | (congr 1; omega) | (congr 2; omega)) ?_
  clear F a9
  intro a9 F
  refine fr_call F (wanted_free rfl) 62 rfl (by decide) 32 #[.string (t.extract 0 m), .int .i64 ((2 : Nat) : Int)] (by intro a' F'; have h61 := F'.at' 61 _ rfl; go_simp) (HF.out _ HK.env) ?_
  rintro e9 w8 ⟨rfl, hb8⟩
  replace HK := HK.below hb8
  clear hb8
  clear w9
  rename World => w9
  refine ⟨_, rfl, ?_⟩
  clear F a9
  intro a9 F
  refine fr_do F (wanted_free rfl) 63 rfl (by decide) (.bool true) (by intro a' F'; have h62 := F'.at' 62 _ rfl; go_simp) ?_
  clear F a9
  intro a9 F
  refine fr_call F (by rw [wanted_at F rfl (t := 63) (b := true) (by kernel_rfl) rfl]; rfl) 64 rfl (by decide) 28 #[] (by intro a' F'; go_simp) (law05_awake _ HK.env) ?_
  rintro e9 w8 ⟨rfl, hb8⟩
  replace HK := HK.below hb8
  clear hb8
  clear w9
  rename World => w9
  refine ⟨_, rfl, ?_⟩
  clear F a9
  intro a9 F
  refine fr_do F (wanted_free rfl) 65 rfl (by decide) (.bool true) (by intro a' F'; have h63 := F'.at' 63 _ rfl; have h64 := F'.at' 64 _ rfl; go_simp) ?_
  clear F a9
  intro a9 F
  refine fr_do F (wanted_free rfl) 6 rfl (by decide) (.bool true) (by intro a' F'; have h65 := F'.at' 65 _ rfl; go_simp) ?_
  clear F a9
  intro a9 F
  refine wpList_nil ?_
  show Code.wp _ _ _ _ _
  refine wp_ret ?_
  exact fr_ret1 F rfl _ rfl (FIN.out _ HK.low)
theorem law05_ReadBack (p : Pk) (a : Option Addr) (c : Nat) (b : ByteArray) (k : Nat) (w : World) (hE : Env w) (hq : PkArg w p a c) (hk : k < 65536) : Calls Tryd.prog 6 #[.agg (pkV p a c), .string b, .int .u16 (k : Int)] w fun e w' => e = .returned (.bool true) ∧ Below w.heap.size w w' := by
  cases hgp : greatB p
  · cases hgb : decide (20000 < b.size)
    · by_cases h0 : 0 ≤ restP p
      · exact rback_good p a c b k w hE hq hk hgp hgb h0
      · exact rback_bad p a c b k w hE hq hgp hgb (by omega)
    · exact rback_great2 p a c b k w hE hq hgp hgb
  · exact rback_great1 p a c b k w hE hq _ hgp rfl
end Go.Proofs.YtcghokbcjbbbhaaDoor
