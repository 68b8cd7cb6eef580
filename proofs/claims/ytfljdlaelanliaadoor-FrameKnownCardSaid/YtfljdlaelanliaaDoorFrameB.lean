/- The walk of a framer's whole. Conditions: the framer's cells lie in a block of the caller's own, its bytes are a row of its own; a machine's bound on their size. -/
import Derived.Test.YtfljdlaelanliaaDoorFrameA
import Derived.Test.YtfljdlaelanliaaDoorJoinG
namespace Go.Proofs.YtfljdlaelanliaaDoor
open Go.RowKit
set_option maxRecDepth 100000 in
set_option maxHeartbeats 4000000 in
theorem whole_empty {w0 w : World} {B : List Box} {X m e : Nat} {L : Bs} (h : FrC w0 B X m L e w) (_hL : L.length ≤ 90000000) (h0 : L = []) : Calls Tryd.prog 42 #[.pointer (some ⟨X, 0, none⟩)] w fun r w' => r = .returned (.tuple #[.int .i64 ((wholeR m L).1 : Int), .int .i64 ((wholeR m L).2 : Int)]) ∧ Below w.heap.size w w' := by
  obtain ⟨a, c, HK, HO⟩ := h
  obtain ⟨RR, hRR⟩ : ∃ RR : Ending → World → Prop, RR = fun r w' => r = .returned (.tuple #[.int .i64 ((wholeR m L).1 : Int), .int .i64 ((wholeR m L).2 : Int)]) ∧ Below w.heap.size w w' := ⟨_, rfl⟩
  have FIN := Lib.hid (show ∀ w', Below w.heap.size w w' → RR (.returned (.tuple #[.int .i64 ((0 : Nat)), .int .i64 ((0 : Nat))])) w' from fun w' hb => by
    have e1 : wholeR m L = (0, 0) := by rw [h0]; rfl
    rw [hRR, e1]
    exact ⟨rfl, hb⟩)
  rw [← hRR]
  obtain ⟨w9, hw9⟩ : ∃ w9, w9 = w := ⟨_, rfl⟩
  rw [← hw9] at HK HO
  have HB8 := Below.refl w9.heap.size w9
  suffices hgo : Calls Tryd.prog 42 #[.pointer (some ⟨X, 0, none⟩)] w9 RR by rw [hw9] at hgo; exact hgo
  have HLOW := Lib.hid (show Below w.heap.size w w9 by rw [hw9]; exact Below.refl _ _)
  clear hw9 hRR HB8
  have hz : L.length = 0 := by rw [h0]; rfl
  go_enter Tryd.func42, Tryd.ntmps42
  refine wp_forget (n := 66) (L := [(0, .pointer (some ⟨X, 0, none⟩))]) (FrL.add (FrL.nil ?_ ?_) _ _ ?_) ?_
  iterate 3 rfl
  intro a9 F
  refine wp_seq ?_
  refine wp_region_lit ?_
  refine fr_ch F 2 [(3, .int .i64 0), (2, .int .i64 0)] (by kernel_rfl) ?_
  clear F a9
  intro a9 F
  refine wpList_nil ?_
  show Code.wp _ _ _ _ _
  replace F := F.cut [(3, .int .i64 0), (2, .int .i64 0), (0, .pointer (some ⟨X, 0, none⟩))] (by kernel_rfl)
  refine wp_seq ?_
  refine wp_seq ?_
  refine wp_region_lit ?_
  refine fr_ch F 3 [(10, .pointer (some ⟨X, 1, none⟩))] (by kernel_rfl) ?_
  clear F a9
  intro a9 F
  refine fr_do F (wanted_free rfl) 11 rfl (by decide) (.slice a L.length c) (by intro a' F'; have hc : w9.cell? ⟨X, 1, none⟩ = some (.slice a L.length c) := (HK.at 0 rfl).cells 1; have h10 := F'.at' 10 _ rfl; go_simp) ?_
  clear F a9
  intro a9 F
  refine fr_ch F 1 [(12, .int .i64 (L.length : Int))] (by kernel_rfl) ?_
  clear F a9
  intro a9 F
  refine fr_do F (wanted_free rfl) 13 rfl (by decide) (.bool true) (by intro a' F'; have h12 := F'.at' 12 _ rfl; go_simp) ?_
  clear F a9
  intro a9 F
  refine wpList_nil ?_
  show Code.wp _ _ _ _ _
  refine wp_cond_true (F.ev 13 rfl) ?_
  refine wp_seq ?_
  refine wp_region_lit ?_
  refine fr_ch F 2 [(3, .int .i64 0), (2, .int .i64 0)] (by kernel_rfl) ?_
  clear F a9
  intro a9 F
  refine wpList_nil ?_
  show Code.wp _ _ _ _ _
  refine wp_ret ?_
  exact fr_ret2 F rfl _ _ rfl rfl (FIN.out _ HLOW.out)
set_option maxRecDepth 100000 in
set_option maxHeartbeats 4000000 in
theorem whole_first {w0 w : World} {B : List Box} {X m e : Nat} {L : Bs} (h : FrC w0 B X m L e w) (hL : L.length ≤ 90000000) (b : UInt8) (t : Bs) (h0 : L = b :: t) (hfo : firstOk b.toNat = false) : Calls Tryd.prog 42 #[.pointer (some ⟨X, 0, none⟩)] w fun r w' => r = .returned (.tuple #[.int .i64 ((wholeR m L).1 : Int), .int .i64 ((wholeR m L).2 : Int)]) ∧ Below w.heap.size w w' := by
  obtain ⟨a, c, HK, HO⟩ := h
  obtain ⟨RR, hRR⟩ : ∃ RR : Ending → World → Prop, RR = fun r w' => r = .returned (.tuple #[.int .i64 ((wholeR m L).1 : Int), .int .i64 ((wholeR m L).2 : Int)]) ∧ Below w.heap.size w w' := ⟨_, rfl⟩
  have FIN := Lib.hid (show ∀ w', Below w.heap.size w w' → RR (.returned (.tuple #[.int .i64 ((0 : Nat)), .int .i64 ((4 : Nat))])) w' from fun w' hb => by
    have e1 : wholeR m L = (0, 4) := by rw [h0]; simp only [wholeR]; rw [if_pos hfo]
    rw [hRR, e1]
    exact ⟨rfl, hb⟩)
  rw [← hRR]
  obtain ⟨w9, hw9⟩ : ∃ w9, w9 = w := ⟨_, rfl⟩
  rw [← hw9] at HK HO
  have HB8 := Below.refl w9.heap.size w9
  suffices hgo : Calls Tryd.prog 42 #[.pointer (some ⟨X, 0, none⟩)] w9 RR by rw [hw9] at hgo; exact hgo
  have HLOW := Lib.hid (show Below w.heap.size w w9 by rw [hw9]; exact Below.refl _ _)
  clear hw9 hRR HB8
  obtain ⟨gg, oo, ha⟩ := out_some HO (by rw [h0]; simp)
  subst ha
  have hl : L.length = t.length + 1 := by rw [h0]; rfl
  have hb2 := b.toNat_lt
  have HB0 := Lib.hid (show L[0]? = some b by rw [h0]; rfl)
  go_enter Tryd.func42, Tryd.ntmps42
  refine wp_forget (n := 66) (L := [(0, .pointer (some ⟨X, 0, none⟩))]) (FrL.add (FrL.nil ?_ ?_) _ _ ?_) ?_
  iterate 3 rfl
  intro a9 F
  refine wp_seq ?_
  refine wp_region_lit ?_
  refine fr_ch F 2 [(3, .int .i64 0), (2, .int .i64 0)] (by kernel_rfl) ?_
  clear F a9
  intro a9 F
  refine wpList_nil ?_
  show Code.wp _ _ _ _ _
  replace F := F.cut [(3, .int .i64 0), (2, .int .i64 0), (0, .pointer (some ⟨X, 0, none⟩))] (by kernel_rfl)
  refine wp_seq ?_
  refine wp_seq ?_
  refine wp_region_lit ?_
  refine fr_ch F 3 [(10, .pointer (some ⟨X, 1, none⟩))] (by kernel_rfl) ?_
  clear F a9
  intro a9 F
  refine fr_do F (wanted_free rfl) 11 rfl (by decide) (.slice (some ⟨gg, oo, none⟩) L.length c) (by intro a' F'; have hc : w9.cell? ⟨X, 1, none⟩ = some (.slice (some ⟨gg, oo, none⟩) L.length c) := (HK.at 0 rfl).cells 1; have h10 := F'.at' 10 _ rfl; go_simp) ?_
  clear F a9
  intro a9 F
  refine fr_ch F 1 [(12, .int .i64 (L.length : Int))] (by kernel_rfl) ?_
  clear F a9
  intro a9 F
  refine fr_do F (wanted_free rfl) 13 rfl (by decide) (.bool false) (by intro a' F'; have h12 := F'.at' 12 _ rfl; go_simp <;> omega) ?_
  clear F a9
  intro a9 F
  refine wpList_nil ?_
  show Code.wp _ _ _ _ _
  refine wp_cond_false (F.ev 13 rfl) ?_
  refine wp_skip ?_
  show Code.wp _ _ _ _ _
  replace F := F.cut [(3, .int .i64 0), (2, .int .i64 0), (0, .pointer (some ⟨X, 0, none⟩))] (by kernel_rfl)
  refine wp_seq ?_
  refine wp_seq ?_
  refine wp_region_lit ?_
  refine fr_ch F 3 [(16, .pointer (some ⟨X, 1, none⟩))] (by kernel_rfl) ?_
  clear F a9
  intro a9 F
  refine fr_do F (wanted_free rfl) 17 rfl (by decide) (.slice (some ⟨gg, oo, none⟩) L.length c) (by intro a' F'; have hc : w9.cell? ⟨X, 1, none⟩ = some (.slice (some ⟨gg, oo, none⟩) L.length c) := (HK.at 0 rfl).cells 1; have h16 := F'.at' 16 _ rfl; go_simp) ?_
  clear F a9
  intro a9 F
  refine fr_do F (wanted_free rfl) 18 rfl (by decide) (.pointer (some ⟨gg, oo, none⟩)) (by intro a' F'; have h17 := F'.at' 17 _ rfl; go_simp) ?_
  clear F a9
  intro a9 F
  refine fr_do F (wanted_free rfl) 19 rfl (by decide) (.int .u8 (b.toNat : Int)) (by intro a' F'; have h18 := F'.at' 18 _ rfl; have hc := out_at HO 0 b HB0.out; rw [Nat.add_zero] at hc; go_simp) ?_
  clear F a9
  intro a9 F
  refine fr_call F (wanted_free rfl) 20 rfl (by decide) 65 #[.int .u8 (b.toNat : Int)] (by intro a' F'; have h19 := F'.at' 19 _ rfl; go_simp) (read_First b.toNat hb2 w9) ?_
  rintro e9 w8 ⟨rfl, rfl⟩
  rw [hfo]
  refine ⟨_, rfl, ?_⟩
  clear F a9
  intro a9 F
  refine fr_ch F 1 [(21, .bool true)] (by kernel_rfl) ?_
  clear F a9
  intro a9 F
  refine wpList_nil ?_
  show Code.wp _ _ _ _ _
  refine wp_cond_true (F.ev 21 rfl) ?_
  refine wp_seq ?_
  refine wp_region_lit ?_
  refine fr_ch F 2 [(3, .int .i64 4), (2, .int .i64 0)] (by kernel_rfl) ?_
  clear F a9
  intro a9 F
  refine wpList_nil ?_
  show Code.wp _ _ _ _ _
  refine wp_ret ?_
  exact fr_ret2 F rfl _ _ rfl rfl (FIN.out _ HLOW.out)
set_option maxRecDepth 100000 in
set_option maxHeartbeats 4000000 in
theorem whole_short {w0 w : World} {B : List Box} {X m e : Nat} {L : Bs} (h : FrC w0 B X m L e w) (hL : L.length ≤ 90000000) (b : UInt8) (t : Bs) (h0 : L = b :: t) (hfo : firstOk b.toNat = true) (n u e2 : Nat) (hlr : lenR t = (n, u, e2)) (he : e2 = 2) : Calls Tryd.prog 42 #[.pointer (some ⟨X, 0, none⟩)] w fun r w' => r = .returned (.tuple #[.int .i64 ((wholeR m L).1 : Int), .int .i64 ((wholeR m L).2 : Int)]) ∧ Below w.heap.size w w' := by
  obtain ⟨a, c, HK, HO⟩ := h
  obtain ⟨RR, hRR⟩ : ∃ RR : Ending → World → Prop, RR = fun r w' => r = .returned (.tuple #[.int .i64 ((wholeR m L).1 : Int), .int .i64 ((wholeR m L).2 : Int)]) ∧ Below w.heap.size w w' := ⟨_, rfl⟩
  have FIN := Lib.hid (show ∀ w', Below w.heap.size w w' → RR (.returned (.tuple #[.int .i64 ((0 : Nat)), .int .i64 ((0 : Nat))])) w' from fun w' hb => by
    have e1 : wholeR m L = (0, 0) := by rw [h0]; simp only [wholeR]; rw [if_neg (by rw [hfo]; decide), hlr]; simp only; rw [if_pos he]
    rw [hRR, e1]
    exact ⟨rfl, hb⟩)
  rw [← hRR]
  obtain ⟨w9, hw9⟩ : ∃ w9, w9 = w := ⟨_, rfl⟩
  rw [← hw9] at HK HO
  have HB8 := Below.refl w9.heap.size w9
  suffices hgo : Calls Tryd.prog 42 #[.pointer (some ⟨X, 0, none⟩)] w9 RR by rw [hw9] at hgo; exact hgo
  have HLOW := Lib.hid (show Below w.heap.size w w9 by rw [hw9]; exact Below.refl _ _)
  clear hw9 hRR HB8
  obtain ⟨gg, oo, ha⟩ := out_some HO (by rw [h0]; simp)
  subst ha
  have hl : L.length = t.length + 1 := by rw [h0]; rfl
  have hb2 := b.toNat_lt
  have HB0 := Lib.hid (show L[0]? = some b by rw [h0]; rfl)
  have hbs : L.drop 1 = t := by rw [h0]; rfl
  have hcap : L.length ≤ c := by
    rcases HO.2 with ⟨e1, _⟩ | ⟨g', cap, cur, e1, _, _, hh, _⟩
    · cases e1
    · injection e1 with _ _ e1
      omega
  obtain ⟨o1, hO1⟩ : ∃ o1, (if c = 1 then 0 else 1) = o1 := ⟨_, rfl⟩
  have HQ1 := Lib.hid (show (if c = 1 then (some ⟨gg, oo, none⟩ : Option Addr) else some ⟨gg, oo + 1, none⟩) = some ⟨gg, oo + o1, none⟩ by rw [← hO1]; split <;> rfl)
  have hns := fun w9 (h : Out w9 w0.heap.size (.slice (some ⟨gg, oo, none⟩) L.length c) L) => conv_nats (P := Tryd.prog) w9 52 5 Tryd.underlying52 Tryd.underlying5 (some ⟨gg, oo + o1, none⟩) (c - 1) (((L.drop 1).take 5).map UInt8.toNat) (min L.length 6 - 1) (by rw [List.length_map, List.length_take, hbs]; omega) (by
    by_cases hc : c = 1
    · have ht : L.drop 1 = [] := List.drop_eq_nil_of_le (by omega)
      rw [ht]
      exact CellsA.nil _ _
    · have h3 := out_sub h 1 5
      rw [if_neg hc] at hO1
      rw [← hO1]
      exact h3) 9 Tryd.underlying9
  rw [strN_u8, hbs] at hns
  have HNS := Lib.hid hns
  have hRL := num_ReadLenG (bB (t.take 5))
  rw [bl_bB, lenR_take t 5 (by omega), hlr] at hRL
  have HRL := Lib.hid (show ∀ w9, Calls Tryd.prog 66 #[.string (bB (t.take 5))] w9 (fun e9 w8 => e9 = .returned (.tuple #[.int .i64 (n : Int), .int .i64 (u : Int), .int .i64 (e2 : Int)]) ∧ w9 = w8) from fun w9 => hRL w9)
  have hnu : n ≤ 268435455 ∧ u ≤ 4 := by
    by_cases he : e2 = 0
    · subst he
      have := lenR_inv hlr
      omega
    · have h1 := lenRf_zero 4 1 0 0 t (by show (lenR t).2.2 ≠ 0; rw [hlr]; exact he)
      have h2 : (lenR t).1 = 0 ∧ (lenR t).2.1 = 0 := h1
      rw [hlr] at h2
      simp only at h2
      omega
  clear hns hRL hO1
  skip
  go_enter Tryd.func42, Tryd.ntmps42
  refine wp_forget (n := 66) (L := [(0, .pointer (some ⟨X, 0, none⟩))]) (FrL.add (FrL.nil ?_ ?_) _ _ ?_) ?_
  iterate 3 rfl
  intro a9 F
  refine wp_seq ?_
  refine wp_region_lit ?_
  refine fr_ch F 2 [(3, .int .i64 0), (2, .int .i64 0)] (by kernel_rfl) ?_
  clear F a9
  intro a9 F
  refine wpList_nil ?_
  show Code.wp _ _ _ _ _
  replace F := F.cut [(3, .int .i64 0), (2, .int .i64 0), (0, .pointer (some ⟨X, 0, none⟩))] (by kernel_rfl)
  refine wp_seq ?_
  refine wp_seq ?_
  refine wp_region_lit ?_
  refine fr_ch F 3 [(10, .pointer (some ⟨X, 1, none⟩)), (9, .pointer (some ⟨X, 0, none⟩)), (8, .pointer (some ⟨X, 0, none⟩))] (by kernel_rfl) ?_
  clear F a9
  intro a9 F
  refine fr_do F (wanted_free rfl) 11 rfl (by decide) (.slice (some ⟨gg, oo, none⟩) L.length c) (by intro a' F'; have hc : w9.cell? ⟨X, 1, none⟩ = some (.slice (some ⟨gg, oo, none⟩) L.length c) := (HK.at 0 rfl).cells 1; have h10 := F'.at' 10 _ rfl; go_simp) ?_
  clear F a9
  intro a9 F
  refine fr_ch F 1 [(12, .int .i64 (L.length : Int))] (by kernel_rfl) ?_
  clear F a9
  intro a9 F
  refine fr_do F (wanted_free rfl) 13 rfl (by decide) (.bool false) (by intro a' F'; have h12 := F'.at' 12 _ rfl; go_simp <;> omega) ?_
  clear F a9
  intro a9 F
  refine wpList_nil ?_
  show Code.wp _ _ _ _ _
  refine wp_cond_false (F.ev 13 rfl) ?_
  refine wp_skip ?_
  show Code.wp _ _ _ _ _
  replace F := F.cut [(3, .int .i64 0), (2, .int .i64 0), (0, .pointer (some ⟨X, 0, none⟩))] (by kernel_rfl)
  refine wp_seq ?_
  refine wp_seq ?_
  refine wp_region_lit ?_
  refine fr_ch F 3 [(16, .pointer (some ⟨X, 1, none⟩)), (15, .pointer (some ⟨X, 0, none⟩)), (14, .pointer (some ⟨X, 0, none⟩))] (by kernel_rfl) ?_
  clear F a9
  intro a9 F
  refine fr_do F (wanted_free rfl) 17 rfl (by decide) (.slice (some ⟨gg, oo, none⟩) L.length c) (by intro a' F'; have hc : w9.cell? ⟨X, 1, none⟩ = some (.slice (some ⟨gg, oo, none⟩) L.length c) := (HK.at 0 rfl).cells 1; have h16 := F'.at' 16 _ rfl; go_simp) ?_
  clear F a9
  intro a9 F
  refine fr_do F (wanted_free rfl) 18 rfl (by decide) (.pointer (some ⟨gg, oo, none⟩)) (by intro a' F'; have h17 := F'.at' 17 _ rfl; go_simp) ?_
  clear F a9
  intro a9 F
  refine fr_do F (wanted_free rfl) 19 rfl (by decide) (.int .u8 (b.toNat : Int)) (by intro a' F'; have h18 := F'.at' 18 _ rfl; have hc := out_at HO 0 b HB0.out; rw [Nat.add_zero] at hc; go_simp) ?_
  clear F a9
  intro a9 F
  refine fr_call F (wanted_free rfl) 20 rfl (by decide) 65 #[.int .u8 (b.toNat : Int)] (by intro a' F'; have h19 := F'.at' 19 _ rfl; go_simp) (read_First b.toNat hb2 w9) ?_
  rintro e9 w8 ⟨rfl, rfl⟩
  rw [hfo]
  refine ⟨_, rfl, ?_⟩
  clear F a9
  intro a9 F
  refine fr_ch F 1 [(21, .bool false)] (by kernel_rfl) ?_
  clear F a9
  intro a9 F
  refine wpList_nil ?_
  show Code.wp _ _ _ _ _
  refine wp_cond_false (F.ev 21 rfl) ?_
  refine wp_skip ?_
  show Code.wp _ _ _ _ _
  replace F := F.cut [(3, .int .i64 0), (2, .int .i64 0), (0, .pointer (some ⟨X, 0, none⟩))] (by kernel_rfl)
  refine wp_seq ?_
  refine wp_region_noPanic ?_
  have hb8 : Below w9.heap.size w9 w9.drew := below_draws (n := 1) rfl
  replace HK := HK.below hb8
  replace HO := own_only HO (Only.of_below hb8 (fun _ => False)) (fun _ _ h => h)
  replace HLOW := Lib.hid (HLOW.out.trans (hb8.mono HLOW.out.size))
  clear hb8
  refine AnyT.begin (S := fun w' => BoxAt w' X (frV m (some ⟨gg, oo, none⟩) L.length c e) 54) (z := 1000) (by kernel_rfl) (HK.at 0 rfl) (fun hS0 => ?_)
  clear hS0
  generalize w9.drew = w8 at *
  clear w9
  rename World => w9
  refine fr_takeG (i := 0) (o := ⟨some 23, _, _, _, _, _⟩) F (HK.at 0 rfl) rfl (wanted_free rfl) 23 rfl (by decide) (.pointer (some ⟨X, 0, none⟩)) (fun w9 hS => (by intro a' F'; have h0 := F'.at' 0 _ rfl; go_simp)) ?_
  clear F a9
  intro a9 F
  refine fr_takeG (i := 1) (o := ⟨some 24, _, _, _, _, _⟩) F (HK.at 0 rfl) rfl (wanted_free rfl) 24 rfl (by decide) (.pointer (some ⟨X, 0, none⟩)) (fun w9 hS => (by intro a' F'; have h23 := F'.at' 23 _ rfl; go_simp)) ?_
  clear F a9
  intro a9 F
  refine fr_takeG (i := 2) (o := ⟨some 25, _, _, _, _, _⟩) F (HK.at 0 rfl) rfl (wanted_free rfl) 25 rfl (by decide) (.pointer (some ⟨X, 1, none⟩)) (fun w9 hS => (by intro a' F'; have h24 := F'.at' 24 _ rfl; go_simp)) ?_
  clear F a9
  intro a9 F
  refine fr_takeG (i := 3) (o := ⟨some 26, _, _, _, _, _⟩) F (HK.at 0 rfl) rfl (wanted_free rfl) 26 rfl (by decide) (.slice (some ⟨gg, oo, none⟩) L.length c) (fun w9 hS => (by intro a' F'; have hc : w9.cell? ⟨X, 1, none⟩ = some (.slice (some ⟨gg, oo, none⟩) L.length c) := (show BoxAt w9 X (frV m (some ⟨gg, oo, none⟩) L.length c e) 54 from hS).cells 1; have h25 := F'.at' 25 _ rfl; go_simp)) ?_
  clear F a9
  intro a9 F
  refine fr_takeG (i := 4) (o := ⟨some 27, _, _, _, _, _⟩) F (HK.at 0 rfl) rfl (wanted_free rfl) 27 rfl (by decide) (.pointer (some ⟨X, 0, none⟩)) (fun w9 hS => (by intro a' F'; have h0 := F'.at' 0 _ rfl; go_simp)) ?_
  clear F a9
  intro a9 F
  refine fr_takeG (i := 5) (o := ⟨some 28, _, _, _, _, _⟩) F (HK.at 0 rfl) rfl (wanted_free rfl) 28 rfl (by decide) (.pointer (some ⟨X, 0, none⟩)) (fun w9 hS => (by intro a' F'; have h27 := F'.at' 27 _ rfl; go_simp)) ?_
  clear F a9
  intro a9 F
  refine fr_takeG (i := 6) (o := ⟨some 29, _, _, _, _, _⟩) F (HK.at 0 rfl) rfl (wanted_free rfl) 29 rfl (by decide) (.pointer (some ⟨X, 1, none⟩)) (fun w9 hS => (by intro a' F'; have h28 := F'.at' 28 _ rfl; go_simp)) ?_
  clear F a9
  intro a9 F
  refine fr_takeG (i := 7) (o := ⟨some 30, _, _, _, _, _⟩) F (HK.at 0 rfl) rfl (wanted_free rfl) 30 rfl (by decide) (.slice (some ⟨gg, oo, none⟩) L.length c) (fun w9 hS => (by intro a' F'; have hc : w9.cell? ⟨X, 1, none⟩ = some (.slice (some ⟨gg, oo, none⟩) L.length c) := (show BoxAt w9 X (frV m (some ⟨gg, oo, none⟩) L.length c e) 54 from hS).cells 1; have h29 := F'.at' 29 _ rfl; go_simp)) ?_
  clear F a9
  intro a9 F
  refine fr_takeG (i := 8) (o := ⟨some 31, _, _, _, _, _⟩) F (HK.at 0 rfl) rfl (wanted_free rfl) 31 rfl (by decide) (.int .i64 (L.length : Int)) (fun w9 hS => (by intro a' F'; have h30 := F'.at' 30 _ rfl; go_simp)) ?_
  clear F a9
  intro a9 F
  refine fr_takeG (i := 9) (o := ⟨some 32, _, _, _, _, _⟩) F (HK.at 0 rfl) rfl (wanted_free rfl) 32 rfl (by decide) (.int .i64 ((min L.length 6 : Nat) : Int)) (fun w9 hS => (by intro a' F'; have h31 := F'.at' 31 _ rfl; go_simp <;> omega)) ?_
  clear F a9
  intro a9 F
  refine fr_takeG (i := 10) (o := ⟨some 33, _, _, _, _, _⟩) F (HK.at 0 rfl) rfl (wanted_free rfl) 33 rfl (by decide) (.slice (some ⟨gg, oo + o1, none⟩) (min L.length 6 - 1) (c - 1)) (fun w9 hS => (by intro a' F'; have h26 := F'.at' 26 _ rfl; have h32 := F'.at' 32 _ rfl; go_simp <;> (rw [if_pos (by omega), if_pos (by omega), HQ1.out]; done))) ?_
  clear F a9
  intro a9 F
  refine fr_step (i := 11) (o := ⟨some 34, _, _, _, _, _⟩) F rfl rfl 34 rfl (by decide) (.string (bB (t.take 5))) w9 (fun a' F' => run_conv 52 9 _ rfl _ _ (F'.ev 33 rfl) (HNS.out w9 HO)) (HK.at 0 rfl) ?_
  clear F a9
  intro a9 F
  refine fr_stepC (i := 12) (o := ⟨some 35, _, _, _, _, _⟩) F rfl (wanted_free rfl) 35 rfl (by decide) 66 #[.string (bB (t.take 5))] (by intro a' F'; have h34 := F'.at' 34 _ rfl; go_simp) (HRL.out w9) ?_
  rintro e9 w8 ⟨rfl, rfl⟩
  refine ⟨_, rfl, (HK.at 0 rfl), ?_⟩
  clear F a9
  intro a9 F
  refine fr_takeG (i := 13) (o := ⟨some 22, _, _, _, _, _⟩) F (HK.at 0 rfl) rfl (wanted_free rfl) 22 rfl (by decide) (.tuple #[.int .i64 (n : Int), .int .i64 (u : Int), .int .i64 (e2 : Int)]) (fun w9 hS => (by intro a' F'; have h35 := F'.at' 35 _ rfl; go_simp)) ?_
  clear F a9
  intro a9 F
  refine fr_takeG (i := 14) (o := ⟨some 36, _, _, _, _, _⟩) F (HK.at 0 rfl) rfl (wanted_free rfl) 36 rfl (by decide) (.int .i64 (n : Int)) (fun w9 hS => (by intro a' F'; have h22 := F'.at' 22 _ rfl; go_simp)) ?_
  clear F a9
  intro a9 F
  refine fr_takeG (i := 15) (o := ⟨some 37, _, _, _, _, _⟩) F (HK.at 0 rfl) rfl (wanted_free rfl) 37 rfl (by decide) (.int .i64 (u : Int)) (fun w9 hS => (by intro a' F'; have h22 := F'.at' 22 _ rfl; go_simp)) ?_
  clear F a9
  intro a9 F
  refine fr_takeG (i := 16) (o := ⟨some 38, _, _, _, _, _⟩) F (HK.at 0 rfl) rfl (wanted_free rfl) 38 rfl (by decide) (.int .i64 (e2 : Int)) (fun w9 hS => (by intro a' F'; have h22 := F'.at' 22 _ rfl; go_simp)) ?_
  clear F a9
  intro a9 F
  refine fr_takeG (i := 17) (o := ⟨some 4, _, _, _, _, _⟩) F (HK.at 0 rfl) rfl (wanted_free rfl) 4 rfl (by decide) (.int .i64 (n : Int)) (fun w9 hS => (by intro a' F'; have h36 := F'.at' 36 _ rfl; go_simp)) ?_
  clear F a9
  intro a9 F
  refine fr_takeG (i := 18) (o := ⟨some 5, _, _, _, _, _⟩) F (HK.at 0 rfl) rfl (wanted_free rfl) 5 rfl (by decide) (.int .i64 (u : Int)) (fun w9 hS => (by intro a' F'; have h37 := F'.at' 37 _ rfl; go_simp)) ?_
  clear F a9
  intro a9 F
  refine fr_takeG (i := 19) (o := ⟨some 6, _, _, _, _, _⟩) F (HK.at 0 rfl) rfl (wanted_free rfl) 6 rfl (by decide) (.int .i64 (e2 : Int)) (fun w9 hS => (by intro a' F'; have h38 := F'.at' 38 _ rfl; go_simp)) ?_
  clear F a9
  intro a9 F
  refine AnyT.done (by kernel_rfl) ?_ _
  refine NoPanic.normal ?_
  show Code.wp _ _ _ _ _
  replace F := F.cut [(6, .int .i64 (e2 : Int)), (5, .int .i64 (u : Int)), (4, .int .i64 (n : Int)), (3, .int .i64 0), (2, .int .i64 0), (0, .pointer (some ⟨X, 0, none⟩))] (by kernel_rfl)
  refine wp_seq ?_
  refine wp_region_lit ?_
  refine fr_ch F 1 [(39, .int .i64 (u : Int))] (by kernel_rfl) ?_
  clear F a9
  intro a9 F
  refine fr_do F (wanted_free rfl) 40 rfl (by decide) (.int .i64 ((1 + u : Nat) : Int)) (by intro a' F'; have h39 := F'.at' 39 _ rfl; go_simp <;> (rw [IntKind.wrap_i64]; omega)) ?_
  clear F a9
  intro a9 F
  refine fr_ch F 1 [(41, .int .i64 (n : Int))] (by kernel_rfl) ?_
  clear F a9
  intro a9 F
  refine fr_do F (wanted_free rfl) 42 rfl (by decide) (.int .i64 ((1 + u + n : Nat) : Int)) (by intro a' F'; have h40 := F'.at' 40 _ rfl; have h41 := F'.at' 41 _ rfl; go_simp <;> (rw [IntKind.wrap_i64]; omega)) ?_
  clear F a9
  intro a9 F
  refine fr_ch F 1 [(7, .int .i64 ((1 + u + n : Nat) : Int))] (by kernel_rfl) ?_
  clear F a9
  intro a9 F
  refine wpList_nil ?_
  show Code.wp _ _ _ _ _
  replace F := F.cut [(7, .int .i64 ((1 + u + n : Nat) : Int)), (6, .int .i64 (e2 : Int)), (5, .int .i64 (u : Int)), (4, .int .i64 (n : Int)), (3, .int .i64 0), (2, .int .i64 0), (0, .pointer (some ⟨X, 0, none⟩))] (by kernel_rfl)
  refine wp_seq ?_
  refine wp_block ?_
  refine wp_seq ?_
  refine wp_region_lit ?_
  refine fr_ch F 1 [(44, .int .i64 (e2 : Int))] (by kernel_rfl) ?_
  clear F a9
  intro a9 F
  refine fr_do F (wanted_free rfl) 45 rfl (by decide) (.bool true) (by intro a' F'; have h44 := F'.at' 44 _ rfl; go_simp) ?_
  clear F a9
  intro a9 F
  refine fr_ch F 1 [(43, .bool true)] (by kernel_rfl) ?_
  clear F a9
  intro a9 F
  refine wpList_nil ?_
  show Code.wp _ _ _ _ _
  refine wp_cond_true (F.ev 43 rfl) ?_
  refine wp_seq ?_
  refine wp_region_lit ?_
  refine fr_ch F 2 [(3, .int .i64 0), (2, .int .i64 0)] (by kernel_rfl) ?_
  clear F a9
  intro a9 F
  refine wpList_nil ?_
  show Code.wp _ _ _ _ _
  refine wp_ret ?_
  exact fr_ret2 F rfl _ _ rfl rfl (FIN.out _ HLOW.out)
set_option maxRecDepth 100000 in
set_option maxHeartbeats 4000000 in
theorem whole_err {w0 w : World} {B : List Box} {X m e : Nat} {L : Bs} (h : FrC w0 B X m L e w) (hL : L.length ≤ 90000000) (b : UInt8) (t : Bs) (h0 : L = b :: t) (hfo : firstOk b.toNat = true) (n u e2 : Nat) (hlr : lenR t = (n, u, e2)) (he : e2 ≠ 2 ∧ e2 ≠ 0) : Calls Tryd.prog 42 #[.pointer (some ⟨X, 0, none⟩)] w fun r w' => r = .returned (.tuple #[.int .i64 ((wholeR m L).1 : Int), .int .i64 ((wholeR m L).2 : Int)]) ∧ Below w.heap.size w w' := by
  obtain ⟨a, c, HK, HO⟩ := h
  obtain ⟨RR, hRR⟩ : ∃ RR : Ending → World → Prop, RR = fun r w' => r = .returned (.tuple #[.int .i64 ((wholeR m L).1 : Int), .int .i64 ((wholeR m L).2 : Int)]) ∧ Below w.heap.size w w' := ⟨_, rfl⟩
  have FIN := Lib.hid (show ∀ w', Below w.heap.size w w' → RR (.returned (.tuple #[.int .i64 ((0 : Nat)), .int .i64 ((e2 : Nat))])) w' from fun w' hb => by
    have e1 : wholeR m L = (0, e2) := by rw [h0]; simp only [wholeR]; rw [if_neg (by rw [hfo]; decide), hlr]; simp only; rw [if_neg he.1, if_pos he.2]
    rw [hRR, e1]
    exact ⟨rfl, hb⟩)
  rw [← hRR]
  obtain ⟨w9, hw9⟩ : ∃ w9, w9 = w := ⟨_, rfl⟩
  rw [← hw9] at HK HO
  have HB8 := Below.refl w9.heap.size w9
  suffices hgo : Calls Tryd.prog 42 #[.pointer (some ⟨X, 0, none⟩)] w9 RR by rw [hw9] at hgo; exact hgo
  have HLOW := Lib.hid (show Below w.heap.size w w9 by rw [hw9]; exact Below.refl _ _)
  clear hw9 hRR HB8
  obtain ⟨gg, oo, ha⟩ := out_some HO (by rw [h0]; simp)
  subst ha
  have hl : L.length = t.length + 1 := by rw [h0]; rfl
  have hb2 := b.toNat_lt
  have HB0 := Lib.hid (show L[0]? = some b by rw [h0]; rfl)
  have hbs : L.drop 1 = t := by rw [h0]; rfl
  have hcap : L.length ≤ c := by
    rcases HO.2 with ⟨e1, _⟩ | ⟨g', cap, cur, e1, _, _, hh, _⟩
    · cases e1
    · injection e1 with _ _ e1
      omega
  obtain ⟨o1, hO1⟩ : ∃ o1, (if c = 1 then 0 else 1) = o1 := ⟨_, rfl⟩
  have HQ1 := Lib.hid (show (if c = 1 then (some ⟨gg, oo, none⟩ : Option Addr) else some ⟨gg, oo + 1, none⟩) = some ⟨gg, oo + o1, none⟩ by rw [← hO1]; split <;> rfl)
  have hns := fun w9 (h : Out w9 w0.heap.size (.slice (some ⟨gg, oo, none⟩) L.length c) L) => conv_nats (P := Tryd.prog) w9 52 5 Tryd.underlying52 Tryd.underlying5 (some ⟨gg, oo + o1, none⟩) (c - 1) (((L.drop 1).take 5).map UInt8.toNat) (min L.length 6 - 1) (by rw [List.length_map, List.length_take, hbs]; omega) (by
    by_cases hc : c = 1
    · have ht : L.drop 1 = [] := List.drop_eq_nil_of_le (by omega)
      rw [ht]
      exact CellsA.nil _ _
    · have h3 := out_sub h 1 5
      rw [if_neg hc] at hO1
      rw [← hO1]
      exact h3) 9 Tryd.underlying9
  rw [strN_u8, hbs] at hns
  have HNS := Lib.hid hns
  have hRL := num_ReadLenG (bB (t.take 5))
  rw [bl_bB, lenR_take t 5 (by omega), hlr] at hRL
  have HRL := Lib.hid (show ∀ w9, Calls Tryd.prog 66 #[.string (bB (t.take 5))] w9 (fun e9 w8 => e9 = .returned (.tuple #[.int .i64 (n : Int), .int .i64 (u : Int), .int .i64 (e2 : Int)]) ∧ w9 = w8) from fun w9 => hRL w9)
  have hnu : n ≤ 268435455 ∧ u ≤ 4 := by
    by_cases he : e2 = 0
    · subst he
      have := lenR_inv hlr
      omega
    · have h1 := lenRf_zero 4 1 0 0 t (by show (lenR t).2.2 ≠ 0; rw [hlr]; exact he)
      have h2 : (lenR t).1 = 0 ∧ (lenR t).2.1 = 0 := h1
      rw [hlr] at h2
      simp only at h2
      omega
  clear hns hRL hO1
  skip
  go_enter Tryd.func42, Tryd.ntmps42
  refine wp_forget (n := 66) (L := [(0, .pointer (some ⟨X, 0, none⟩))]) (FrL.add (FrL.nil ?_ ?_) _ _ ?_) ?_
  iterate 3 rfl
  intro a9 F
  refine wp_seq ?_
  refine wp_region_lit ?_
  refine fr_ch F 2 [(3, .int .i64 0), (2, .int .i64 0)] (by kernel_rfl) ?_
  clear F a9
  intro a9 F
  refine wpList_nil ?_
  show Code.wp _ _ _ _ _
  replace F := F.cut [(3, .int .i64 0), (2, .int .i64 0), (0, .pointer (some ⟨X, 0, none⟩))] (by kernel_rfl)
  refine wp_seq ?_
  refine wp_seq ?_
  refine wp_region_lit ?_
  refine fr_ch F 3 [(10, .pointer (some ⟨X, 1, none⟩)), (9, .pointer (some ⟨X, 0, none⟩)), (8, .pointer (some ⟨X, 0, none⟩))] (by kernel_rfl) ?_
  clear F a9
  intro a9 F
  refine fr_do F (wanted_free rfl) 11 rfl (by decide) (.slice (some ⟨gg, oo, none⟩) L.length c) (by intro a' F'; have hc : w9.cell? ⟨X, 1, none⟩ = some (.slice (some ⟨gg, oo, none⟩) L.length c) := (HK.at 0 rfl).cells 1; have h10 := F'.at' 10 _ rfl; go_simp) ?_
  clear F a9
  intro a9 F
  refine fr_ch F 1 [(12, .int .i64 (L.length : Int))] (by kernel_rfl) ?_
  clear F a9
  intro a9 F
  refine fr_do F (wanted_free rfl) 13 rfl (by decide) (.bool false) (by intro a' F'; have h12 := F'.at' 12 _ rfl; go_simp <;> omega) ?_
  clear F a9
  intro a9 F
  refine wpList_nil ?_
  show Code.wp _ _ _ _ _
  refine wp_cond_false (F.ev 13 rfl) ?_
  refine wp_skip ?_
  show Code.wp _ _ _ _ _
  replace F := F.cut [(3, .int .i64 0), (2, .int .i64 0), (0, .pointer (some ⟨X, 0, none⟩))] (by kernel_rfl)
  refine wp_seq ?_
  refine wp_seq ?_
  refine wp_region_lit ?_
  refine fr_ch F 3 [(16, .pointer (some ⟨X, 1, none⟩)), (15, .pointer (some ⟨X, 0, none⟩)), (14, .pointer (some ⟨X, 0, none⟩))] (by kernel_rfl) ?_
  clear F a9
  intro a9 F
  refine fr_do F (wanted_free rfl) 17 rfl (by decide) (.slice (some ⟨gg, oo, none⟩) L.length c) (by intro a' F'; have hc : w9.cell? ⟨X, 1, none⟩ = some (.slice (some ⟨gg, oo, none⟩) L.length c) := (HK.at 0 rfl).cells 1; have h16 := F'.at' 16 _ rfl; go_simp) ?_
  clear F a9
  intro a9 F
  refine fr_do F (wanted_free rfl) 18 rfl (by decide) (.pointer (some ⟨gg, oo, none⟩)) (by intro a' F'; have h17 := F'.at' 17 _ rfl; go_simp) ?_
  clear F a9
  intro a9 F
  refine fr_do F (wanted_free rfl) 19 rfl (by decide) (.int .u8 (b.toNat : Int)) (by intro a' F'; have h18 := F'.at' 18 _ rfl; have hc := out_at HO 0 b HB0.out; rw [Nat.add_zero] at hc; go_simp) ?_
  clear F a9
  intro a9 F
  refine fr_call F (wanted_free rfl) 20 rfl (by decide) 65 #[.int .u8 (b.toNat : Int)] (by intro a' F'; have h19 := F'.at' 19 _ rfl; go_simp) (read_First b.toNat hb2 w9) ?_
  rintro e9 w8 ⟨rfl, rfl⟩
  rw [hfo]
  refine ⟨_, rfl, ?_⟩
  clear F a9
  intro a9 F
  refine fr_ch F 1 [(21, .bool false)] (by kernel_rfl) ?_
  clear F a9
  intro a9 F
  refine wpList_nil ?_
  show Code.wp _ _ _ _ _
  refine wp_cond_false (F.ev 21 rfl) ?_
  refine wp_skip ?_
  show Code.wp _ _ _ _ _
  replace F := F.cut [(3, .int .i64 0), (2, .int .i64 0), (0, .pointer (some ⟨X, 0, none⟩))] (by kernel_rfl)
  refine wp_seq ?_
  refine wp_region_noPanic ?_
  have hb8 : Below w9.heap.size w9 w9.drew := below_draws (n := 1) rfl
  replace HK := HK.below hb8
  replace HO := own_only HO (Only.of_below hb8 (fun _ => False)) (fun _ _ h => h)
  replace HLOW := Lib.hid (HLOW.out.trans (hb8.mono HLOW.out.size))
  clear hb8
  refine AnyT.begin (S := fun w' => BoxAt w' X (frV m (some ⟨gg, oo, none⟩) L.length c e) 54) (z := 1000) (by kernel_rfl) (HK.at 0 rfl) (fun hS0 => ?_)
  clear hS0
  generalize w9.drew = w8 at *
  clear w9
  rename World => w9
  refine fr_takeG (i := 0) (o := ⟨some 23, _, _, _, _, _⟩) F (HK.at 0 rfl) rfl (wanted_free rfl) 23 rfl (by decide) (.pointer (some ⟨X, 0, none⟩)) (fun w9 hS => (by intro a' F'; have h0 := F'.at' 0 _ rfl; go_simp)) ?_
  clear F a9
  intro a9 F
  refine fr_takeG (i := 1) (o := ⟨some 24, _, _, _, _, _⟩) F (HK.at 0 rfl) rfl (wanted_free rfl) 24 rfl (by decide) (.pointer (some ⟨X, 0, none⟩)) (fun w9 hS => (by intro a' F'; have h23 := F'.at' 23 _ rfl; go_simp)) ?_
  clear F a9
  intro a9 F
  refine fr_takeG (i := 2) (o := ⟨some 25, _, _, _, _, _⟩) F (HK.at 0 rfl) rfl (wanted_free rfl) 25 rfl (by decide) (.pointer (some ⟨X, 1, none⟩)) (fun w9 hS => (by intro a' F'; have h24 := F'.at' 24 _ rfl; go_simp)) ?_
  clear F a9
  intro a9 F
  refine fr_takeG (i := 3) (o := ⟨some 26, _, _, _, _, _⟩) F (HK.at 0 rfl) rfl (wanted_free rfl) 26 rfl (by decide) (.slice (some ⟨gg, oo, none⟩) L.length c) (fun w9 hS => (by intro a' F'; have hc : w9.cell? ⟨X, 1, none⟩ = some (.slice (some ⟨gg, oo, none⟩) L.length c) := (show BoxAt w9 X (frV m (some ⟨gg, oo, none⟩) L.length c e) 54 from hS).cells 1; have h25 := F'.at' 25 _ rfl; go_simp)) ?_
  clear F a9
  intro a9 F
  refine fr_takeG (i := 4) (o := ⟨some 27, _, _, _, _, _⟩) F (HK.at 0 rfl) rfl (wanted_free rfl) 27 rfl (by decide) (.pointer (some ⟨X, 0, none⟩)) (fun w9 hS => (by intro a' F'; have h0 := F'.at' 0 _ rfl; go_simp)) ?_
  clear F a9
  intro a9 F
  refine fr_takeG (i := 5) (o := ⟨some 28, _, _, _, _, _⟩) F (HK.at 0 rfl) rfl (wanted_free rfl) 28 rfl (by decide) (.pointer (some ⟨X, 0, none⟩)) (fun w9 hS => (by intro a' F'; have h27 := F'.at' 27 _ rfl; go_simp)) ?_
  clear F a9
  intro a9 F
  refine fr_takeG (i := 6) (o := ⟨some 29, _, _, _, _, _⟩) F (HK.at 0 rfl) rfl (wanted_free rfl) 29 rfl (by decide) (.pointer (some ⟨X, 1, none⟩)) (fun w9 hS => (by intro a' F'; have h28 := F'.at' 28 _ rfl; go_simp)) ?_
  clear F a9
  intro a9 F
  refine fr_takeG (i := 7) (o := ⟨some 30, _, _, _, _, _⟩) F (HK.at 0 rfl) rfl (wanted_free rfl) 30 rfl (by decide) (.slice (some ⟨gg, oo, none⟩) L.length c) (fun w9 hS => (by intro a' F'; have hc : w9.cell? ⟨X, 1, none⟩ = some (.slice (some ⟨gg, oo, none⟩) L.length c) := (show BoxAt w9 X (frV m (some ⟨gg, oo, none⟩) L.length c e) 54 from hS).cells 1; have h29 := F'.at' 29 _ rfl; go_simp)) ?_
  clear F a9
  intro a9 F
  refine fr_takeG (i := 8) (o := ⟨some 31, _, _, _, _, _⟩) F (HK.at 0 rfl) rfl (wanted_free rfl) 31 rfl (by decide) (.int .i64 (L.length : Int)) (fun w9 hS => (by intro a' F'; have h30 := F'.at' 30 _ rfl; go_simp)) ?_
  clear F a9
  intro a9 F
  refine fr_takeG (i := 9) (o := ⟨some 32, _, _, _, _, _⟩) F (HK.at 0 rfl) rfl (wanted_free rfl) 32 rfl (by decide) (.int .i64 ((min L.length 6 : Nat) : Int)) (fun w9 hS => (by intro a' F'; have h31 := F'.at' 31 _ rfl; go_simp <;> omega)) ?_
  clear F a9
  intro a9 F
  refine fr_takeG (i := 10) (o := ⟨some 33, _, _, _, _, _⟩) F (HK.at 0 rfl) rfl (wanted_free rfl) 33 rfl (by decide) (.slice (some ⟨gg, oo + o1, none⟩) (min L.length 6 - 1) (c - 1)) (fun w9 hS => (by intro a' F'; have h26 := F'.at' 26 _ rfl; have h32 := F'.at' 32 _ rfl; go_simp <;> (rw [if_pos (by omega), if_pos (by omega), HQ1.out]; done))) ?_
  clear F a9
  intro a9 F
  refine fr_step (i := 11) (o := ⟨some 34, _, _, _, _, _⟩) F rfl rfl 34 rfl (by decide) (.string (bB (t.take 5))) w9 (fun a' F' => run_conv 52 9 _ rfl _ _ (F'.ev 33 rfl) (HNS.out w9 HO)) (HK.at 0 rfl) ?_
  clear F a9
  intro a9 F
  refine fr_stepC (i := 12) (o := ⟨some 35, _, _, _, _, _⟩) F rfl (wanted_free rfl) 35 rfl (by decide) 66 #[.string (bB (t.take 5))] (by intro a' F'; have h34 := F'.at' 34 _ rfl; go_simp) (HRL.out w9) ?_
  rintro e9 w8 ⟨rfl, rfl⟩
  refine ⟨_, rfl, (HK.at 0 rfl), ?_⟩
  clear F a9
  intro a9 F
  refine fr_takeG (i := 13) (o := ⟨some 22, _, _, _, _, _⟩) F (HK.at 0 rfl) rfl (wanted_free rfl) 22 rfl (by decide) (.tuple #[.int .i64 (n : Int), .int .i64 (u : Int), .int .i64 (e2 : Int)]) (fun w9 hS => (by intro a' F'; have h35 := F'.at' 35 _ rfl; go_simp)) ?_
  clear F a9
  intro a9 F
  refine fr_takeG (i := 14) (o := ⟨some 36, _, _, _, _, _⟩) F (HK.at 0 rfl) rfl (wanted_free rfl) 36 rfl (by decide) (.int .i64 (n : Int)) (fun w9 hS => (by intro a' F'; have h22 := F'.at' 22 _ rfl; go_simp)) ?_
  clear F a9
  intro a9 F
  refine fr_takeG (i := 15) (o := ⟨some 37, _, _, _, _, _⟩) F (HK.at 0 rfl) rfl (wanted_free rfl) 37 rfl (by decide) (.int .i64 (u : Int)) (fun w9 hS => (by intro a' F'; have h22 := F'.at' 22 _ rfl; go_simp)) ?_
  clear F a9
  intro a9 F
  refine fr_takeG (i := 16) (o := ⟨some 38, _, _, _, _, _⟩) F (HK.at 0 rfl) rfl (wanted_free rfl) 38 rfl (by decide) (.int .i64 (e2 : Int)) (fun w9 hS => (by intro a' F'; have h22 := F'.at' 22 _ rfl; go_simp)) ?_
  clear F a9
  intro a9 F
  refine fr_takeG (i := 17) (o := ⟨some 4, _, _, _, _, _⟩) F (HK.at 0 rfl) rfl (wanted_free rfl) 4 rfl (by decide) (.int .i64 (n : Int)) (fun w9 hS => (by intro a' F'; have h36 := F'.at' 36 _ rfl; go_simp)) ?_
  clear F a9
  intro a9 F
  refine fr_takeG (i := 18) (o := ⟨some 5, _, _, _, _, _⟩) F (HK.at 0 rfl) rfl (wanted_free rfl) 5 rfl (by decide) (.int .i64 (u : Int)) (fun w9 hS => (by intro a' F'; have h37 := F'.at' 37 _ rfl; go_simp)) ?_
  clear F a9
  intro a9 F
  refine fr_takeG (i := 19) (o := ⟨some 6, _, _, _, _, _⟩) F (HK.at 0 rfl) rfl (wanted_free rfl) 6 rfl (by decide) (.int .i64 (e2 : Int)) (fun w9 hS => (by intro a' F'; have h38 := F'.at' 38 _ rfl; go_simp)) ?_
  clear F a9
  intro a9 F
  refine AnyT.done (by kernel_rfl) ?_ _
  refine NoPanic.normal ?_
  show Code.wp _ _ _ _ _
  replace F := F.cut [(6, .int .i64 (e2 : Int)), (5, .int .i64 (u : Int)), (4, .int .i64 (n : Int)), (3, .int .i64 0), (2, .int .i64 0), (0, .pointer (some ⟨X, 0, none⟩))] (by kernel_rfl)
  refine wp_seq ?_
  refine wp_region_lit ?_
  refine fr_ch F 1 [(39, .int .i64 (u : Int))] (by kernel_rfl) ?_
  clear F a9
  intro a9 F
  refine fr_do F (wanted_free rfl) 40 rfl (by decide) (.int .i64 ((1 + u : Nat) : Int)) (by intro a' F'; have h39 := F'.at' 39 _ rfl; go_simp <;> (rw [IntKind.wrap_i64]; omega)) ?_
  clear F a9
  intro a9 F
  refine fr_ch F 1 [(41, .int .i64 (n : Int))] (by kernel_rfl) ?_
  clear F a9
  intro a9 F
  refine fr_do F (wanted_free rfl) 42 rfl (by decide) (.int .i64 ((1 + u + n : Nat) : Int)) (by intro a' F'; have h40 := F'.at' 40 _ rfl; have h41 := F'.at' 41 _ rfl; go_simp <;> (rw [IntKind.wrap_i64]; omega)) ?_
  clear F a9
  intro a9 F
  refine fr_ch F 1 [(7, .int .i64 ((1 + u + n : Nat) : Int))] (by kernel_rfl) ?_
  clear F a9
  intro a9 F
  refine wpList_nil ?_
  show Code.wp _ _ _ _ _
  replace F := F.cut [(7, .int .i64 ((1 + u + n : Nat) : Int)), (6, .int .i64 (e2 : Int)), (5, .int .i64 (u : Int)), (4, .int .i64 (n : Int)), (3, .int .i64 0), (2, .int .i64 0), (0, .pointer (some ⟨X, 0, none⟩))] (by kernel_rfl)
  refine wp_seq ?_
  refine wp_block ?_
  refine wp_seq ?_
  refine wp_region_lit ?_
  refine fr_ch F 1 [(44, .int .i64 (e2 : Int))] (by kernel_rfl) ?_
  clear F a9
  intro a9 F
  refine fr_do F (wanted_free rfl) 45 rfl (by decide) (.bool false) (by intro a' F'; have h44 := F'.at' 44 _ rfl; go_simp <;> omega) ?_
  clear F a9
  intro a9 F
  refine fr_ch F 1 [(43, .bool false)] (by kernel_rfl) ?_
  clear F a9
  intro a9 F
  refine wpList_nil ?_
  show Code.wp _ _ _ _ _
  refine wp_cond_false (F.ev 43 rfl) ?_
  refine wp_seq ?_
  refine wp_region_lit ?_
  refine fr_ch F 1 [(47, .int .i64 (e2 : Int))] (by kernel_rfl) ?_
  clear F a9
  intro a9 F
  refine fr_do F (wanted_free rfl) 48 rfl (by decide) (.bool true) (by intro a' F'; have h47 := F'.at' 47 _ rfl; go_simp) ?_
  clear F a9
  intro a9 F
  refine fr_ch F 1 [(46, .bool true)] (by kernel_rfl) ?_
  clear F a9
  intro a9 F
  refine wpList_nil ?_
  show Code.wp _ _ _ _ _
  refine wp_cond_true (F.ev 46 rfl) ?_
  refine wp_seq ?_
  refine wp_region_lit ?_
  refine fr_ch F 3 [(3, .int .i64 (e2 : Int)), (2, .int .i64 0), (49, .int .i64 (e2 : Int))] (by kernel_rfl) ?_
  clear F a9
  intro a9 F
  refine wpList_nil ?_
  show Code.wp _ _ _ _ _
  refine wp_ret ?_
  exact fr_ret2 F rfl _ _ rfl rfl (FIN.out _ HLOW.out)
set_option maxRecDepth 100000 in
set_option maxHeartbeats 4000000 in
theorem whole_long {w0 w : World} {B : List Box} {X m e : Nat} {L : Bs} (h : FrC w0 B X m L e w) (hL : L.length ≤ 90000000) (b : UInt8) (t : Bs) (h0 : L = b :: t) (hfo : firstOk b.toNat = true) (n u e2 : Nat) (hlr : lenR t = (n, u, e2)) (he : e2 = 0 ∧ m < 1 + u + n) : Calls Tryd.prog 42 #[.pointer (some ⟨X, 0, none⟩)] w fun r w' => r = .returned (.tuple #[.int .i64 ((wholeR m L).1 : Int), .int .i64 ((wholeR m L).2 : Int)]) ∧ Below w.heap.size w w' := by
  obtain ⟨a, c, HK, HO⟩ := h
  obtain ⟨RR, hRR⟩ : ∃ RR : Ending → World → Prop, RR = fun r w' => r = .returned (.tuple #[.int .i64 ((wholeR m L).1 : Int), .int .i64 ((wholeR m L).2 : Int)]) ∧ Below w.heap.size w w' := ⟨_, rfl⟩
  have FIN := Lib.hid (show ∀ w', Below w.heap.size w w' → RR (.returned (.tuple #[.int .i64 ((0 : Nat)), .int .i64 ((3 : Nat))])) w' from fun w' hb => by
    have e1 : wholeR m L = (0, 3) := by rw [h0]; simp only [wholeR]; rw [if_neg (by rw [hfo]; decide), hlr]; simp only; rw [he.1]; simp only [if_neg (by decide : ¬ (0 : Nat) = 2), ne_eq, not_true_eq_false, if_false]; rw [if_pos he.2]
    rw [hRR, e1]
    exact ⟨rfl, hb⟩)
  rw [← hRR]
  obtain ⟨w9, hw9⟩ : ∃ w9, w9 = w := ⟨_, rfl⟩
  rw [← hw9] at HK HO
  have HB8 := Below.refl w9.heap.size w9
  suffices hgo : Calls Tryd.prog 42 #[.pointer (some ⟨X, 0, none⟩)] w9 RR by rw [hw9] at hgo; exact hgo
  have HLOW := Lib.hid (show Below w.heap.size w w9 by rw [hw9]; exact Below.refl _ _)
  clear hw9 hRR HB8
  obtain ⟨gg, oo, ha⟩ := out_some HO (by rw [h0]; simp)
  subst ha
  have hl : L.length = t.length + 1 := by rw [h0]; rfl
  have hb2 := b.toNat_lt
  have HB0 := Lib.hid (show L[0]? = some b by rw [h0]; rfl)
  have hbs : L.drop 1 = t := by rw [h0]; rfl
  have hcap : L.length ≤ c := by
    rcases HO.2 with ⟨e1, _⟩ | ⟨g', cap, cur, e1, _, _, hh, _⟩
    · cases e1
    · injection e1 with _ _ e1
      omega
  obtain ⟨o1, hO1⟩ : ∃ o1, (if c = 1 then 0 else 1) = o1 := ⟨_, rfl⟩
  have HQ1 := Lib.hid (show (if c = 1 then (some ⟨gg, oo, none⟩ : Option Addr) else some ⟨gg, oo + 1, none⟩) = some ⟨gg, oo + o1, none⟩ by rw [← hO1]; split <;> rfl)
  have hns := fun w9 (h : Out w9 w0.heap.size (.slice (some ⟨gg, oo, none⟩) L.length c) L) => conv_nats (P := Tryd.prog) w9 52 5 Tryd.underlying52 Tryd.underlying5 (some ⟨gg, oo + o1, none⟩) (c - 1) (((L.drop 1).take 5).map UInt8.toNat) (min L.length 6 - 1) (by rw [List.length_map, List.length_take, hbs]; omega) (by
    by_cases hc : c = 1
    · have ht : L.drop 1 = [] := List.drop_eq_nil_of_le (by omega)
      rw [ht]
      exact CellsA.nil _ _
    · have h3 := out_sub h 1 5
      rw [if_neg hc] at hO1
      rw [← hO1]
      exact h3) 9 Tryd.underlying9
  rw [strN_u8, hbs] at hns
  have HNS := Lib.hid hns
  have hRL := num_ReadLenG (bB (t.take 5))
  rw [bl_bB, lenR_take t 5 (by omega), hlr] at hRL
  have HRL := Lib.hid (show ∀ w9, Calls Tryd.prog 66 #[.string (bB (t.take 5))] w9 (fun e9 w8 => e9 = .returned (.tuple #[.int .i64 (n : Int), .int .i64 (u : Int), .int .i64 (e2 : Int)]) ∧ w9 = w8) from fun w9 => hRL w9)
  have hnu : n ≤ 268435455 ∧ u ≤ 4 := by
    by_cases he : e2 = 0
    · subst he
      have := lenR_inv hlr
      omega
    · have h1 := lenRf_zero 4 1 0 0 t (by show (lenR t).2.2 ≠ 0; rw [hlr]; exact he)
      have h2 : (lenR t).1 = 0 ∧ (lenR t).2.1 = 0 := h1
      rw [hlr] at h2
      simp only at h2
      omega
  clear hns hRL hO1
  skip
  go_enter Tryd.func42, Tryd.ntmps42
  refine wp_forget (n := 66) (L := [(0, .pointer (some ⟨X, 0, none⟩))]) (FrL.add (FrL.nil ?_ ?_) _ _ ?_) ?_
  iterate 3 rfl
  intro a9 F
  refine wp_seq ?_
  refine wp_region_lit ?_
  refine fr_ch F 2 [(3, .int .i64 0), (2, .int .i64 0)] (by kernel_rfl) ?_
  clear F a9
  intro a9 F
  refine wpList_nil ?_
  show Code.wp _ _ _ _ _
  replace F := F.cut [(3, .int .i64 0), (2, .int .i64 0), (0, .pointer (some ⟨X, 0, none⟩))] (by kernel_rfl)
  refine wp_seq ?_
  refine wp_seq ?_
  refine wp_region_lit ?_
  refine fr_ch F 3 [(10, .pointer (some ⟨X, 1, none⟩)), (9, .pointer (some ⟨X, 0, none⟩)), (8, .pointer (some ⟨X, 0, none⟩))] (by kernel_rfl) ?_
  clear F a9
  intro a9 F
  refine fr_do F (wanted_free rfl) 11 rfl (by decide) (.slice (some ⟨gg, oo, none⟩) L.length c) (by intro a' F'; have hc : w9.cell? ⟨X, 1, none⟩ = some (.slice (some ⟨gg, oo, none⟩) L.length c) := (HK.at 0 rfl).cells 1; have h10 := F'.at' 10 _ rfl; go_simp) ?_
  clear F a9
  intro a9 F
  refine fr_ch F 1 [(12, .int .i64 (L.length : Int))] (by kernel_rfl) ?_
  clear F a9
  intro a9 F
  refine fr_do F (wanted_free rfl) 13 rfl (by decide) (.bool false) (by intro a' F'; have h12 := F'.at' 12 _ rfl; go_simp <;> omega) ?_
  clear F a9
  intro a9 F
  refine wpList_nil ?_
  show Code.wp _ _ _ _ _
  refine wp_cond_false (F.ev 13 rfl) ?_
  refine wp_skip ?_
  show Code.wp _ _ _ _ _
  replace F := F.cut [(3, .int .i64 0), (2, .int .i64 0), (0, .pointer (some ⟨X, 0, none⟩))] (by kernel_rfl)
  refine wp_seq ?_
  refine wp_seq ?_
  refine wp_region_lit ?_
  refine fr_ch F 3 [(16, .pointer (some ⟨X, 1, none⟩)), (15, .pointer (some ⟨X, 0, none⟩)), (14, .pointer (some ⟨X, 0, none⟩))] (by kernel_rfl) ?_
  clear F a9
  intro a9 F
  refine fr_do F (wanted_free rfl) 17 rfl (by decide) (.slice (some ⟨gg, oo, none⟩) L.length c) (by intro a' F'; have hc : w9.cell? ⟨X, 1, none⟩ = some (.slice (some ⟨gg, oo, none⟩) L.length c) := (HK.at 0 rfl).cells 1; have h16 := F'.at' 16 _ rfl; go_simp) ?_
  clear F a9
  intro a9 F
  refine fr_do F (wanted_free rfl) 18 rfl (by decide) (.pointer (some ⟨gg, oo, none⟩)) (by intro a' F'; have h17 := F'.at' 17 _ rfl; go_simp) ?_
  clear F a9
  intro a9 F
  refine fr_do F (wanted_free rfl) 19 rfl (by decide) (.int .u8 (b.toNat : Int)) (by intro a' F'; have h18 := F'.at' 18 _ rfl; have hc := out_at HO 0 b HB0.out; rw [Nat.add_zero] at hc; go_simp) ?_
  clear F a9
  intro a9 F
  refine fr_call F (wanted_free rfl) 20 rfl (by decide) 65 #[.int .u8 (b.toNat : Int)] (by intro a' F'; have h19 := F'.at' 19 _ rfl; go_simp) (read_First b.toNat hb2 w9) ?_
  rintro e9 w8 ⟨rfl, rfl⟩
  rw [hfo]
  refine ⟨_, rfl, ?_⟩
  clear F a9
  intro a9 F
  refine fr_ch F 1 [(21, .bool false)] (by kernel_rfl) ?_
  clear F a9
  intro a9 F
  refine wpList_nil ?_
  show Code.wp _ _ _ _ _
  refine wp_cond_false (F.ev 21 rfl) ?_
  refine wp_skip ?_
  show Code.wp _ _ _ _ _
  replace F := F.cut [(3, .int .i64 0), (2, .int .i64 0), (0, .pointer (some ⟨X, 0, none⟩))] (by kernel_rfl)
  refine wp_seq ?_
  refine wp_region_noPanic ?_
  have hb8 : Below w9.heap.size w9 w9.drew := below_draws (n := 1) rfl
  replace HK := HK.below hb8
  replace HO := own_only HO (Only.of_below hb8 (fun _ => False)) (fun _ _ h => h)
  replace HLOW := Lib.hid (HLOW.out.trans (hb8.mono HLOW.out.size))
  clear hb8
  refine AnyT.begin (S := fun w' => BoxAt w' X (frV m (some ⟨gg, oo, none⟩) L.length c e) 54) (z := 1000) (by kernel_rfl) (HK.at 0 rfl) (fun hS0 => ?_)
  clear hS0
  generalize w9.drew = w8 at *
  clear w9
  rename World => w9
  refine fr_takeG (i := 0) (o := ⟨some 23, _, _, _, _, _⟩) F (HK.at 0 rfl) rfl (wanted_free rfl) 23 rfl (by decide) (.pointer (some ⟨X, 0, none⟩)) (fun w9 hS => (by intro a' F'; have h0 := F'.at' 0 _ rfl; go_simp)) ?_
  clear F a9
  intro a9 F
  refine fr_takeG (i := 1) (o := ⟨some 24, _, _, _, _, _⟩) F (HK.at 0 rfl) rfl (wanted_free rfl) 24 rfl (by decide) (.pointer (some ⟨X, 0, none⟩)) (fun w9 hS => (by intro a' F'; have h23 := F'.at' 23 _ rfl; go_simp)) ?_
  clear F a9
  intro a9 F
  refine fr_takeG (i := 2) (o := ⟨some 25, _, _, _, _, _⟩) F (HK.at 0 rfl) rfl (wanted_free rfl) 25 rfl (by decide) (.pointer (some ⟨X, 1, none⟩)) (fun w9 hS => (by intro a' F'; have h24 := F'.at' 24 _ rfl; go_simp)) ?_
  clear F a9
  intro a9 F
  refine fr_takeG (i := 3) (o := ⟨some 26, _, _, _, _, _⟩) F (HK.at 0 rfl) rfl (wanted_free rfl) 26 rfl (by decide) (.slice (some ⟨gg, oo, none⟩) L.length c) (fun w9 hS => (by intro a' F'; have hc : w9.cell? ⟨X, 1, none⟩ = some (.slice (some ⟨gg, oo, none⟩) L.length c) := (show BoxAt w9 X (frV m (some ⟨gg, oo, none⟩) L.length c e) 54 from hS).cells 1; have h25 := F'.at' 25 _ rfl; go_simp)) ?_
  clear F a9
  intro a9 F
  refine fr_takeG (i := 4) (o := ⟨some 27, _, _, _, _, _⟩) F (HK.at 0 rfl) rfl (wanted_free rfl) 27 rfl (by decide) (.pointer (some ⟨X, 0, none⟩)) (fun w9 hS => (by intro a' F'; have h0 := F'.at' 0 _ rfl; go_simp)) ?_
  clear F a9
  intro a9 F
  refine fr_takeG (i := 5) (o := ⟨some 28, _, _, _, _, _⟩) F (HK.at 0 rfl) rfl (wanted_free rfl) 28 rfl (by decide) (.pointer (some ⟨X, 0, none⟩)) (fun w9 hS => (by intro a' F'; have h27 := F'.at' 27 _ rfl; go_simp)) ?_
  clear F a9
  intro a9 F
  refine fr_takeG (i := 6) (o := ⟨some 29, _, _, _, _, _⟩) F (HK.at 0 rfl) rfl (wanted_free rfl) 29 rfl (by decide) (.pointer (some ⟨X, 1, none⟩)) (fun w9 hS => (by intro a' F'; have h28 := F'.at' 28 _ rfl; go_simp)) ?_
  clear F a9
  intro a9 F
  refine fr_takeG (i := 7) (o := ⟨some 30, _, _, _, _, _⟩) F (HK.at 0 rfl) rfl (wanted_free rfl) 30 rfl (by decide) (.slice (some ⟨gg, oo, none⟩) L.length c) (fun w9 hS => (by intro a' F'; have hc : w9.cell? ⟨X, 1, none⟩ = some (.slice (some ⟨gg, oo, none⟩) L.length c) := (show BoxAt w9 X (frV m (some ⟨gg, oo, none⟩) L.length c e) 54 from hS).cells 1; have h29 := F'.at' 29 _ rfl; go_simp)) ?_
  clear F a9
  intro a9 F
  refine fr_takeG (i := 8) (o := ⟨some 31, _, _, _, _, _⟩) F (HK.at 0 rfl) rfl (wanted_free rfl) 31 rfl (by decide) (.int .i64 (L.length : Int)) (fun w9 hS => (by intro a' F'; have h30 := F'.at' 30 _ rfl; go_simp)) ?_
  clear F a9
  intro a9 F
  refine fr_takeG (i := 9) (o := ⟨some 32, _, _, _, _, _⟩) F (HK.at 0 rfl) rfl (wanted_free rfl) 32 rfl (by decide) (.int .i64 ((min L.length 6 : Nat) : Int)) (fun w9 hS => (by intro a' F'; have h31 := F'.at' 31 _ rfl; go_simp <;> omega)) ?_
  clear F a9
  intro a9 F
  refine fr_takeG (i := 10) (o := ⟨some 33, _, _, _, _, _⟩) F (HK.at 0 rfl) rfl (wanted_free rfl) 33 rfl (by decide) (.slice (some ⟨gg, oo + o1, none⟩) (min L.length 6 - 1) (c - 1)) (fun w9 hS => (by intro a' F'; have h26 := F'.at' 26 _ rfl; have h32 := F'.at' 32 _ rfl; go_simp <;> (rw [if_pos (by omega), if_pos (by omega), HQ1.out]; done))) ?_
  clear F a9
  intro a9 F
  refine fr_step (i := 11) (o := ⟨some 34, _, _, _, _, _⟩) F rfl rfl 34 rfl (by decide) (.string (bB (t.take 5))) w9 (fun a' F' => run_conv 52 9 _ rfl _ _ (F'.ev 33 rfl) (HNS.out w9 HO)) (HK.at 0 rfl) ?_
  clear F a9
  intro a9 F
  refine fr_stepC (i := 12) (o := ⟨some 35, _, _, _, _, _⟩) F rfl (wanted_free rfl) 35 rfl (by decide) 66 #[.string (bB (t.take 5))] (by intro a' F'; have h34 := F'.at' 34 _ rfl; go_simp) (HRL.out w9) ?_
  rintro e9 w8 ⟨rfl, rfl⟩
  refine ⟨_, rfl, (HK.at 0 rfl), ?_⟩
  clear F a9
  intro a9 F
  refine fr_takeG (i := 13) (o := ⟨some 22, _, _, _, _, _⟩) F (HK.at 0 rfl) rfl (wanted_free rfl) 22 rfl (by decide) (.tuple #[.int .i64 (n : Int), .int .i64 (u : Int), .int .i64 (e2 : Int)]) (fun w9 hS => (by intro a' F'; have h35 := F'.at' 35 _ rfl; go_simp)) ?_
  clear F a9
  intro a9 F
  refine fr_takeG (i := 14) (o := ⟨some 36, _, _, _, _, _⟩) F (HK.at 0 rfl) rfl (wanted_free rfl) 36 rfl (by decide) (.int .i64 (n : Int)) (fun w9 hS => (by intro a' F'; have h22 := F'.at' 22 _ rfl; go_simp)) ?_
  clear F a9
  intro a9 F
  refine fr_takeG (i := 15) (o := ⟨some 37, _, _, _, _, _⟩) F (HK.at 0 rfl) rfl (wanted_free rfl) 37 rfl (by decide) (.int .i64 (u : Int)) (fun w9 hS => (by intro a' F'; have h22 := F'.at' 22 _ rfl; go_simp)) ?_
  clear F a9
  intro a9 F
  refine fr_takeG (i := 16) (o := ⟨some 38, _, _, _, _, _⟩) F (HK.at 0 rfl) rfl (wanted_free rfl) 38 rfl (by decide) (.int .i64 (e2 : Int)) (fun w9 hS => (by intro a' F'; have h22 := F'.at' 22 _ rfl; go_simp)) ?_
  clear F a9
  intro a9 F
  refine fr_takeG (i := 17) (o := ⟨some 4, _, _, _, _, _⟩) F (HK.at 0 rfl) rfl (wanted_free rfl) 4 rfl (by decide) (.int .i64 (n : Int)) (fun w9 hS => (by intro a' F'; have h36 := F'.at' 36 _ rfl; go_simp)) ?_
  clear F a9
  intro a9 F
  refine fr_takeG (i := 18) (o := ⟨some 5, _, _, _, _, _⟩) F (HK.at 0 rfl) rfl (wanted_free rfl) 5 rfl (by decide) (.int .i64 (u : Int)) (fun w9 hS => (by intro a' F'; have h37 := F'.at' 37 _ rfl; go_simp)) ?_
  clear F a9
  intro a9 F
  refine fr_takeG (i := 19) (o := ⟨some 6, _, _, _, _, _⟩) F (HK.at 0 rfl) rfl (wanted_free rfl) 6 rfl (by decide) (.int .i64 (e2 : Int)) (fun w9 hS => (by intro a' F'; have h38 := F'.at' 38 _ rfl; go_simp)) ?_
  clear F a9
  intro a9 F
  refine AnyT.done (by kernel_rfl) ?_ _
  refine NoPanic.normal ?_
  show Code.wp _ _ _ _ _
  replace F := F.cut [(6, .int .i64 (e2 : Int)), (5, .int .i64 (u : Int)), (4, .int .i64 (n : Int)), (3, .int .i64 0), (2, .int .i64 0), (0, .pointer (some ⟨X, 0, none⟩))] (by kernel_rfl)
  refine wp_seq ?_
  refine wp_region_lit ?_
  refine fr_ch F 1 [(39, .int .i64 (u : Int))] (by kernel_rfl) ?_
  clear F a9
  intro a9 F
  refine fr_do F (wanted_free rfl) 40 rfl (by decide) (.int .i64 ((1 + u : Nat) : Int)) (by intro a' F'; have h39 := F'.at' 39 _ rfl; go_simp <;> (rw [IntKind.wrap_i64]; omega)) ?_
  clear F a9
  intro a9 F
  refine fr_ch F 1 [(41, .int .i64 (n : Int))] (by kernel_rfl) ?_
  clear F a9
  intro a9 F
  refine fr_do F (wanted_free rfl) 42 rfl (by decide) (.int .i64 ((1 + u + n : Nat) : Int)) (by intro a' F'; have h40 := F'.at' 40 _ rfl; have h41 := F'.at' 41 _ rfl; go_simp <;> (rw [IntKind.wrap_i64]; omega)) ?_
  clear F a9
  intro a9 F
  refine fr_ch F 1 [(7, .int .i64 ((1 + u + n : Nat) : Int))] (by kernel_rfl) ?_
  clear F a9
  intro a9 F
  refine wpList_nil ?_
  show Code.wp _ _ _ _ _
  replace F := F.cut [(7, .int .i64 ((1 + u + n : Nat) : Int)), (6, .int .i64 (e2 : Int)), (5, .int .i64 (u : Int)), (4, .int .i64 (n : Int)), (3, .int .i64 0), (2, .int .i64 0), (0, .pointer (some ⟨X, 0, none⟩))] (by kernel_rfl)
  refine wp_seq ?_
  refine wp_block ?_
  refine wp_seq ?_
  refine wp_region_lit ?_
  refine fr_ch F 1 [(44, .int .i64 (e2 : Int))] (by kernel_rfl) ?_
  clear F a9
  intro a9 F
  refine fr_do F (wanted_free rfl) 45 rfl (by decide) (.bool false) (by intro a' F'; have h44 := F'.at' 44 _ rfl; go_simp) ?_
  clear F a9
  intro a9 F
  refine fr_ch F 1 [(43, .bool false)] (by kernel_rfl) ?_
  clear F a9
  intro a9 F
  refine wpList_nil ?_
  show Code.wp _ _ _ _ _
  refine wp_cond_false (F.ev 43 rfl) ?_
  refine wp_seq ?_
  refine wp_region_lit ?_
  refine fr_ch F 1 [(47, .int .i64 (e2 : Int))] (by kernel_rfl) ?_
  clear F a9
  intro a9 F
  refine fr_do F (wanted_free rfl) 48 rfl (by decide) (.bool false) (by intro a' F'; have h47 := F'.at' 47 _ rfl; go_simp) ?_
  clear F a9
  intro a9 F
  refine fr_ch F 1 [(46, .bool false)] (by kernel_rfl) ?_
  clear F a9
  intro a9 F
  refine wpList_nil ?_
  show Code.wp _ _ _ _ _
  refine wp_cond_false (F.ev 46 rfl) ?_
  refine wp_seq ?_
  refine wp_region_lit ?_
  refine fr_ch F 4 [(54, .pointer (some ⟨X, 0, none⟩)), (53, .pointer (some ⟨X, 0, none⟩)), (52, .pointer (some ⟨X, 0, none⟩)), (51, .int .i64 ((1 + u + n : Nat) : Int))] (by kernel_rfl) ?_
  clear F a9
  intro a9 F
  refine fr_do F (wanted_free rfl) 55 rfl (by decide) (.int .i64 (m : Int)) (by intro a' F'; have hc : w9.cell? ⟨X, 0, none⟩ = some (.int .i64 (m : Int)) := (HK.at 0 rfl).cells 0; have h54 := F'.at' 54 _ rfl; go_simp) ?_
  clear F a9
  intro a9 F
  refine fr_do F (wanted_free rfl) 56 rfl (by decide) (.bool true) (by intro a' F'; have h51 := F'.at' 51 _ rfl; have h55 := F'.at' 55 _ rfl; go_simp <;> omega) ?_
  clear F a9
  intro a9 F
  refine fr_ch F 1 [(50, .bool true)] (by kernel_rfl) ?_
  clear F a9
  intro a9 F
  refine wpList_nil ?_
  show Code.wp _ _ _ _ _
  refine wp_cond_true (F.ev 50 rfl) ?_
  refine wp_seq ?_
  refine wp_region_lit ?_
  refine fr_ch F 2 [(3, .int .i64 3), (2, .int .i64 0)] (by kernel_rfl) ?_
  clear F a9
  intro a9 F
  refine wpList_nil ?_
  show Code.wp _ _ _ _ _
  refine wp_ret ?_
  exact fr_ret2 F rfl _ _ rfl rfl (FIN.out _ HLOW.out)
set_option maxRecDepth 100000 in
set_option maxHeartbeats 4000000 in
theorem whole_wait {w0 w : World} {B : List Box} {X m e : Nat} {L : Bs} (h : FrC w0 B X m L e w) (hL : L.length ≤ 90000000) (b : UInt8) (t : Bs) (h0 : L = b :: t) (hfo : firstOk b.toNat = true) (n u e2 : Nat) (hlr : lenR t = (n, u, e2)) (he : e2 = 0 ∧ ¬ m < 1 + u + n ∧ t.length + 1 < 1 + u + n) : Calls Tryd.prog 42 #[.pointer (some ⟨X, 0, none⟩)] w fun r w' => r = .returned (.tuple #[.int .i64 ((wholeR m L).1 : Int), .int .i64 ((wholeR m L).2 : Int)]) ∧ Below w.heap.size w w' := by
  obtain ⟨a, c, HK, HO⟩ := h
  obtain ⟨RR, hRR⟩ : ∃ RR : Ending → World → Prop, RR = fun r w' => r = .returned (.tuple #[.int .i64 ((wholeR m L).1 : Int), .int .i64 ((wholeR m L).2 : Int)]) ∧ Below w.heap.size w w' := ⟨_, rfl⟩
  have FIN := Lib.hid (show ∀ w', Below w.heap.size w w' → RR (.returned (.tuple #[.int .i64 ((0 : Nat)), .int .i64 ((0 : Nat))])) w' from fun w' hb => by
    have e1 : wholeR m L = (0, 0) := by rw [h0]; simp only [wholeR]; rw [if_neg (by rw [hfo]; decide), hlr]; simp only; rw [he.1]; simp only [if_neg (by decide : ¬ (0 : Nat) = 2), ne_eq, not_true_eq_false, if_false]; rw [if_neg he.2.1, if_pos he.2.2]
    rw [hRR, e1]
    exact ⟨rfl, hb⟩)
  rw [← hRR]
  obtain ⟨w9, hw9⟩ : ∃ w9, w9 = w := ⟨_, rfl⟩
  rw [← hw9] at HK HO
  have HB8 := Below.refl w9.heap.size w9
  suffices hgo : Calls Tryd.prog 42 #[.pointer (some ⟨X, 0, none⟩)] w9 RR by rw [hw9] at hgo; exact hgo
  have HLOW := Lib.hid (show Below w.heap.size w w9 by rw [hw9]; exact Below.refl _ _)
  clear hw9 hRR HB8
  obtain ⟨gg, oo, ha⟩ := out_some HO (by rw [h0]; simp)
  subst ha
  have hl : L.length = t.length + 1 := by rw [h0]; rfl
  have hb2 := b.toNat_lt
  have HB0 := Lib.hid (show L[0]? = some b by rw [h0]; rfl)
  have hbs : L.drop 1 = t := by rw [h0]; rfl
  have hcap : L.length ≤ c := by
    rcases HO.2 with ⟨e1, _⟩ | ⟨g', cap, cur, e1, _, _, hh, _⟩
    · cases e1
    · injection e1 with _ _ e1
      omega
  obtain ⟨o1, hO1⟩ : ∃ o1, (if c = 1 then 0 else 1) = o1 := ⟨_, rfl⟩
  have HQ1 := Lib.hid (show (if c = 1 then (some ⟨gg, oo, none⟩ : Option Addr) else some ⟨gg, oo + 1, none⟩) = some ⟨gg, oo + o1, none⟩ by rw [← hO1]; split <;> rfl)
  have hns := fun w9 (h : Out w9 w0.heap.size (.slice (some ⟨gg, oo, none⟩) L.length c) L) => conv_nats (P := Tryd.prog) w9 52 5 Tryd.underlying52 Tryd.underlying5 (some ⟨gg, oo + o1, none⟩) (c - 1) (((L.drop 1).take 5).map UInt8.toNat) (min L.length 6 - 1) (by rw [List.length_map, List.length_take, hbs]; omega) (by
    by_cases hc : c = 1
    · have ht : L.drop 1 = [] := List.drop_eq_nil_of_le (by omega)
      rw [ht]
      exact CellsA.nil _ _
    · have h3 := out_sub h 1 5
      rw [if_neg hc] at hO1
      rw [← hO1]
      exact h3) 9 Tryd.underlying9
  rw [strN_u8, hbs] at hns
  have HNS := Lib.hid hns
  have hRL := num_ReadLenG (bB (t.take 5))
  rw [bl_bB, lenR_take t 5 (by omega), hlr] at hRL
  have HRL := Lib.hid (show ∀ w9, Calls Tryd.prog 66 #[.string (bB (t.take 5))] w9 (fun e9 w8 => e9 = .returned (.tuple #[.int .i64 (n : Int), .int .i64 (u : Int), .int .i64 (e2 : Int)]) ∧ w9 = w8) from fun w9 => hRL w9)
  have hnu : n ≤ 268435455 ∧ u ≤ 4 := by
    by_cases he : e2 = 0
    · subst he
      have := lenR_inv hlr
      omega
    · have h1 := lenRf_zero 4 1 0 0 t (by show (lenR t).2.2 ≠ 0; rw [hlr]; exact he)
      have h2 : (lenR t).1 = 0 ∧ (lenR t).2.1 = 0 := h1
      rw [hlr] at h2
      simp only at h2
      omega
  clear hns hRL hO1
  skip
  go_enter Tryd.func42, Tryd.ntmps42
  refine wp_forget (n := 66) (L := [(0, .pointer (some ⟨X, 0, none⟩))]) (FrL.add (FrL.nil ?_ ?_) _ _ ?_) ?_
  iterate 3 rfl
  intro a9 F
  refine wp_seq ?_
  refine wp_region_lit ?_
  refine fr_ch F 2 [(3, .int .i64 0), (2, .int .i64 0)] (by kernel_rfl) ?_
  clear F a9
  intro a9 F
  refine wpList_nil ?_
  show Code.wp _ _ _ _ _
  replace F := F.cut [(3, .int .i64 0), (2, .int .i64 0), (0, .pointer (some ⟨X, 0, none⟩))] (by kernel_rfl)
  refine wp_seq ?_
  refine wp_seq ?_
  refine wp_region_lit ?_
  refine fr_ch F 3 [(10, .pointer (some ⟨X, 1, none⟩)), (9, .pointer (some ⟨X, 0, none⟩)), (8, .pointer (some ⟨X, 0, none⟩))] (by kernel_rfl) ?_
  clear F a9
  intro a9 F
  refine fr_do F (wanted_free rfl) 11 rfl (by decide) (.slice (some ⟨gg, oo, none⟩) L.length c) (by intro a' F'; have hc : w9.cell? ⟨X, 1, none⟩ = some (.slice (some ⟨gg, oo, none⟩) L.length c) := (HK.at 0 rfl).cells 1; have h10 := F'.at' 10 _ rfl; go_simp) ?_
  clear F a9
  intro a9 F
  refine fr_ch F 1 [(12, .int .i64 (L.length : Int))] (by kernel_rfl) ?_
  clear F a9
  intro a9 F
  refine fr_do F (wanted_free rfl) 13 rfl (by decide) (.bool false) (by intro a' F'; have h12 := F'.at' 12 _ rfl; go_simp <;> omega) ?_
  clear F a9
  intro a9 F
  refine wpList_nil ?_
  show Code.wp _ _ _ _ _
  refine wp_cond_false (F.ev 13 rfl) ?_
  refine wp_skip ?_
  show Code.wp _ _ _ _ _
  replace F := F.cut [(3, .int .i64 0), (2, .int .i64 0), (0, .pointer (some ⟨X, 0, none⟩))] (by kernel_rfl)
  refine wp_seq ?_
  refine wp_seq ?_
  refine wp_region_lit ?_
  refine fr_ch F 3 [(16, .pointer (some ⟨X, 1, none⟩)), (15, .pointer (some ⟨X, 0, none⟩)), (14, .pointer (some ⟨X, 0, none⟩))] (by kernel_rfl) ?_
  clear F a9
  intro a9 F
  refine fr_do F (wanted_free rfl) 17 rfl (by decide) (.slice (some ⟨gg, oo, none⟩) L.length c) (by intro a' F'; have hc : w9.cell? ⟨X, 1, none⟩ = some (.slice (some ⟨gg, oo, none⟩) L.length c) := (HK.at 0 rfl).cells 1; have h16 := F'.at' 16 _ rfl; go_simp) ?_
  clear F a9
  intro a9 F
  refine fr_do F (wanted_free rfl) 18 rfl (by decide) (.pointer (some ⟨gg, oo, none⟩)) (by intro a' F'; have h17 := F'.at' 17 _ rfl; go_simp) ?_
  clear F a9
  intro a9 F
  refine fr_do F (wanted_free rfl) 19 rfl (by decide) (.int .u8 (b.toNat : Int)) (by intro a' F'; have h18 := F'.at' 18 _ rfl; have hc := out_at HO 0 b HB0.out; rw [Nat.add_zero] at hc; go_simp) ?_
  clear F a9
  intro a9 F
  refine fr_call F (wanted_free rfl) 20 rfl (by decide) 65 #[.int .u8 (b.toNat : Int)] (by intro a' F'; have h19 := F'.at' 19 _ rfl; go_simp) (read_First b.toNat hb2 w9) ?_
  rintro e9 w8 ⟨rfl, rfl⟩
  rw [hfo]
  refine ⟨_, rfl, ?_⟩
  clear F a9
  intro a9 F
  refine fr_ch F 1 [(21, .bool false)] (by kernel_rfl) ?_
  clear F a9
  intro a9 F
  refine wpList_nil ?_
  show Code.wp _ _ _ _ _
  refine wp_cond_false (F.ev 21 rfl) ?_
  refine wp_skip ?_
  show Code.wp _ _ _ _ _
  replace F := F.cut [(3, .int .i64 0), (2, .int .i64 0), (0, .pointer (some ⟨X, 0, none⟩))] (by kernel_rfl)
  refine wp_seq ?_
  refine wp_region_noPanic ?_
  have hb8 : Below w9.heap.size w9 w9.drew := below_draws (n := 1) rfl
  replace HK := HK.below hb8
  replace HO := own_only HO (Only.of_below hb8 (fun _ => False)) (fun _ _ h => h)
  replace HLOW := Lib.hid (HLOW.out.trans (hb8.mono HLOW.out.size))
  clear hb8
  refine AnyT.begin (S := fun w' => BoxAt w' X (frV m (some ⟨gg, oo, none⟩) L.length c e) 54) (z := 1000) (by kernel_rfl) (HK.at 0 rfl) (fun hS0 => ?_)
  clear hS0
  generalize w9.drew = w8 at *
  clear w9
  rename World => w9
  refine fr_takeG (i := 0) (o := ⟨some 23, _, _, _, _, _⟩) F (HK.at 0 rfl) rfl (wanted_free rfl) 23 rfl (by decide) (.pointer (some ⟨X, 0, none⟩)) (fun w9 hS => (by intro a' F'; have h0 := F'.at' 0 _ rfl; go_simp)) ?_
  clear F a9
  intro a9 F
  refine fr_takeG (i := 1) (o := ⟨some 24, _, _, _, _, _⟩) F (HK.at 0 rfl) rfl (wanted_free rfl) 24 rfl (by decide) (.pointer (some ⟨X, 0, none⟩)) (fun w9 hS => (by intro a' F'; have h23 := F'.at' 23 _ rfl; go_simp)) ?_
  clear F a9
  intro a9 F
  refine fr_takeG (i := 2) (o := ⟨some 25, _, _, _, _, _⟩) F (HK.at 0 rfl) rfl (wanted_free rfl) 25 rfl (by decide) (.pointer (some ⟨X, 1, none⟩)) (fun w9 hS => (by intro a' F'; have h24 := F'.at' 24 _ rfl; go_simp)) ?_
  clear F a9
  intro a9 F
  refine fr_takeG (i := 3) (o := ⟨some 26, _, _, _, _, _⟩) F (HK.at 0 rfl) rfl (wanted_free rfl) 26 rfl (by decide) (.slice (some ⟨gg, oo, none⟩) L.length c) (fun w9 hS => (by intro a' F'; have hc : w9.cell? ⟨X, 1, none⟩ = some (.slice (some ⟨gg, oo, none⟩) L.length c) := (show BoxAt w9 X (frV m (some ⟨gg, oo, none⟩) L.length c e) 54 from hS).cells 1; have h25 := F'.at' 25 _ rfl; go_simp)) ?_
  clear F a9
  intro a9 F
  refine fr_takeG (i := 4) (o := ⟨some 27, _, _, _, _, _⟩) F (HK.at 0 rfl) rfl (wanted_free rfl) 27 rfl (by decide) (.pointer (some ⟨X, 0, none⟩)) (fun w9 hS => (by intro a' F'; have h0 := F'.at' 0 _ rfl; go_simp)) ?_
  clear F a9
  intro a9 F
  refine fr_takeG (i := 5) (o := ⟨some 28, _, _, _, _, _⟩) F (HK.at 0 rfl) rfl (wanted_free rfl) 28 rfl (by decide) (.pointer (some ⟨X, 0, none⟩)) (fun w9 hS => (by intro a' F'; have h27 := F'.at' 27 _ rfl; go_simp)) ?_
  clear F a9
  intro a9 F
  refine fr_takeG (i := 6) (o := ⟨some 29, _, _, _, _, _⟩) F (HK.at 0 rfl) rfl (wanted_free rfl) 29 rfl (by decide) (.pointer (some ⟨X, 1, none⟩)) (fun w9 hS => (by intro a' F'; have h28 := F'.at' 28 _ rfl; go_simp)) ?_
  clear F a9
  intro a9 F
  refine fr_takeG (i := 7) (o := ⟨some 30, _, _, _, _, _⟩) F (HK.at 0 rfl) rfl (wanted_free rfl) 30 rfl (by decide) (.slice (some ⟨gg, oo, none⟩) L.length c) (fun w9 hS => (by intro a' F'; have hc : w9.cell? ⟨X, 1, none⟩ = some (.slice (some ⟨gg, oo, none⟩) L.length c) := (show BoxAt w9 X (frV m (some ⟨gg, oo, none⟩) L.length c e) 54 from hS).cells 1; have h29 := F'.at' 29 _ rfl; go_simp)) ?_
  clear F a9
  intro a9 F
  refine fr_takeG (i := 8) (o := ⟨some 31, _, _, _, _, _⟩) F (HK.at 0 rfl) rfl (wanted_free rfl) 31 rfl (by decide) (.int .i64 (L.length : Int)) (fun w9 hS => (by intro a' F'; have h30 := F'.at' 30 _ rfl; go_simp)) ?_
  clear F a9
  intro a9 F
  refine fr_takeG (i := 9) (o := ⟨some 32, _, _, _, _, _⟩) F (HK.at 0 rfl) rfl (wanted_free rfl) 32 rfl (by decide) (.int .i64 ((min L.length 6 : Nat) : Int)) (fun w9 hS => (by intro a' F'; have h31 := F'.at' 31 _ rfl; go_simp <;> omega)) ?_
  clear F a9
  intro a9 F
  refine fr_takeG (i := 10) (o := ⟨some 33, _, _, _, _, _⟩) F (HK.at 0 rfl) rfl (wanted_free rfl) 33 rfl (by decide) (.slice (some ⟨gg, oo + o1, none⟩) (min L.length 6 - 1) (c - 1)) (fun w9 hS => (by intro a' F'; have h26 := F'.at' 26 _ rfl; have h32 := F'.at' 32 _ rfl; go_simp <;> (rw [if_pos (by omega), if_pos (by omega), HQ1.out]; done))) ?_
  clear F a9
  intro a9 F
  refine fr_step (i := 11) (o := ⟨some 34, _, _, _, _, _⟩) F rfl rfl 34 rfl (by decide) (.string (bB (t.take 5))) w9 (fun a' F' => run_conv 52 9 _ rfl _ _ (F'.ev 33 rfl) (HNS.out w9 HO)) (HK.at 0 rfl) ?_
  clear F a9
  intro a9 F
  refine fr_stepC (i := 12) (o := ⟨some 35, _, _, _, _, _⟩) F rfl (wanted_free rfl) 35 rfl (by decide) 66 #[.string (bB (t.take 5))] (by intro a' F'; have h34 := F'.at' 34 _ rfl; go_simp) (HRL.out w9) ?_
  rintro e9 w8 ⟨rfl, rfl⟩
  refine ⟨_, rfl, (HK.at 0 rfl), ?_⟩
  clear F a9
  intro a9 F
  refine fr_takeG (i := 13) (o := ⟨some 22, _, _, _, _, _⟩) F (HK.at 0 rfl) rfl (wanted_free rfl) 22 rfl (by decide) (.tuple #[.int .i64 (n : Int), .int .i64 (u : Int), .int .i64 (e2 : Int)]) (fun w9 hS => (by intro a' F'; have h35 := F'.at' 35 _ rfl; go_simp)) ?_
  clear F a9
  intro a9 F
  refine fr_takeG (i := 14) (o := ⟨some 36, _, _, _, _, _⟩) F (HK.at 0 rfl) rfl (wanted_free rfl) 36 rfl (by decide) (.int .i64 (n : Int)) (fun w9 hS => (by intro a' F'; have h22 := F'.at' 22 _ rfl; go_simp)) ?_
  clear F a9
  intro a9 F
  refine fr_takeG (i := 15) (o := ⟨some 37, _, _, _, _, _⟩) F (HK.at 0 rfl) rfl (wanted_free rfl) 37 rfl (by decide) (.int .i64 (u : Int)) (fun w9 hS => (by intro a' F'; have h22 := F'.at' 22 _ rfl; go_simp)) ?_
  clear F a9
  intro a9 F
  refine fr_takeG (i := 16) (o := ⟨some 38, _, _, _, _, _⟩) F (HK.at 0 rfl) rfl (wanted_free rfl) 38 rfl (by decide) (.int .i64 (e2 : Int)) (fun w9 hS => (by intro a' F'; have h22 := F'.at' 22 _ rfl; go_simp)) ?_
  clear F a9
  intro a9 F
  refine fr_takeG (i := 17) (o := ⟨some 4, _, _, _, _, _⟩) F (HK.at 0 rfl) rfl (wanted_free rfl) 4 rfl (by decide) (.int .i64 (n : Int)) (fun w9 hS => (by intro a' F'; have h36 := F'.at' 36 _ rfl; go_simp)) ?_
  clear F a9
  intro a9 F
  refine fr_takeG (i := 18) (o := ⟨some 5, _, _, _, _, _⟩) F (HK.at 0 rfl) rfl (wanted_free rfl) 5 rfl (by decide) (.int .i64 (u : Int)) (fun w9 hS => (by intro a' F'; have h37 := F'.at' 37 _ rfl; go_simp)) ?_
  clear F a9
  intro a9 F
  refine fr_takeG (i := 19) (o := ⟨some 6, _, _, _, _, _⟩) F (HK.at 0 rfl) rfl (wanted_free rfl) 6 rfl (by decide) (.int .i64 (e2 : Int)) (fun w9 hS => (by intro a' F'; have h38 := F'.at' 38 _ rfl; go_simp)) ?_
  clear F a9
  intro a9 F
  refine AnyT.done (by kernel_rfl) ?_ _
  refine NoPanic.normal ?_
  show Code.wp _ _ _ _ _
  replace F := F.cut [(6, .int .i64 (e2 : Int)), (5, .int .i64 (u : Int)), (4, .int .i64 (n : Int)), (3, .int .i64 0), (2, .int .i64 0), (0, .pointer (some ⟨X, 0, none⟩))] (by kernel_rfl)
  refine wp_seq ?_
  refine wp_region_lit ?_
  refine fr_ch F 1 [(39, .int .i64 (u : Int))] (by kernel_rfl) ?_
  clear F a9
  intro a9 F
  refine fr_do F (wanted_free rfl) 40 rfl (by decide) (.int .i64 ((1 + u : Nat) : Int)) (by intro a' F'; have h39 := F'.at' 39 _ rfl; go_simp <;> (rw [IntKind.wrap_i64]; omega)) ?_
  clear F a9
  intro a9 F
  refine fr_ch F 1 [(41, .int .i64 (n : Int))] (by kernel_rfl) ?_
  clear F a9
  intro a9 F
  refine fr_do F (wanted_free rfl) 42 rfl (by decide) (.int .i64 ((1 + u + n : Nat) : Int)) (by intro a' F'; have h40 := F'.at' 40 _ rfl; have h41 := F'.at' 41 _ rfl; go_simp <;> (rw [IntKind.wrap_i64]; omega)) ?_
  clear F a9
  intro a9 F
  refine fr_ch F 1 [(7, .int .i64 ((1 + u + n : Nat) : Int))] (by kernel_rfl) ?_
  clear F a9
  intro a9 F
  refine wpList_nil ?_
  show Code.wp _ _ _ _ _
  replace F := F.cut [(7, .int .i64 ((1 + u + n : Nat) : Int)), (6, .int .i64 (e2 : Int)), (5, .int .i64 (u : Int)), (4, .int .i64 (n : Int)), (3, .int .i64 0), (2, .int .i64 0), (0, .pointer (some ⟨X, 0, none⟩))] (by kernel_rfl)
  refine wp_seq ?_
  refine wp_block ?_
  refine wp_seq ?_
  refine wp_region_lit ?_
  refine fr_ch F 1 [(44, .int .i64 (e2 : Int))] (by kernel_rfl) ?_
  clear F a9
  intro a9 F
  refine fr_do F (wanted_free rfl) 45 rfl (by decide) (.bool false) (by intro a' F'; have h44 := F'.at' 44 _ rfl; go_simp) ?_
  clear F a9
  intro a9 F
  refine fr_ch F 1 [(43, .bool false)] (by kernel_rfl) ?_
  clear F a9
  intro a9 F
  refine wpList_nil ?_
  show Code.wp _ _ _ _ _
  refine wp_cond_false (F.ev 43 rfl) ?_
  refine wp_seq ?_
  refine wp_region_lit ?_
  refine fr_ch F 1 [(47, .int .i64 (e2 : Int))] (by kernel_rfl) ?_
  clear F a9
  intro a9 F
  refine fr_do F (wanted_free rfl) 48 rfl (by decide) (.bool false) (by intro a' F'; have h47 := F'.at' 47 _ rfl; go_simp) ?_
  clear F a9
  intro a9 F
  refine fr_ch F 1 [(46, .bool false)] (by kernel_rfl) ?_
  clear F a9
  intro a9 F
  refine wpList_nil ?_
  show Code.wp _ _ _ _ _
  refine wp_cond_false (F.ev 46 rfl) ?_
  refine wp_seq ?_
  refine wp_region_lit ?_
  refine fr_ch F 4 [(54, .pointer (some ⟨X, 0, none⟩)), (53, .pointer (some ⟨X, 0, none⟩)), (52, .pointer (some ⟨X, 0, none⟩)), (51, .int .i64 ((1 + u + n : Nat) : Int))] (by kernel_rfl) ?_
  clear F a9
  intro a9 F
  refine fr_do F (wanted_free rfl) 55 rfl (by decide) (.int .i64 (m : Int)) (by intro a' F'; have hc : w9.cell? ⟨X, 0, none⟩ = some (.int .i64 (m : Int)) := (HK.at 0 rfl).cells 0; have h54 := F'.at' 54 _ rfl; go_simp) ?_
  clear F a9
  intro a9 F
  refine fr_do F (wanted_free rfl) 56 rfl (by decide) (.bool false) (by intro a' F'; have h51 := F'.at' 51 _ rfl; have h55 := F'.at' 55 _ rfl; go_simp <;> omega) ?_
  clear F a9
  intro a9 F
  refine fr_ch F 1 [(50, .bool false)] (by kernel_rfl) ?_
  clear F a9
  intro a9 F
  refine wpList_nil ?_
  show Code.wp _ _ _ _ _
  refine wp_cond_false (F.ev 50 rfl) ?_
  refine wp_seq ?_
  refine wp_region_lit ?_
  refine fr_ch F 4 [(61, .pointer (some ⟨X, 1, none⟩)), (60, .pointer (some ⟨X, 0, none⟩)), (59, .pointer (some ⟨X, 0, none⟩)), (58, .int .i64 ((1 + u + n : Nat) : Int))] (by kernel_rfl) ?_
  clear F a9
  intro a9 F
  refine fr_do F (wanted_free rfl) 62 rfl (by decide) (.slice (some ⟨gg, oo, none⟩) L.length c) (by intro a' F'; have hc : w9.cell? ⟨X, 1, none⟩ = some (.slice (some ⟨gg, oo, none⟩) L.length c) := (HK.at 0 rfl).cells 1; have h61 := F'.at' 61 _ rfl; go_simp) ?_
  clear F a9
  intro a9 F
  refine fr_ch F 1 [(63, .int .i64 (L.length : Int))] (by kernel_rfl) ?_
  clear F a9
  intro a9 F
  refine fr_do F (wanted_free rfl) 64 rfl (by decide) (.bool true) (by intro a' F'; have h58 := F'.at' 58 _ rfl; have h63 := F'.at' 63 _ rfl; go_simp <;> omega) ?_
  clear F a9
  intro a9 F
  refine fr_ch F 1 [(57, .bool true)] (by kernel_rfl) ?_
  clear F a9
  intro a9 F
  refine wpList_nil ?_
  show Code.wp _ _ _ _ _
  refine wp_cond_true (F.ev 57 rfl) ?_
  refine wp_seq ?_
  refine wp_region_lit ?_
  refine fr_ch F 2 [(3, .int .i64 0), (2, .int .i64 0)] (by kernel_rfl) ?_
  clear F a9
  intro a9 F
  refine wpList_nil ?_
  show Code.wp _ _ _ _ _
  refine wp_ret ?_
  exact fr_ret2 F rfl _ _ rfl rfl (FIN.out _ HLOW.out)
set_option maxRecDepth 100000 in
set_option maxHeartbeats 4000000 in
theorem whole_all {w0 w : World} {B : List Box} {X m e : Nat} {L : Bs} (h : FrC w0 B X m L e w) (hL : L.length ≤ 90000000) (b : UInt8) (t : Bs) (h0 : L = b :: t) (hfo : firstOk b.toNat = true) (n u e2 : Nat) (hlr : lenR t = (n, u, e2)) (he : e2 = 0 ∧ ¬ m < 1 + u + n ∧ ¬ t.length + 1 < 1 + u + n) : Calls Tryd.prog 42 #[.pointer (some ⟨X, 0, none⟩)] w fun r w' => r = .returned (.tuple #[.int .i64 ((wholeR m L).1 : Int), .int .i64 ((wholeR m L).2 : Int)]) ∧ Below w.heap.size w w' := by
  obtain ⟨a, c, HK, HO⟩ := h
  obtain ⟨RR, hRR⟩ : ∃ RR : Ending → World → Prop, RR = fun r w' => r = .returned (.tuple #[.int .i64 ((wholeR m L).1 : Int), .int .i64 ((wholeR m L).2 : Int)]) ∧ Below w.heap.size w w' := ⟨_, rfl⟩
  have FIN := Lib.hid (show ∀ w', Below w.heap.size w w' → RR (.returned (.tuple #[.int .i64 ((1 + u + n : Nat)), .int .i64 ((0 : Nat))])) w' from fun w' hb => by
    have e1 : wholeR m L = (1 + u + n, 0) := by rw [h0]; simp only [wholeR]; rw [if_neg (by rw [hfo]; decide), hlr]; simp only; rw [he.1]; simp only [if_neg (by decide : ¬ (0 : Nat) = 2), ne_eq, not_true_eq_false, if_false]; rw [if_neg he.2.1, if_neg he.2.2]
    rw [hRR, e1]
    exact ⟨rfl, hb⟩)
  rw [← hRR]
  obtain ⟨w9, hw9⟩ : ∃ w9, w9 = w := ⟨_, rfl⟩
  rw [← hw9] at HK HO
  have HB8 := Below.refl w9.heap.size w9
  suffices hgo : Calls Tryd.prog 42 #[.pointer (some ⟨X, 0, none⟩)] w9 RR by rw [hw9] at hgo; exact hgo
  have HLOW := Lib.hid (show Below w.heap.size w w9 by rw [hw9]; exact Below.refl _ _)
  clear hw9 hRR HB8
  obtain ⟨gg, oo, ha⟩ := out_some HO (by rw [h0]; simp)
  subst ha
  have hl : L.length = t.length + 1 := by rw [h0]; rfl
  have hb2 := b.toNat_lt
  have HB0 := Lib.hid (show L[0]? = some b by rw [h0]; rfl)
  have hbs : L.drop 1 = t := by rw [h0]; rfl
  have hcap : L.length ≤ c := by
    rcases HO.2 with ⟨e1, _⟩ | ⟨g', cap, cur, e1, _, _, hh, _⟩
    · cases e1
    · injection e1 with _ _ e1
      omega
  obtain ⟨o1, hO1⟩ : ∃ o1, (if c = 1 then 0 else 1) = o1 := ⟨_, rfl⟩
  have HQ1 := Lib.hid (show (if c = 1 then (some ⟨gg, oo, none⟩ : Option Addr) else some ⟨gg, oo + 1, none⟩) = some ⟨gg, oo + o1, none⟩ by rw [← hO1]; split <;> rfl)
  have hns := fun w9 (h : Out w9 w0.heap.size (.slice (some ⟨gg, oo, none⟩) L.length c) L) => conv_nats (P := Tryd.prog) w9 52 5 Tryd.underlying52 Tryd.underlying5 (some ⟨gg, oo + o1, none⟩) (c - 1) (((L.drop 1).take 5).map UInt8.toNat) (min L.length 6 - 1) (by rw [List.length_map, List.length_take, hbs]; omega) (by
    by_cases hc : c = 1
    · have ht : L.drop 1 = [] := List.drop_eq_nil_of_le (by omega)
      rw [ht]
      exact CellsA.nil _ _
    · have h3 := out_sub h 1 5
      rw [if_neg hc] at hO1
      rw [← hO1]
      exact h3) 9 Tryd.underlying9
  rw [strN_u8, hbs] at hns
  have HNS := Lib.hid hns
  have hRL := num_ReadLenG (bB (t.take 5))
  rw [bl_bB, lenR_take t 5 (by omega), hlr] at hRL
  have HRL := Lib.hid (show ∀ w9, Calls Tryd.prog 66 #[.string (bB (t.take 5))] w9 (fun e9 w8 => e9 = .returned (.tuple #[.int .i64 (n : Int), .int .i64 (u : Int), .int .i64 (e2 : Int)]) ∧ w9 = w8) from fun w9 => hRL w9)
  have hnu : n ≤ 268435455 ∧ u ≤ 4 := by
    by_cases he : e2 = 0
    · subst he
      have := lenR_inv hlr
      omega
    · have h1 := lenRf_zero 4 1 0 0 t (by show (lenR t).2.2 ≠ 0; rw [hlr]; exact he)
      have h2 : (lenR t).1 = 0 ∧ (lenR t).2.1 = 0 := h1
      rw [hlr] at h2
      simp only at h2
      omega
  clear hns hRL hO1
  skip
  go_enter Tryd.func42, Tryd.ntmps42
  refine wp_forget (n := 66) (L := [(0, .pointer (some ⟨X, 0, none⟩))]) (FrL.add (FrL.nil ?_ ?_) _ _ ?_) ?_
  iterate 3 rfl
  intro a9 F
  refine wp_seq ?_
  refine wp_region_lit ?_
  refine fr_ch F 2 [(3, .int .i64 0), (2, .int .i64 0)] (by kernel_rfl) ?_
  clear F a9
  intro a9 F
  refine wpList_nil ?_
  show Code.wp _ _ _ _ _
  replace F := F.cut [(3, .int .i64 0), (2, .int .i64 0), (0, .pointer (some ⟨X, 0, none⟩))] (by kernel_rfl)
  refine wp_seq ?_
  refine wp_seq ?_
  refine wp_region_lit ?_
  refine fr_ch F 3 [(10, .pointer (some ⟨X, 1, none⟩)), (9, .pointer (some ⟨X, 0, none⟩)), (8, .pointer (some ⟨X, 0, none⟩))] (by kernel_rfl) ?_
  clear F a9
  intro a9 F
  refine fr_do F (wanted_free rfl) 11 rfl (by decide) (.slice (some ⟨gg, oo, none⟩) L.length c) (by intro a' F'; have hc : w9.cell? ⟨X, 1, none⟩ = some (.slice (some ⟨gg, oo, none⟩) L.length c) := (HK.at 0 rfl).cells 1; have h10 := F'.at' 10 _ rfl; go_simp) ?_
  clear F a9
  intro a9 F
  refine fr_ch F 1 [(12, .int .i64 (L.length : Int))] (by kernel_rfl) ?_
  clear F a9
  intro a9 F
  refine fr_do F (wanted_free rfl) 13 rfl (by decide) (.bool false) (by intro a' F'; have h12 := F'.at' 12 _ rfl; go_simp <;> omega) ?_
  clear F a9
  intro a9 F
  refine wpList_nil ?_
  show Code.wp _ _ _ _ _
  refine wp_cond_false (F.ev 13 rfl) ?_
  refine wp_skip ?_
  show Code.wp _ _ _ _ _
  replace F := F.cut [(3, .int .i64 0), (2, .int .i64 0), (0, .pointer (some ⟨X, 0, none⟩))] (by kernel_rfl)
  refine wp_seq ?_
  refine wp_seq ?_
  refine wp_region_lit ?_
  refine fr_ch F 3 [(16, .pointer (some ⟨X, 1, none⟩)), (15, .pointer (some ⟨X, 0, none⟩)), (14, .pointer (some ⟨X, 0, none⟩))] (by kernel_rfl) ?_
  clear F a9
  intro a9 F
  refine fr_do F (wanted_free rfl) 17 rfl (by decide) (.slice (some ⟨gg, oo, none⟩) L.length c) (by intro a' F'; have hc : w9.cell? ⟨X, 1, none⟩ = some (.slice (some ⟨gg, oo, none⟩) L.length c) := (HK.at 0 rfl).cells 1; have h16 := F'.at' 16 _ rfl; go_simp) ?_
  clear F a9
  intro a9 F
  refine fr_do F (wanted_free rfl) 18 rfl (by decide) (.pointer (some ⟨gg, oo, none⟩)) (by intro a' F'; have h17 := F'.at' 17 _ rfl; go_simp) ?_
  clear F a9
  intro a9 F
  refine fr_do F (wanted_free rfl) 19 rfl (by decide) (.int .u8 (b.toNat : Int)) (by intro a' F'; have h18 := F'.at' 18 _ rfl; have hc := out_at HO 0 b HB0.out; rw [Nat.add_zero] at hc; go_simp) ?_
  clear F a9
  intro a9 F
  refine fr_call F (wanted_free rfl) 20 rfl (by decide) 65 #[.int .u8 (b.toNat : Int)] (by intro a' F'; have h19 := F'.at' 19 _ rfl; go_simp) (read_First b.toNat hb2 w9) ?_
  rintro e9 w8 ⟨rfl, rfl⟩
  rw [hfo]
  refine ⟨_, rfl, ?_⟩
  clear F a9
  intro a9 F
  refine fr_ch F 1 [(21, .bool false)] (by kernel_rfl) ?_
  clear F a9
  intro a9 F
  refine wpList_nil ?_
  show Code.wp _ _ _ _ _
  refine wp_cond_false (F.ev 21 rfl) ?_
  refine wp_skip ?_
  show Code.wp _ _ _ _ _
  replace F := F.cut [(3, .int .i64 0), (2, .int .i64 0), (0, .pointer (some ⟨X, 0, none⟩))] (by kernel_rfl)
  refine wp_seq ?_
  refine wp_region_noPanic ?_
  have hb8 : Below w9.heap.size w9 w9.drew := below_draws (n := 1) rfl
  replace HK := HK.below hb8
  replace HO := own_only HO (Only.of_below hb8 (fun _ => False)) (fun _ _ h => h)
  replace HLOW := Lib.hid (HLOW.out.trans (hb8.mono HLOW.out.size))
  clear hb8
  refine AnyT.begin (S := fun w' => BoxAt w' X (frV m (some ⟨gg, oo, none⟩) L.length c e) 54) (z := 1000) (by kernel_rfl) (HK.at 0 rfl) (fun hS0 => ?_)
  clear hS0
  generalize w9.drew = w8 at *
  clear w9
  rename World => w9
  refine fr_takeG (i := 0) (o := ⟨some 23, _, _, _, _, _⟩) F (HK.at 0 rfl) rfl (wanted_free rfl) 23 rfl (by decide) (.pointer (some ⟨X, 0, none⟩)) (fun w9 hS => (by intro a' F'; have h0 := F'.at' 0 _ rfl; go_simp)) ?_
  clear F a9
  intro a9 F
  refine fr_takeG (i := 1) (o := ⟨some 24, _, _, _, _, _⟩) F (HK.at 0 rfl) rfl (wanted_free rfl) 24 rfl (by decide) (.pointer (some ⟨X, 0, none⟩)) (fun w9 hS => (by intro a' F'; have h23 := F'.at' 23 _ rfl; go_simp)) ?_
  clear F a9
  intro a9 F
  refine fr_takeG (i := 2) (o := ⟨some 25, _, _, _, _, _⟩) F (HK.at 0 rfl) rfl (wanted_free rfl) 25 rfl (by decide) (.pointer (some ⟨X, 1, none⟩)) (fun w9 hS => (by intro a' F'; have h24 := F'.at' 24 _ rfl; go_simp)) ?_
  clear F a9
  intro a9 F
  refine fr_takeG (i := 3) (o := ⟨some 26, _, _, _, _, _⟩) F (HK.at 0 rfl) rfl (wanted_free rfl) 26 rfl (by decide) (.slice (some ⟨gg, oo, none⟩) L.length c) (fun w9 hS => (by intro a' F'; have hc : w9.cell? ⟨X, 1, none⟩ = some (.slice (some ⟨gg, oo, none⟩) L.length c) := (show BoxAt w9 X (frV m (some ⟨gg, oo, none⟩) L.length c e) 54 from hS).cells 1; have h25 := F'.at' 25 _ rfl; go_simp)) ?_
  clear F a9
  intro a9 F
  refine fr_takeG (i := 4) (o := ⟨some 27, _, _, _, _, _⟩) F (HK.at 0 rfl) rfl (wanted_free rfl) 27 rfl (by decide) (.pointer (some ⟨X, 0, none⟩)) (fun w9 hS => (by intro a' F'; have h0 := F'.at' 0 _ rfl; go_simp)) ?_
  clear F a9
  intro a9 F
  refine fr_takeG (i := 5) (o := ⟨some 28, _, _, _, _, _⟩) F (HK.at 0 rfl) rfl (wanted_free rfl) 28 rfl (by decide) (.pointer (some ⟨X, 0, none⟩)) (fun w9 hS => (by intro a' F'; have h27 := F'.at' 27 _ rfl; go_simp)) ?_
  clear F a9
  intro a9 F
  refine fr_takeG (i := 6) (o := ⟨some 29, _, _, _, _, _⟩) F (HK.at 0 rfl) rfl (wanted_free rfl) 29 rfl (by decide) (.pointer (some ⟨X, 1, none⟩)) (fun w9 hS => (by intro a' F'; have h28 := F'.at' 28 _ rfl; go_simp)) ?_
  clear F a9
  intro a9 F
  refine fr_takeG (i := 7) (o := ⟨some 30, _, _, _, _, _⟩) F (HK.at 0 rfl) rfl (wanted_free rfl) 30 rfl (by decide) (.slice (some ⟨gg, oo, none⟩) L.length c) (fun w9 hS => (by intro a' F'; have hc : w9.cell? ⟨X, 1, none⟩ = some (.slice (some ⟨gg, oo, none⟩) L.length c) := (show BoxAt w9 X (frV m (some ⟨gg, oo, none⟩) L.length c e) 54 from hS).cells 1; have h29 := F'.at' 29 _ rfl; go_simp)) ?_
  clear F a9
  intro a9 F
  refine fr_takeG (i := 8) (o := ⟨some 31, _, _, _, _, _⟩) F (HK.at 0 rfl) rfl (wanted_free rfl) 31 rfl (by decide) (.int .i64 (L.length : Int)) (fun w9 hS => (by intro a' F'; have h30 := F'.at' 30 _ rfl; go_simp)) ?_
  clear F a9
  intro a9 F
  refine fr_takeG (i := 9) (o := ⟨some 32, _, _, _, _, _⟩) F (HK.at 0 rfl) rfl (wanted_free rfl) 32 rfl (by decide) (.int .i64 ((min L.length 6 : Nat) : Int)) (fun w9 hS => (by intro a' F'; have h31 := F'.at' 31 _ rfl; go_simp <;> omega)) ?_
  clear F a9
  intro a9 F
  refine fr_takeG (i := 10) (o := ⟨some 33, _, _, _, _, _⟩) F (HK.at 0 rfl) rfl (wanted_free rfl) 33 rfl (by decide) (.slice (some ⟨gg, oo + o1, none⟩) (min L.length 6 - 1) (c - 1)) (fun w9 hS => (by intro a' F'; have h26 := F'.at' 26 _ rfl; have h32 := F'.at' 32 _ rfl; go_simp <;> (rw [if_pos (by omega), if_pos (by omega), HQ1.out]; done))) ?_
  clear F a9
  intro a9 F
  refine fr_step (i := 11) (o := ⟨some 34, _, _, _, _, _⟩) F rfl rfl 34 rfl (by decide) (.string (bB (t.take 5))) w9 (fun a' F' => run_conv 52 9 _ rfl _ _ (F'.ev 33 rfl) (HNS.out w9 HO)) (HK.at 0 rfl) ?_
  clear F a9
  intro a9 F
  refine fr_stepC (i := 12) (o := ⟨some 35, _, _, _, _, _⟩) F rfl (wanted_free rfl) 35 rfl (by decide) 66 #[.string (bB (t.take 5))] (by intro a' F'; have h34 := F'.at' 34 _ rfl; go_simp) (HRL.out w9) ?_
  rintro e9 w8 ⟨rfl, rfl⟩
  refine ⟨_, rfl, (HK.at 0 rfl), ?_⟩
  clear F a9
  intro a9 F
  refine fr_takeG (i := 13) (o := ⟨some 22, _, _, _, _, _⟩) F (HK.at 0 rfl) rfl (wanted_free rfl) 22 rfl (by decide) (.tuple #[.int .i64 (n : Int), .int .i64 (u : Int), .int .i64 (e2 : Int)]) (fun w9 hS => (by intro a' F'; have h35 := F'.at' 35 _ rfl; go_simp)) ?_
  clear F a9
  intro a9 F
  refine fr_takeG (i := 14) (o := ⟨some 36, _, _, _, _, _⟩) F (HK.at 0 rfl) rfl (wanted_free rfl) 36 rfl (by decide) (.int .i64 (n : Int)) (fun w9 hS => (by intro a' F'; have h22 := F'.at' 22 _ rfl; go_simp)) ?_
  clear F a9
  intro a9 F
  refine fr_takeG (i := 15) (o := ⟨some 37, _, _, _, _, _⟩) F (HK.at 0 rfl) rfl (wanted_free rfl) 37 rfl (by decide) (.int .i64 (u : Int)) (fun w9 hS => (by intro a' F'; have h22 := F'.at' 22 _ rfl; go_simp)) ?_
  clear F a9
  intro a9 F
  refine fr_takeG (i := 16) (o := ⟨some 38, _, _, _, _, _⟩) F (HK.at 0 rfl) rfl (wanted_free rfl) 38 rfl (by decide) (.int .i64 (e2 : Int)) (fun w9 hS => (by intro a' F'; have h22 := F'.at' 22 _ rfl; go_simp)) ?_
  clear F a9
  intro a9 F
  refine fr_takeG (i := 17) (o := ⟨some 4, _, _, _, _, _⟩) F (HK.at 0 rfl) rfl (wanted_free rfl) 4 rfl (by decide) (.int .i64 (n : Int)) (fun w9 hS => (by intro a' F'; have h36 := F'.at' 36 _ rfl; go_simp)) ?_
  clear F a9
  intro a9 F
  refine fr_takeG (i := 18) (o := ⟨some 5, _, _, _, _, _⟩) F (HK.at 0 rfl) rfl (wanted_free rfl) 5 rfl (by decide) (.int .i64 (u : Int)) (fun w9 hS => (by intro a' F'; have h37 := F'.at' 37 _ rfl; go_simp)) ?_
  clear F a9
  intro a9 F
  refine fr_takeG (i := 19) (o := ⟨some 6, _, _, _, _, _⟩) F (HK.at 0 rfl) rfl (wanted_free rfl) 6 rfl (by decide) (.int .i64 (e2 : Int)) (fun w9 hS => (by intro a' F'; have h38 := F'.at' 38 _ rfl; go_simp)) ?_
  clear F a9
  intro a9 F
  refine AnyT.done (by kernel_rfl) ?_ _
  refine NoPanic.normal ?_
  show Code.wp _ _ _ _ _
  replace F := F.cut [(6, .int .i64 (e2 : Int)), (5, .int .i64 (u : Int)), (4, .int .i64 (n : Int)), (3, .int .i64 0), (2, .int .i64 0), (0, .pointer (some ⟨X, 0, none⟩))] (by kernel_rfl)
  refine wp_seq ?_
  refine wp_region_lit ?_
  refine fr_ch F 1 [(39, .int .i64 (u : Int))] (by kernel_rfl) ?_
  clear F a9
  intro a9 F
  refine fr_do F (wanted_free rfl) 40 rfl (by decide) (.int .i64 ((1 + u : Nat) : Int)) (by intro a' F'; have h39 := F'.at' 39 _ rfl; go_simp <;> (rw [IntKind.wrap_i64]; omega)) ?_
  clear F a9
  intro a9 F
  refine fr_ch F 1 [(41, .int .i64 (n : Int))] (by kernel_rfl) ?_
  clear F a9
  intro a9 F
  refine fr_do F (wanted_free rfl) 42 rfl (by decide) (.int .i64 ((1 + u + n : Nat) : Int)) (by intro a' F'; have h40 := F'.at' 40 _ rfl; have h41 := F'.at' 41 _ rfl; go_simp <;> (rw [IntKind.wrap_i64]; omega)) ?_
  clear F a9
  intro a9 F
  refine fr_ch F 1 [(7, .int .i64 ((1 + u + n : Nat) : Int))] (by kernel_rfl) ?_
  clear F a9
  intro a9 F
  refine wpList_nil ?_
  show Code.wp _ _ _ _ _
  replace F := F.cut [(7, .int .i64 ((1 + u + n : Nat) : Int)), (6, .int .i64 (e2 : Int)), (5, .int .i64 (u : Int)), (4, .int .i64 (n : Int)), (3, .int .i64 0), (2, .int .i64 0), (0, .pointer (some ⟨X, 0, none⟩))] (by kernel_rfl)
  refine wp_seq ?_
  refine wp_block ?_
  refine wp_seq ?_
  refine wp_region_lit ?_
  refine fr_ch F 1 [(44, .int .i64 (e2 : Int))] (by kernel_rfl) ?_
  clear F a9
  intro a9 F
  refine fr_do F (wanted_free rfl) 45 rfl (by decide) (.bool false) (by intro a' F'; have h44 := F'.at' 44 _ rfl; go_simp) ?_
  clear F a9
  intro a9 F
  refine fr_ch F 1 [(43, .bool false)] (by kernel_rfl) ?_
  clear F a9
  intro a9 F
  refine wpList_nil ?_
  show Code.wp _ _ _ _ _
  refine wp_cond_false (F.ev 43 rfl) ?_
  refine wp_seq ?_
  refine wp_region_lit ?_
  refine fr_ch F 1 [(47, .int .i64 (e2 : Int))] (by kernel_rfl) ?_
  clear F a9
  intro a9 F
  refine fr_do F (wanted_free rfl) 48 rfl (by decide) (.bool false) (by intro a' F'; have h47 := F'.at' 47 _ rfl; go_simp) ?_
  clear F a9
  intro a9 F
  refine fr_ch F 1 [(46, .bool false)] (by kernel_rfl) ?_
  clear F a9
  intro a9 F
  refine wpList_nil ?_
  show Code.wp _ _ _ _ _
  refine wp_cond_false (F.ev 46 rfl) ?_
  refine wp_seq ?_
  refine wp_region_lit ?_
  refine fr_ch F 4 [(54, .pointer (some ⟨X, 0, none⟩)), (53, .pointer (some ⟨X, 0, none⟩)), (52, .pointer (some ⟨X, 0, none⟩)), (51, .int .i64 ((1 + u + n : Nat) : Int))] (by kernel_rfl) ?_
  clear F a9
  intro a9 F
  refine fr_do F (wanted_free rfl) 55 rfl (by decide) (.int .i64 (m : Int)) (by intro a' F'; have hc : w9.cell? ⟨X, 0, none⟩ = some (.int .i64 (m : Int)) := (HK.at 0 rfl).cells 0; have h54 := F'.at' 54 _ rfl; go_simp) ?_
  clear F a9
  intro a9 F
  refine fr_do F (wanted_free rfl) 56 rfl (by decide) (.bool false) (by intro a' F'; have h51 := F'.at' 51 _ rfl; have h55 := F'.at' 55 _ rfl; go_simp <;> omega) ?_
  clear F a9
  intro a9 F
  refine fr_ch F 1 [(50, .bool false)] (by kernel_rfl) ?_
  clear F a9
  intro a9 F
  refine wpList_nil ?_
  show Code.wp _ _ _ _ _
  refine wp_cond_false (F.ev 50 rfl) ?_
  refine wp_seq ?_
  refine wp_region_lit ?_
  refine fr_ch F 4 [(61, .pointer (some ⟨X, 1, none⟩)), (60, .pointer (some ⟨X, 0, none⟩)), (59, .pointer (some ⟨X, 0, none⟩)), (58, .int .i64 ((1 + u + n : Nat) : Int))] (by kernel_rfl) ?_
  clear F a9
  intro a9 F
  refine fr_do F (wanted_free rfl) 62 rfl (by decide) (.slice (some ⟨gg, oo, none⟩) L.length c) (by intro a' F'; have hc : w9.cell? ⟨X, 1, none⟩ = some (.slice (some ⟨gg, oo, none⟩) L.length c) := (HK.at 0 rfl).cells 1; have h61 := F'.at' 61 _ rfl; go_simp) ?_
  clear F a9
  intro a9 F
  refine fr_ch F 1 [(63, .int .i64 (L.length : Int))] (by kernel_rfl) ?_
  clear F a9
  intro a9 F
  refine fr_do F (wanted_free rfl) 64 rfl (by decide) (.bool false) (by intro a' F'; have h58 := F'.at' 58 _ rfl; have h63 := F'.at' 63 _ rfl; go_simp <;> omega) ?_
  clear F a9
  intro a9 F
  refine fr_ch F 1 [(57, .bool false)] (by kernel_rfl) ?_
  clear F a9
  intro a9 F
  refine wpList_nil ?_
  show Code.wp _ _ _ _ _
  refine wp_cond_false (F.ev 57 rfl) ?_
  refine wp_skip ?_
  show Code.wp _ _ _ _ _
  refine wp_seq ?_
  refine wp_region_lit ?_
  refine fr_ch F 3 [(3, .int .i64 0), (2, .int .i64 ((1 + u + n : Nat) : Int)), (65, .int .i64 ((1 + u + n : Nat) : Int))] (by kernel_rfl) ?_
  clear F a9
  intro a9 F
  refine wpList_nil ?_
  show Code.wp _ _ _ _ _
  refine wp_ret ?_
  exact fr_ret2 F rfl _ _ rfl rfl (FIN.out _ HLOW.out)
theorem frame_whole {w0 w : World} {B : List Box} {X m e : Nat} {L : Bs} (h : FrC w0 B X m L e w) (hL : L.length ≤ 90000000) : Calls Tryd.prog 42 #[.pointer (some ⟨X, 0, none⟩)] w fun r w' => r = .returned (.tuple #[.int .i64 ((wholeR m L).1 : Int), .int .i64 ((wholeR m L).2 : Int)]) ∧ Below w.heap.size w w' := by
  rcases h0 : L with _ | ⟨b, t⟩
  · rw [← h0]
    exact whole_empty h hL h0
  rw [← h0]
  cases hfo : firstOk b.toNat
  · exact whole_first h hL b t h0 hfo
  rcases hlr : lenR t with ⟨n, u, e2⟩
  by_cases h2 : e2 = 2
  · exact whole_short h hL b t h0 hfo n u e2 hlr h2
  by_cases h3 : e2 = 0
  · by_cases h4 : m < 1 + u + n
    · exact whole_long h hL b t h0 hfo n u e2 hlr ⟨h3, h4⟩
    by_cases h5 : t.length + 1 < 1 + u + n
    · exact whole_wait h hL b t h0 hfo n u e2 hlr ⟨h3, h4, h5⟩
    · exact whole_all h hL b t h0 hfo n u e2 hlr ⟨h3, h4, h5⟩
  · exact whole_err h hL b t h0 hfo n u e2 hlr ⟨h2, h3⟩
end Go.Proofs.YtfljdlaelanliaaDoor
