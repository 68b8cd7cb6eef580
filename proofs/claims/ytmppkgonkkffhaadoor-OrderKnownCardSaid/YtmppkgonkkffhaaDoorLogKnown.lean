/- The walk of OrderKnown. No condition but the decoder's tables. -/
import Derived.Test.YtmppkgonkkffhaaDoorLogTells
namespace Go.Proofs.YtmppkgonkkffhaaDoor
open Go.RowKit
theorem own_box {w : World} {B g n m : Nat} {e : TypeId} {xs : List Value} (h : w.ownsRow B e m (.slice (some ⟨g, 0, none⟩) n n) n xs) (hl : xs.length = n * m) : BoxAt w g xs.toArray e ∧ B ≤ g := by
  rcases h.2 with ⟨e1, _⟩ | ⟨g', cap, cur, e1, hB, hh, h1, h2, h3, h4⟩
  · cases e1
  · injection e1 with e1 e2 e3
    injection e1 with e1
    injection e1 with e1 e4
    subst e1 e3
    refine ⟨?_, hB⟩
    unfold BoxAt
    have : cur = xs.toArray := by
      rw [← h4, List.take_of_length_le (by rw [Array.length_toList]; omega)]
    rw [← this]; exact hh
theorem box_cellsA {w : World} {g : Nat} {e : TypeId} {xs : List Value} (h : BoxAt w g xs.toArray e) : CellsA w (some ⟨g, 0, none⟩) xs := fun j v hv => ⟨g, 0, rfl, by rw [Nat.zero_add, h.cells j, List.getElem?_toArray]; exact hv⟩
theorem run_slice2 {P : Program} {w : World} {o : Oper} {ρ : Operand → Value} (t e : TypeId) (x y : Operand) (ho : o.op = .buildSlice t 2 #[(0, x), (1, y)]) (c0 c1 cells : Array Value) (hx : ρ x = .agg c0) (hy : ρ y = .agg c1) (ie : TypeInfo) (zz : Value)
    (hu : P.underlying t = some (.slice e)) (hie : P.info? e = some ie) (hz : ie.zero = some zz) (hsmall : ¬ 2 * ie.size > 2 ^ 24) (hpos : ¬ 2 * ie.size = 0)
    (h : Instr.fill (fun i => some (i * ie.size, ie.size)) ((Array.range (2 * ie.size)).map (zz.cells[· % zz.cells.size]!)) [(0, .agg c0), (1, .agg c1)] = some cells) :
    (execOp ρ o).run P w = .ok (.value (.slice (some ⟨w.heap.size, 0, none⟩) 2 2)) (w.alloc (.cells cells e)) := by
  have hr := run_buildSlice (P := P) w t e 2 #[(0, .agg c0), (1, .agg c1)] cells ie zz hu hie hz hsmall hpos h
  unfold execOp
  simp only [ho, List.map_toArray, List.map_cons, List.map_nil, hx, hy, Sem.run_bind, hr, Result.andThen_ok, Sem.run_pure]
def badT : List NtE := [(helloN 1 1 1, none, 0), ({ helloN 2 1 1 with present := true }, none, 0), (tellsX, none, 0)]
def twoT : List NtE := [(helloN 1 1 1, none, 0), (helloN 2 1 2, none, 0)]
def nineN : Nt := { Nt.zero with kind := 9 }
def nineT : List NtE := [(nineN, none, 0)]
def asksT : List NtE := smallT ++ [(helloN 1 2 2, none, 0)]
theorem bad_check : checkL (badT.map (·.1)) = (1, 4) := by decide
theorem two_check : checkL (twoT.map (·.1)) = (1, 3) := by decide
theorem nine_check : checkL (nineT.map (·.1)) = (0, 1) := by decide
theorem nil_check : checkL ((([] : List NtE)).map (·.1)) = (-1, 0) := by decide
theorem asks_ahead : aheadL (asksT.map (·.1)) 1 2 = true := by decide
theorem small_ahead : aheadL (smallT.map (·.1)) 1 1 = false := by decide
theorem good_tells (w : World) : NtGood w tellsX none := good_plain rfl (Nat.le_of_ble_eq_true rfl) (Nat.le_of_ble_eq_true rfl) (Nat.le_of_ble_eq_true rfl) (Nat.le_of_ble_eq_true rfl) (Nat.le_of_ble_eq_true rfl) (Nat.le_of_ble_eq_true rfl) (Nat.le_of_ble_eq_true rfl) ⟨(Nat.le_of_ble_eq_true rfl), (Nat.le_of_ble_eq_true rfl), (Nat.le_of_ble_eq_true rfl), (Nat.le_of_ble_eq_true rfl), (Nat.le_of_ble_eq_true rfl), (Nat.le_of_ble_eq_true rfl), (Nat.le_of_ble_eq_true rfl), (Nat.le_of_ble_eq_true rfl)⟩ (Nat.le_of_ble_eq_true rfl) ⟨(Nat.le_of_ble_eq_true rfl), (Nat.le_of_ble_eq_true rfl)⟩
theorem good_nine (w : World) : NtGood w nineN none := good_plain rfl (Nat.le_of_ble_eq_true rfl) (Nat.le_of_ble_eq_true rfl) (Nat.le_of_ble_eq_true rfl) (Nat.le_of_ble_eq_true rfl) (Nat.le_of_ble_eq_true rfl) (Nat.le_of_ble_eq_true rfl) (Nat.le_of_ble_eq_true rfl) ⟨(Nat.le_of_ble_eq_true rfl), (Nat.le_of_ble_eq_true rfl), (Nat.le_of_ble_eq_true rfl), (Nat.le_of_ble_eq_true rfl), (Nat.le_of_ble_eq_true rfl), (Nat.le_of_ble_eq_true rfl), (Nat.le_of_ble_eq_true rfl), (Nat.le_of_ble_eq_true rfl)⟩ (Nat.le_of_ble_eq_true rfl) ⟨(Nat.le_of_ble_eq_true rfl), (Nat.le_of_ble_eq_true rfl)⟩
theorem good_bad (w : World) : ∀ x ∈ badT, NtGood w x.1 x.2.1 := by
  intro x hx
  unfold badT at hx
  rcases List.mem_cons.1 hx with rfl | hx
  · exact good_hello w _ _ _
  rcases List.mem_cons.1 hx with rfl | hx
  · exact good_plain rfl (Nat.le_of_ble_eq_true rfl) (Nat.le_of_ble_eq_true rfl) (Nat.le_of_ble_eq_true rfl) (Nat.le_of_ble_eq_true rfl) (Nat.le_of_ble_eq_true rfl) (Nat.le_of_ble_eq_true rfl) (Nat.le_of_ble_eq_true rfl) ⟨(Nat.le_of_ble_eq_true rfl), (Nat.le_of_ble_eq_true rfl), (Nat.le_of_ble_eq_true rfl), (Nat.le_of_ble_eq_true rfl), (Nat.le_of_ble_eq_true rfl), (Nat.le_of_ble_eq_true rfl), (Nat.le_of_ble_eq_true rfl), (Nat.le_of_ble_eq_true rfl)⟩ (Nat.le_of_ble_eq_true rfl) ⟨(Nat.le_of_ble_eq_true rfl), (Nat.le_of_ble_eq_true rfl)⟩
  rw [List.mem_singleton.1 hx]
  exact good_tells w
theorem good_two (w : World) : ∀ x ∈ twoT, NtGood w x.1 x.2.1 := by
  intro x hx
  unfold twoT at hx
  rcases List.mem_cons.1 hx with rfl | hx
  · exact good_hello w _ _ _
  rw [List.mem_singleton.1 hx]
  exact good_hello w _ _ _
theorem good_nineT (w : World) : ∀ x ∈ nineT, NtGood w x.1 x.2.1 := by
  intro x hx
  rw [List.mem_singleton.1 hx]
  exact good_nine w
theorem asks_cells : ntCells smallT ++ (ntV (helloN 1 2 2) none 0).toList = ntCells asksT := by unfold asksT; rw [← ntCells_app]; rfl
theorem small_len : (ntCells smallT).length = 3 * 35 := rfl
theorem bad_cells : setMany (ntCells smallT).toArray 68 [Value.bool true] = (ntCells badT).toArray := by kernel_rfl
set_option maxRecDepth 100000 in
set_option maxHeartbeats 4000000 in
theorem law26_OrderKnown (w : World) (hE : Env w) : Calls Tryd.prog 7 #[] w fun e w' => e = .returned (.bool true) ∧ Below w.heap.size w w' := by
  obtain ⟨RR, hRR⟩ : ∃ RR : Ending → World → Prop, RR = fun e w' => e = .returned (.bool true) ∧ Below w.heap.size w w' := ⟨_, rfl⟩
  have FIN := Lib.hid (show ∀ w', Below w.heap.size w w' → RR (.returned (.bool true)) w' from fun w' h => by rw [hRR]; exact ⟨rfl, h⟩)
  rw [← hRR]
  obtain ⟨w9, hw9⟩ : ∃ w9, w9 = w := ⟨_, rfl⟩
  have HK : Keep w [] [] w9 := by rw [hw9]; exact Keep.begin hE _ (by intro r hr; cases hr)
  suffices hgo : Calls Tryd.prog 7 #[] w9 RR by rw [hw9] at hgo; exact hgo
  clear hw9 hRR hE
  go_enter Tryd.func7, Tryd.ntmps7
  refine wp_forget (n := 87) (L := []) (FrL.nil ?_ ?_) ?_
  iterate 2 rfl
  intro a9 F
  refine wp_seq ?_
  refine wp_region_lit ?_
  refine fr_ch F 1 [(0, .bool false)] (by kernel_rfl) ?_
  clear F a9
  intro a9 F
  refine wpList_nil ?_
  show Code.wp _ _ _ _ _
  refine wp_seq ?_
  refine wp_region_lit ?_
  refine fr_call F (wanted_free rfl) 10 rfl (by decide) 18 #[] (by intro a' F'; go_simp) (law26_small HK.env) ?_
  rintro e9 w8 ⟨N1, rfl, hown, hb8⟩
  have HO1 := own_base hown HK.size
  clear hown
  replace HK := HK.below hb8
  clear hb8
  clear w9
  rename World => w9
  refine ⟨_, rfl, ?_⟩
  clear F a9
  intro a9 F
  refine fr_as F (wanted_free rfl) 1 rfl (by decide) 10 rfl rfl ?_
  clear F a9
  intro a9 F
  refine wpList_nil ?_
  show Code.wp _ _ _ _ _
  obtain ⟨hbx, hlo⟩ := own_box HO1 small_len
  clear HO1
  have HK2 := HK.withBox ⟨N1, (ntCells smallT).toArray, 35⟩ hbx hlo (fun x hx => by cases hx)
  clear HK hbx hlo
  have HK := HK2
  clear HK2
  replace HK : Keep w [(N1, (ntCells smallT).toArray, 35)] [] w9 := HK
  replace F := F.cut [(1, .slice (some ⟨N1, 0, none⟩) 3 3), (0, .bool false)] (by kernel_rfl)
  refine wp_seq ?_
  refine wp_region_lit ?_
  refine fr_ch F 3 [(13, .pointer (some ⟨N1, 68, none⟩))] (by kernel_rfl) ?_
  clear F a9
  intro a9 F
  refine fr_putO F HK 0 rfl rfl rfl 4 _ _ rfl 68 (.bool true) (fun a' F' => F'.ev 13 rfl) (fun a' F' => rfl) z_bool (Nat.le_of_ble_eq_true (by kernel_rfl)) (by kernel_rfl) ?_
  intro a10 w10 F' HK' HO
  rw [show setMany (ntCells smallT).toArray 68 (Value.bool true).cells.toList = (ntCells badT).toArray from bad_cells] at HK'
  clear HK F HO
  clear a9 w9
  rename World => w9
  rename Act => a9
  have HK := HK'
  have F := F'
  clear HK' F'
  replace HK : Keep w [(N1, (ntCells badT).toArray, 35)] [] w9 := HK
  refine wpList_nil ?_
  show Code.wp _ _ _ _ _
  replace F := F.cut [(1, .slice (some ⟨N1, 0, none⟩) 3 3), (0, .bool false)] (by kernel_rfl)
  refine wp_seq ?_
  refine wp_region_lit ?_
  refine fr_ch F 1 [(15, .slice (some ⟨N1, 0, none⟩) 3 3)] (by kernel_rfl) ?_
  clear F a9
  intro a9 F
  refine fr_call F (wanted_free rfl) 16 rfl (by decide) 11 #[.slice (some ⟨N1, 0, none⟩) 3 3] (by intro a' F'; have h15 := F'.at' 15 _ rfl; go_simp) (by have h := check_at (l := badT.map (·.1)) (w := w9) (T := badT) (a := (some ⟨N1, 0, none⟩)) (m := 3) (c := 3) HK.env (Below.refl _ _) (box_cellsA (HK.at 0 rfl)) (good_bad w9) (by decide) rfl rfl; rw [bad_check] at h; exact h) ?_
  rintro e9 w8 ⟨rfl, hb8⟩
  replace HK := HK.below hb8
  clear hb8
  clear w9
  rename World => w9
  refine ⟨_, rfl, ?_⟩
  clear F a9
  intro a9 F
  refine fr_mv F (wanted_free rfl) 14 rfl (by decide) 16 rfl rfl ?_
  clear F a9
  intro a9 F
  refine fr_ch F 4 [(3, .int .u8 4), (2, .int .i64 1), (18, .int .u8 4), (17, .int .i64 1)] (by kernel_rfl) ?_
  clear F a9
  intro a9 F
  refine wpList_nil ?_
  show Code.wp _ _ _ _ _
  replace HK := HK.sub (List.nil_sublist _) (fun r hr => hr)
  replace HK : Keep w [] [] w9 := HK
  replace F := F.cut [(3, .int .u8 4), (2, .int .i64 1), (0, .bool false)] (by kernel_rfl)
  refine wp_seq ?_
  refine wp_region_lit ?_
  refine fr_call F (wanted_free rfl) 20 rfl (by decide) 19 #[.int .u8 1, .int .i64 1, .int .i64 1] (by intro a' F'; go_simp) (law26_hello HK.env 1 1 1) ?_
  rintro e9 w8 ⟨rfl, hb8⟩
  replace HK := HK.below hb8
  clear hb8
  clear w9
  rename World => w9
  refine ⟨_, rfl, ?_⟩
  clear F a9
  intro a9 F
  refine fr_call F (wanted_free rfl) 21 rfl (by decide) 19 #[.int .u8 2, .int .i64 1, .int .i64 2] (by intro a' F'; go_simp) (law26_hello HK.env 2 1 2) ?_
  rintro e9 w8 ⟨rfl, hb8⟩
  replace HK := HK.below hb8
  clear hb8
  clear w9
  rename World => w9
  refine ⟨_, rfl, ?_⟩
  clear F a9
  intro a9 F
  obtain ⟨i0, hi, hz0, hz1, hz2⟩ := info_parts infoNtR
  refine fr_doW F (wanted_free rfl) 22 rfl (by decide) (.slice (some ⟨w9.heap.size, 0, none⟩) 2 2) (w9.alloc (.cells (ntCells twoT).toArray 35)) (fun a' F' => run_slice2 22 35 _ _ rfl _ _ (ntCells twoT).toArray (F'.ev 20 rfl) (F'.ev 21 rfl) i0 _ Tryd.underlying22 hi hz0 (by rw [hz1]; decide) (by rw [hz1]; decide) (by rw [hz1]; kernel_rfl)) ?_
  clear F a9
  intro a9 F
  have hb8 : Below w9.heap.size w9 (w9.alloc (.cells (ntCells twoT).toArray 35)) := (Below.refl _ _).alloc (Nat.le_refl _) _
  have hnr : CellsA (w9.alloc (.cells (ntCells twoT).toArray 35)) (some ⟨w9.heap.size, 0, none⟩) ((ntCells twoT)) := cells_new
  replace HK := HK.below hb8
  obtain ⟨Z, hZ⟩ : ∃ Z, w9.heap.size = Z := ⟨_, rfl⟩
  rw [hZ] at hnr F
  clear hb8 hZ hi hz0 hz1 hz2 i0
  generalize w9.alloc (.cells (ntCells twoT).toArray 35) = w8 at *
  clear w9
  rename World => w9
  refine fr_call F (wanted_free rfl) 23 rfl (by decide) 11 #[.slice (some ⟨Z, 0, none⟩) 2 2] (by intro a' F'; have h22 := F'.at' 22 _ rfl; go_simp) (by have h := check_at (l := twoT.map (·.1)) (w := w9) (T := twoT) (a := (some ⟨Z, 0, none⟩)) (m := 2) (c := 2) HK.env (Below.refl _ _) (hnr) (good_two w9) (by decide) rfl rfl; rw [two_check] at h; exact h) ?_
  rintro e9 w8 ⟨rfl, hb8⟩
  clear hnr
  replace HK := HK.below hb8
  clear hb8
  clear w9
  rename World => w9
  refine ⟨_, rfl, ?_⟩
  clear F a9
  intro a9 F
  refine fr_mv F (wanted_free rfl) 19 rfl (by decide) 23 rfl rfl ?_
  clear F a9
  intro a9 F
  refine fr_ch F 4 [(5, .int .u8 3), (4, .int .i64 1), (25, .int .u8 3), (24, .int .i64 1)] (by kernel_rfl) ?_
  clear F a9
  intro a9 F
  refine wpList_nil ?_
  show Code.wp _ _ _ _ _
  replace F := F.cut [(5, .int .u8 3), (4, .int .i64 1), (3, .int .u8 4), (2, .int .i64 1), (0, .bool false)] (by kernel_rfl)
  refine wp_seq ?_
  refine wp_region_lit ?_
  refine fr_ch F 1 [(27, .agg (ntV nineN none 0))] (by kernel_rfl) ?_
  clear F a9
  intro a9 F
  obtain ⟨i0, hi, hz0, hz1, hz2⟩ := info_parts infoNtR
  refine fr_doW F (wanted_free rfl) 28 rfl (by decide) (.slice (some ⟨w9.heap.size, 0, none⟩) 1 1) (w9.alloc (.cells (ntCells nineT).toArray 35)) (fun a' F' => run_slice1 22 35 _ rfl (ntCells nineT).toArray (F'.ev 27 rfl) i0 _ Tryd.underlying22 hi hz0 (by rw [hz1]; decide) (by rw [hz1]; decide) (by rw [hz1]; kernel_rfl)) ?_
  clear F a9
  intro a9 F
  have hb8 : Below w9.heap.size w9 (w9.alloc (.cells (ntCells nineT).toArray 35)) := (Below.refl _ _).alloc (Nat.le_refl _) _
  have hnr : CellsA (w9.alloc (.cells (ntCells nineT).toArray 35)) (some ⟨w9.heap.size, 0, none⟩) ((ntCells nineT)) := cells_new
  replace HK := HK.below hb8
  obtain ⟨Z, hZ⟩ : ∃ Z, w9.heap.size = Z := ⟨_, rfl⟩
  rw [hZ] at hnr F
  clear hb8 hZ hi hz0 hz1 hz2 i0
  generalize w9.alloc (.cells (ntCells nineT).toArray 35) = w8 at *
  clear w9
  rename World => w9
  refine fr_call F (wanted_free rfl) 29 rfl (by decide) 11 #[.slice (some ⟨Z, 0, none⟩) 1 1] (by intro a' F'; have h28 := F'.at' 28 _ rfl; go_simp) (by have h := check_at (l := nineT.map (·.1)) (w := w9) (T := nineT) (a := (some ⟨Z, 0, none⟩)) (m := 1) (c := 1) HK.env (Below.refl _ _) (hnr) (good_nineT w9) (by decide) rfl rfl; rw [nine_check] at h; exact h) ?_
  rintro e9 w8 ⟨rfl, hb8⟩
  clear hnr
  replace HK := HK.below hb8
  clear hb8
  clear w9
  rename World => w9
  refine ⟨_, rfl, ?_⟩
  clear F a9
  intro a9 F
  refine fr_mv F (wanted_free rfl) 26 rfl (by decide) 29 rfl rfl ?_
  clear F a9
  intro a9 F
  refine fr_ch F 4 [(7, .int .u8 1), (6, .int .i64 0), (31, .int .u8 1), (30, .int .i64 0)] (by kernel_rfl) ?_
  clear F a9
  intro a9 F
  refine wpList_nil ?_
  show Code.wp _ _ _ _ _
  replace F := F.cut [(7, .int .u8 1), (6, .int .i64 0), (5, .int .u8 3), (4, .int .i64 1), (3, .int .u8 4), (2, .int .i64 1), (0, .bool false)] (by kernel_rfl)
  refine wp_seq ?_
  refine wp_region_lit ?_
  refine fr_call F (wanted_free rfl) 33 rfl (by decide) 11 #[.slice none 0 0] (by intro a' F'; go_simp) (by have h := check_at (l := (([] : List NtE)).map (·.1)) (w := w9) (T := []) (a := none) (m := 0) (c := 0) HK.env (Below.refl _ _) (CellsA.nil _ _) (fun x hx => by cases hx) (by decide) rfl rfl; rw [nil_check] at h; exact h) ?_
  rintro e9 w8 ⟨rfl, hb8⟩
  replace HK := HK.below hb8
  clear hb8
  clear w9
  rename World => w9
  refine ⟨_, rfl, ?_⟩
  clear F a9
  intro a9 F
  refine fr_mv F (wanted_free rfl) 32 rfl (by decide) 33 rfl rfl ?_
  clear F a9
  intro a9 F
  refine fr_ch F 4 [(9, .int .u8 0), (8, .int .i64 (-1)), (35, .int .u8 0), (34, .int .i64 (-1))] (by kernel_rfl) ?_
  clear F a9
  intro a9 F
  refine wpList_nil ?_
  show Code.wp _ _ _ _ _
  replace F := F.cut [(9, .int .u8 0), (8, .int .i64 (-1)), (7, .int .u8 1), (6, .int .i64 0), (5, .int .u8 3), (4, .int .i64 1), (3, .int .u8 4), (2, .int .i64 1), (0, .bool false)] (by kernel_rfl)
  refine wp_seq ?_
  refine wp_region_lit ?_
  refine fr_ch F 31 [(66, .bool true)] (by kernel_rfl) ?_
  clear F a9
  intro a9 F
  refine fr_call F (by rw [wanted_at F rfl (t := 66) (b := true) (by kernel_rfl) rfl]; rfl) 67 rfl (by decide) 18 #[] (by intro a' F'; go_simp) (law26_small HK.env) ?_
  rintro e9 w8 ⟨N2, rfl, hown, hb8⟩
  have HO2 := own_base hown HK.size
  clear hown
  replace HK := HK.below hb8
  clear hb8
  clear w9
  rename World => w9
  refine ⟨_, rfl, ?_⟩
  clear F a9
  intro a9 F
  obtain ⟨ax, cx, hvx, _, hcx⟩ := own_form HO2
  injection hvx with hvx1 hvx2 hvx3
  subst hvx1 hvx3
  clear hvx2 HO2
  refine fr_call F (by rw [wanted_at F rfl (t := 66) (b := true) (by kernel_rfl) rfl]; rfl) 68 rfl (by decide) 14 #[.slice (some ⟨N2, 0, none⟩) 3 3] (by intro a' F'; have h67 := F'.at' 67 _ rfl; go_simp) (by have h := order_Row HK.env smallT _ 3 hcx (by decide); rw [small_ops] at h; exact h) ?_
  rintro e9 w8 ⟨vr, rfl, hor, hb8⟩
  clear hcx
  have HR1 := own_base hor HK.size
  clear hor
  replace HK := HK.below hb8
  clear hb8
  clear w9
  rename World => w9
  refine ⟨_, rfl, ?_⟩
  clear F a9
  intro a9 F
  obtain ⟨i0, hi, hz0, hz1, hz2⟩ := info_parts infoIn
  refine fr_doW F (by rw [wanted_at F rfl (t := 66) (b := true) (by kernel_rfl) rfl]; rfl) 69 rfl (by decide) (.slice (some ⟨w9.heap.size, 0, none⟩) 1 1) (w9.alloc (.cells [Value.int .i64 1].toArray 3)) (fun a' F' => run_int1 37 3 _ rfl 1 rfl i0 _ Tryd.underlying37 hi hz0 (by rw [hz1]; decide) (by rw [hz1]; decide) (by rw [hz1]; kernel_rfl)) ?_
  clear F a9
  intro a9 F
  have hb8 : Below w9.heap.size w9 (w9.alloc (.cells [Value.int .i64 1].toArray 3)) := (Below.refl _ _).alloc (Nat.le_refl _) _
  have hnr : CellsA (w9.alloc (.cells [Value.int .i64 1].toArray 3)) (some ⟨w9.heap.size, 0, none⟩) (intsI [1]) := cells_new
  replace HK := HK.below hb8
  replace HR1 := own_only HR1 (Only.of_below hb8 (fun _ => False)) (fun _ _ h => h)
  obtain ⟨Z, hZ⟩ : ∃ Z, w9.heap.size = Z := ⟨_, rfl⟩
  rw [hZ] at hnr F
  clear hb8 hZ hi hz0 hz1 hz2 i0
  generalize w9.alloc (.cells [Value.int .i64 1].toArray 3) = w8 at *
  clear w9
  rename World => w9
  obtain ⟨a1, c1, hv1, _, hc1⟩ := own_form HR1
  subst hv1
  clear HR1
  refine fr_call F (by rw [wanted_at F rfl (t := 66) (b := true) (by kernel_rfl) rfl]; rfl) 70 rfl (by decide) 13 #[.slice a1 1 c1, .slice (some ⟨Z, 0, none⟩) 1 1] (by intro a' F'; have h68 := F'.at' 68 _ rfl; have h69 := F'.at' 69 _ rfl; go_simp) (same_Ints HK.env a1 _ c1 1 [1] (by decide) hc1 hnr) ?_
  rintro e9 w8 ⟨rfl, hb8⟩
  clear hc1 hnr
  replace HK := HK.below hb8
  clear hb8
  clear w9
  rename World => w9
  refine ⟨_, rfl, ?_⟩
  clear F a9
  intro a9 F
  refine fr_ch F 2 [(72, .bool true), (71, .bool true)] (by kernel_rfl) ?_
  clear F a9
  intro a9 F
  refine fr_call F (by rw [wanted_at F rfl (t := 72) (b := true) (by kernel_rfl) rfl]; rfl) 73 rfl (by decide) 18 #[] (by intro a' F'; go_simp) (law26_small HK.env) ?_
  rintro e9 w8 ⟨N3, rfl, hown, hb8⟩
  have HO3 := own_base hown HK.size
  clear hown
  replace HK := HK.below hb8
  clear hb8
  clear w9
  rename World => w9
  refine ⟨_, rfl, ?_⟩
  clear F a9
  intro a9 F
  refine fr_call F (by rw [wanted_at F rfl (t := 72) (b := true) (by kernel_rfl) rfl]; rfl) 74 rfl (by decide) 19 #[.int .u8 1, .int .i64 2, .int .i64 2] (by intro a' F'; go_simp) (law26_hello HK.env 1 2 2) ?_
  rintro e9 w8 ⟨rfl, hb8⟩
  replace HK := HK.below hb8
  replace HO3 := own_only HO3 (Only.of_below hb8 (fun _ => False)) (fun _ _ h => h)
  clear hb8
  clear w9
  rename World => w9
  refine ⟨_, rfl, ?_⟩
  clear F a9
  intro a9 F
  obtain ⟨i0, hi, hz0, hz1, hz2⟩ := info_parts infoNtR
  refine fr_doW F (by rw [wanted_at F rfl (t := 72) (b := true) (by kernel_rfl) rfl]; rfl) 75 rfl (by decide) (.slice (some ⟨w9.heap.size, 0, none⟩) 1 1) (w9.alloc (.cells (ntV (helloN 1 2 2) none 0) 35)) (fun a' F' => run_slice1 22 35 _ rfl (ntV (helloN 1 2 2) none 0) (F'.ev 74 rfl) i0 _ Tryd.underlying22 hi hz0 (by rw [hz1]; decide) (by rw [hz1]; decide) (by rw [hz1]; kernel_rfl)) ?_
  clear F a9
  intro a9 F
  have hb8 : Below w9.heap.size w9 (w9.alloc (.cells (ntV (helloN 1 2 2) none 0) 35)) := (Below.refl _ _).alloc (Nat.le_refl _) _
  have hnr : CellsA (w9.alloc (.cells (ntV (helloN 1 2 2) none 0) 35)) (some ⟨w9.heap.size, 0, none⟩) (ntV (helloN 1 2 2) none 0).toList := cells_new
  replace HK := HK.below hb8
  replace HO3 := own_only HO3 (Only.of_below hb8 (fun _ => False)) (fun _ _ h => h)
  obtain ⟨Z, hZ⟩ : ∃ Z, w9.heap.size = Z := ⟨_, rfl⟩
  rw [hZ] at hnr F
  clear hb8 hZ
  generalize w9.alloc (.cells (ntV (helloN 1 2 2) none 0) 35) = w8 at *
  clear w9
  rename World => w9
  obtain ⟨v8, w8, hrun, hown, hgr⟩ := op_append (P := Tryd.prog) (w := w9) (o := ⟨_, .call { callee := .builtin .append, args := #[.tmp 73, .tmp 75], argTypes := #[22, 22] }, _, _, _, _⟩) (.tmp 73) (.tmp 75) 22 rfl w.heap.size 35 i0 _ 35 304 Tryd.underlying22 hi hz0 hz1 hz2 rfl (by decide) (_) (3) (_) HO3 (some ⟨Z, 0, none⟩) (1) (1) (fun h => by cases h) ((ntV (helloN 1 2 2) none 0).toList) rfl hnr (fun u hu => Array.all_eq_true'.1 (nt_one (helloN 1 2 2) none 0) u (Array.mem_def.2 hu)) (by unfold maxLen; omega) (by omega) HK.size
  have HK2 := HK.grownBoxM HO3 (Nat.le_refl _) hgr (by intro z hz; cases hz)
  refine fr_doW F (by rw [wanted_at F rfl (t := 72) (b := true) (by kernel_rfl) rfl]; rfl) 76 rfl (by decide) v8 w8 (fun a' F' => hrun _ (F'.ev 73 rfl) (F'.ev 75 rfl)) ?_
  clear F a9
  intro a9 F
  clear HK HO3 hgr hrun hi hz0 hz1 hz2 i0 hnr
  have HK := HK2
  clear HK2
  clear w9
  rename World => w9
  rw [asks_cells] at hown
  obtain ⟨ax, cx, hvx, _, hcx⟩ := own_form hown
  subst hvx
  clear hown
  refine fr_call F (by rw [wanted_at F rfl (t := 72) (b := true) (by kernel_rfl) rfl]; rfl) 77 rfl (by decide) 16 #[.slice ax 4 cx, .int .i64 1, .int .i64 2] (by intro a' F'; have h76 := F'.at' 76 _ rfl; go_simp) (by have h := order_Ahead HK.env 1 2 asksT _ cx hcx (by decide); rw [asks_ahead] at h; exact h) ?_
  rintro e9 w8 ⟨rfl, hb8⟩
  clear hcx
  replace HK := HK.below hb8
  clear hb8
  clear w9
  rename World => w9
  refine ⟨_, rfl, ?_⟩
  clear F a9
  intro a9 F
  refine fr_ch F 2 [(79, .bool true), (78, .bool true)] (by kernel_rfl) ?_
  clear F a9
  intro a9 F
  refine fr_call F (by rw [wanted_at F rfl (t := 79) (b := true) (by kernel_rfl) rfl]; rfl) 80 rfl (by decide) 18 #[] (by intro a' F'; go_simp) (law26_small HK.env) ?_
  rintro e9 w8 ⟨N4, rfl, hown, hb8⟩
  have HO4 := own_base hown HK.size
  clear hown
  replace HK := HK.below hb8
  clear hb8
  clear w9
  rename World => w9
  refine ⟨_, rfl, ?_⟩
  clear F a9
  intro a9 F
  obtain ⟨ax, cx, hvx, _, hcx⟩ := own_form HO4
  injection hvx with hvx1 hvx2 hvx3
  subst hvx1 hvx3
  clear hvx2 HO4
  refine fr_call F (by rw [wanted_at F rfl (t := 79) (b := true) (by kernel_rfl) rfl]; rfl) 81 rfl (by decide) 16 #[.slice (some ⟨N4, 0, none⟩) 3 3, .int .i64 1, .int .i64 1] (by intro a' F'; have h80 := F'.at' 80 _ rfl; go_simp) (by have h := order_Ahead HK.env 1 1 smallT _ 3 hcx (by decide); rw [small_ahead] at h; exact h) ?_
  rintro e9 w8 ⟨rfl, hb8⟩
  clear hcx
  replace HK := HK.below hb8
  clear hb8
  clear w9
  rename World => w9
  refine ⟨_, rfl, ?_⟩
  clear F a9
  intro a9 F
  refine fr_ch F 3 [(84, .bool true), (83, .bool true), (82, .bool true)] (by kernel_rfl) ?_
  clear F a9
  intro a9 F
  refine fr_call F (by rw [wanted_at F rfl (t := 84) (b := true) (by kernel_rfl) rfl]; rfl) 85 rfl (by decide) 10 #[] (by intro a' F'; go_simp) (law26_awake HK.env) ?_
  rintro e9 w8 ⟨rfl, hb8⟩
  replace HK := HK.below hb8
  clear hb8
  clear w9
  rename World => w9
  refine ⟨_, rfl, ?_⟩
  clear F a9
  intro a9 F
  refine fr_ch F 2 [(0, .bool true), (86, .bool true)] (by kernel_rfl) ?_
  clear F a9
  intro a9 F
  refine wpList_nil ?_
  show Code.wp _ _ _ _ _
  refine wp_ret ?_
  exact fr_ret1 F rfl _ rfl (FIN.out _ HK.low)
end Go.Proofs.YtmppkgonkkffhaaDoor
