/- The walks of law05's Great, reads, fails, awake. Conditions: a machine's bound on the text's size; the decoder's tables lie as Go lays them. -/
import Derived.Test.YtcghokbcjbbbhaaDoorReadDecode
import Derived.Test.YtcghokbcjbbbhaaDoorRefPacketSame
namespace Go.Proofs.YtcghokbcjbbbhaaDoor
open Go.RowKit
/-- A row of a callee's own is one that is read. -/
theorem Keep.ownRow {w0 w9 w8 : World} {L : List Box} {R : List Row} (h : Keep w0 L R w9) (hb : Below w9.heap.size w9 w8) {e : TypeId} {size n m c : Nat} {a : Option Addr} {xs : List Value} (ho : w8.ownsRow w9.heap.size e size (.slice a n c) m xs) : Keep w0 L ((a, xs) :: R) w8 :=
  (h.below hb).rowIn (own_cells ho) (fun _ x hx ad e => by
    have h1 := h.lt hx
    have h2 := (own_lt ho (g := ad.block) (by rw [e]; rfl)).2
    omega)
theorem pk_zero : PkOk Pk.zero := by constructor <;> first | decide | (intro x hx; cases hx)
theorem law05_Great (s : ByteArray) (w : World) : Calls Tryd.prog 27 #[.string s] w fun e w' => e = .returned (.bool (decide (20000 < s.size))) ∧ w = w' := by
  have FIN := Lib.hid (show ∀ b, decide (20000 < s.size) = b → Ending.returned (.bool b) = .returned (.bool (decide (20000 < s.size))) from by rintro b rfl; rfl)
  go_enter Tryd.func27, Tryd.ntmps27
  go_wp2_with fail
  go_ret
  exact ⟨FIN.out _ (by rw [decide_eq_decide]; omega), rfl⟩
set_option maxRecDepth 100000 in
set_option maxHeartbeats 4000000 in
theorem law05_reads (s : ByteArray) (hs : s.size ≤ 90000000) (p : Pk) (hp : PkOk p) (a : Option Addr) (c used : Nat) (h : decR (bl s) = (p, used, 0)) (w : World) (hE : Env w) (hr0 : CellsA w a (subCells p.subs)) : Calls Tryd.prog 59 #[.string s, .agg (pkV p a c), .int .i64 (used : Int)] w fun e w' => e = .returned (.bool true) ∧ Below w.heap.size w w' := by
  have HD := Lib.hid (show ∀ w9, Env w9 → Calls Tryd.prog 29 #[.string s] w9 (RetDec w9 (p, used, 0)) from fun w9 h1 => by
    have h2 := read_Decode s hs w9 h1
    rw [h] at h2
    exact h2)
  have HSM := Lib.hid (show ∀ w9 al cap, Env w9 → CellsA w9 a (subCells p.subs) → CellsA w9 al (subCells p.subs) → Calls Tryd.prog 42 #[.agg (pkV p a c), .agg (pkV p al cap)] w9 fun e w' => e = .returned (.bool true) ∧ Below w9.heap.size w9 w' from fun w9 al cap h1 h2 h3 => by
    have h4 := ref03_Same p p a al c cap w9 h1 hp hp h2 h3
    rw [decide_eq_true rfl] at h4
    exact h4)
  obtain ⟨RR, hRR⟩ : ∃ RR : Ending → World → Prop, RR = fun e w' => e = .returned (.bool true) ∧ Below w.heap.size w w' := ⟨_, rfl⟩
  have FIN := Lib.hid (show ∀ w', Below w.heap.size w w' → RR (.returned (.bool true)) w' from fun w' hb => by rw [hRR]; exact ⟨rfl, hb⟩)
  rw [← hRR]
  obtain ⟨w9, hw9⟩ : ∃ w9, w9 = w := ⟨_, rfl⟩
  have HK : Keep w [] [(a, subCells p.subs)] w9 := by rw [hw9]; exact Keep.begin hE _ (by intro r hr; simp at hr; subst hr; exact hr0)
  suffices hgo : Calls Tryd.prog 59 #[.string s, .agg (pkV p a c), .int .i64 (used : Int)] w9 RR by rw [hw9] at hgo; exact hgo
  clear hw9 hRR hE hr0 h
  go_enter Tryd.func59, Tryd.ntmps59
  refine wp_forget (n := 28) (L := [(2, .int .i64 (used : Int)), (1, .agg (pkV p a c)), (0, .string s)]) (FrL.add (FrL.add (FrL.add (FrL.nil ?_ ?_) _ _ ?_) _ _ ?_) _ _ ?_) ?_
  iterate 5 rfl
  intro a9 F
  refine wp_seq ?_
  refine wp_region_lit ?_
  refine fr_box F HK 4 (by decide) rfl 27 _ rfl rfl (pkV p a c) (fun a' F' => F'.ev 1 rfl) ?_
  rintro P a10 w10 hX F' HK' hb
  clear HK F hb hX
  clear a9 w9
  rename World => w9
  rename Act => a9
  have HK := HK'
  have F := F'
  clear HK' F'
  replace HK : Keep w [(P, (pkV p a c), 27)] [(a, subCells p.subs)] w9 := HK
  refine fr_do F (wanted_free rfl) 6 rfl (by decide) (.bool false) (by intro a' F'; go_simp) ?_
  clear F a9
  intro a9 F
  refine wpList_nil ?_
  show Code.wp _ _ _ _ _
  replace F : FrL 28 [(4, .pointer (some ⟨P, 0, none⟩)), (2, .int .i64 (used : Int)), (0, .string s)] a9 := ((((FrL.nil F.size F.defers).add 0 _ (F.at' 0 _ rfl)).add 2 _ (F.at' 2 _ rfl)).add 4 _ (F.at' 4 _ rfl))
  refine wp_seq ?_
  refine wp_region_lit ?_
  refine fr_do F (wanted_free rfl) 11 rfl (by decide) (.string s) (by intro a' F'; have h0 := F'.at' 0 _ rfl; go_simp) ?_
  clear F a9
  intro a9 F
  refine fr_call F (wanted_free rfl) 12 rfl (by decide) 29 #[.string s] (by intro a' F'; have h11 := F'.at' 11 _ rfl; go_simp) (HD.out _ HK.env) ?_
  rintro e9 w8 ⟨al, cap, rfl, hown, hb8⟩
  replace HK := HK.ownRow hb8 hown
  clear hb8 hown
  clear w9
  rename World => w9
  refine ⟨_, rfl, ?_⟩
  clear F a9
  intro a9 F
  refine fr_do F (wanted_free rfl) 10 rfl (by decide) (.tuple #[.agg (pkV p al cap), .int .i64 (used : Int), .int .i64 ((0 : Nat) : Int)]) (by intro a' F'; have h12 := F'.at' 12 _ rfl; go_simp) ?_
  clear F a9
  intro a9 F
  refine fr_do F (wanted_free rfl) 13 rfl (by decide) (.agg (pkV p al cap)) (by intro a' F'; have h10 := F'.at' 10 _ rfl; go_simp) ?_
  clear F a9
  intro a9 F
  refine fr_do F (wanted_free rfl) 14 rfl (by decide) (.int .i64 (used : Int)) (by intro a' F'; have h10 := F'.at' 10 _ rfl; go_simp) ?_
  clear F a9
  intro a9 F
  refine fr_do F (wanted_free rfl) 15 rfl (by decide) (.int .i64 ((0 : Nat) : Int)) (by intro a' F'; have h10 := F'.at' 10 _ rfl; go_simp) ?_
  clear F a9
  intro a9 F
  obtain ⟨i0, hi, hz0, hz1, hz2⟩ := info_parts infoPkR
  refine fr_new F HK 7 (by decide) rfl 27 rfl rfl rfl (.tmp 13) rfl rfl i0 _ hi hz0 (cells := (pkV p al cap)) hz1 rfl (pk_one _ _ _) (fun a' Y F' => F'.ev 13 rfl) ?_
  rintro Q a10 w10 hX F' HK' hb
  clear HK F hb hX hi hz0 hz1 hz2 i0
  clear a9 w9
  rename World => w9
  rename Act => a9
  have HK := HK'
  have F := F'
  clear HK' F'
  replace HK : Keep w [(Q, (pkV p al cap), 27), (P, (pkV p a c), 27)] [(al, subCells p.subs), (a, subCells p.subs)] w9 := HK
  refine fr_do F (wanted_free rfl) 8 rfl (by decide) (.int .i64 (used : Int)) (by intro a' F'; have h14 := F'.at' 14 _ rfl; go_simp) ?_
  clear F a9
  intro a9 F
  refine fr_do F (wanted_free rfl) 9 rfl (by decide) (.int .i64 ((0 : Nat) : Int)) (by intro a' F'; have h15 := F'.at' 15 _ rfl; go_simp) ?_
  clear F a9
  intro a9 F
  refine wpList_nil ?_
  show Code.wp _ _ _ _ _
  replace F : FrL 28 [(9, .int .i64 ((0 : Nat) : Int)), (8, .int .i64 (used : Int)), (7, .pointer (some ⟨Q, 0, none⟩)), (4, .pointer (some ⟨P, 0, none⟩)), (2, .int .i64 (used : Int)), (0, .string s)] a9 := (((((((FrL.nil F.size F.defers).add 0 _ (F.at' 0 _ rfl)).add 2 _ (F.at' 2 _ rfl)).add 4 _ (F.at' 4 _ rfl)).add 7 _ (F.at' 7 _ rfl)).add 8 _ (F.at' 8 _ rfl)).add 9 _ (F.at' 9 _ rfl))
  refine wp_seq ?_
  refine wp_region_lit ?_
  refine fr_do F (wanted_free rfl) 16 rfl (by decide) (.agg ((pkV p a c))) (by intro a' F'; exact run_load_box rfl (F'.ev 4 rfl) (HK.at 1 rfl) Tryd.underlying27 rfl infoPk) ?_
  clear F a9
  intro a9 F
  refine fr_do F (wanted_free rfl) 17 rfl (by decide) (.agg ((pkV p al cap))) (by intro a' F'; exact run_load_box rfl (F'.ev 7 rfl) (HK.at 0 rfl) Tryd.underlying27 rfl infoPk) ?_
  clear F a9
  intro a9 F
  refine fr_call F (wanted_free rfl) 18 rfl (by decide) 42 #[.agg (pkV p a c), .agg (pkV p al cap)] (by intro a' F'; have h16 := F'.at' 16 _ rfl; have h17 := F'.at' 17 _ rfl; go_simp) (HSM.out _ _ _ HK.env (HK.rowAt 1 rfl) (HK.rowAt 0 rfl)) ?_
  rintro e9 w8 ⟨rfl, hb8⟩
  replace HK := HK.below hb8
  clear hb8
  clear w9
  rename World => w9
  refine ⟨_, rfl, ?_⟩
  clear F a9
  intro a9 F
  refine fr_do F (wanted_free rfl) 19 rfl (by decide) (.bool true) (by intro a' F'; have h18 := F'.at' 18 _ rfl; go_simp) ?_
  clear F a9
  intro a9 F
  refine fr_do F (by rw [wanted_at F rfl (t := 19) (b := true) (by kernel_rfl) rfl]; rfl) 20 rfl (by decide) (.int .i64 (used : Int)) (by intro a' F'; have h8 := F'.at' 8 _ rfl; go_simp) ?_
  clear F a9
  intro a9 F
  refine fr_do F (by rw [wanted_at F rfl (t := 19) (b := true) (by kernel_rfl) rfl]; rfl) 21 rfl (by decide) (.int .i64 (used : Int)) (by intro a' F'; have h2 := F'.at' 2 _ rfl; go_simp) ?_
  clear F a9
  intro a9 F
  refine fr_do F (by rw [wanted_at F rfl (t := 19) (b := true) (by kernel_rfl) rfl]; rfl) 22 rfl (by decide) (.bool true) (by intro a' F'; have h20 := F'.at' 20 _ rfl; have h21 := F'.at' 21 _ rfl; go_simp <;> first | rfl | omega | (rw [IntKind.wrap_i64]; omega) | (intro hcon; exfalso; omega) | (rw [Bool.eq_iff_iff]; simp; omega) | (rw [decide_eq_decide]; omega) | (congr 1; omega) | (congr 2; omega)) ?_
  clear F a9
  intro a9 F
  refine fr_do F (wanted_free rfl) 23 rfl (by decide) (.bool true) (by intro a' F'; have h19 := F'.at' 19 _ rfl; have h22 := F'.at' 22 _ rfl; go_simp) ?_
  clear F a9
  intro a9 F
  refine fr_do F (wanted_free rfl) 24 rfl (by decide) (.bool true) (by intro a' F'; have h23 := F'.at' 23 _ rfl; go_simp) ?_
  clear F a9
  intro a9 F
  refine fr_do F (by rw [wanted_at F rfl (t := 24) (b := true) (by kernel_rfl) rfl]; rfl) 25 rfl (by decide) (.int .i64 ((0 : Nat) : Int)) (by intro a' F'; have h9 := F'.at' 9 _ rfl; go_simp) ?_
  clear F a9
  intro a9 F
  refine fr_do F (by rw [wanted_at F rfl (t := 24) (b := true) (by kernel_rfl) rfl]; rfl) 26 rfl (by decide) (.bool true) (by intro a' F'; have h25 := F'.at' 25 _ rfl; go_simp <;> first | rfl | omega | (rw [IntKind.wrap_i64]; omega) | (intro hcon; exfalso; omega) | (rw [Bool.eq_iff_iff]; simp; omega) | (rw [decide_eq_decide]; omega) | (congr 1; omega) | (congr 2; omega)) ?_
  clear F a9
  intro a9 F
  refine fr_do F (wanted_free rfl) 27 rfl (by decide) (.bool true) (by intro a' F'; have h24 := F'.at' 24 _ rfl; have h26 := F'.at' 26 _ rfl; go_simp) ?_
  clear F a9
  intro a9 F
  refine fr_do F (wanted_free rfl) 6 rfl (by decide) (.bool true) (by intro a' F'; have h27 := F'.at' 27 _ rfl; go_simp) ?_
  clear F a9
  intro a9 F
  refine wpList_nil ?_
  show Code.wp _ _ _ _ _
  refine wp_ret ?_
  exact fr_ret1 F rfl _ rfl (FIN.out _ HK.low)
set_option maxRecDepth 100000 in
set_option maxHeartbeats 4000000 in
theorem law05_fails (s : ByteArray) (hs : s.size ≤ 90000000) (e : Nat) (h : decR (bl s) = (Pk.zero, 0, e)) (w : World) (hE : Env w) : Calls Tryd.prog 32 #[.string s, .int .i64 (e : Int)] w fun e w' => e = .returned (.bool true) ∧ Below w.heap.size w w' := by
  have HD := Lib.hid (show ∀ w9, Env w9 → Calls Tryd.prog 29 #[.string s] w9 (RetDec w9 (Pk.zero, 0, e)) from fun w9 h1 => by
    have h2 := read_Decode s hs w9 h1
    rw [h] at h2
    exact h2)
  have HSM := Lib.hid (show ∀ w9 al cap, Env w9 → Calls Tryd.prog 42 #[.agg (pkV Pk.zero al cap), .agg (pkV Pk.zero none 0)] w9 fun e w' => e = .returned (.bool true) ∧ Below w9.heap.size w9 w' from fun w9 al cap h1 => by
    have h4 := ref03_Same Pk.zero Pk.zero al none cap 0 w9 h1 pk_zero pk_zero (CellsA.nil _ _) (CellsA.nil _ _)
    rw [decide_eq_true rfl] at h4
    exact h4)
  obtain ⟨RR, hRR⟩ : ∃ RR : Ending → World → Prop, RR = fun e w' => e = .returned (.bool true) ∧ Below w.heap.size w w' := ⟨_, rfl⟩
  have FIN := Lib.hid (show ∀ w', Below w.heap.size w w' → RR (.returned (.bool true)) w' from fun w' hb => by rw [hRR]; exact ⟨rfl, hb⟩)
  rw [← hRR]
  obtain ⟨w9, hw9⟩ : ∃ w9, w9 = w := ⟨_, rfl⟩
  have HK : Keep w [] [] w9 := by rw [hw9]; exact Keep.begin hE _ (by intro r hr; cases hr)
  suffices hgo : Calls Tryd.prog 32 #[.string s, .int .i64 (e : Int)] w9 RR by rw [hw9] at hgo; exact hgo
  clear hw9 hRR hE h
  go_enter Tryd.func32, Tryd.ntmps32
  refine wp_forget (n := 26) (L := [(1, .int .i64 (e : Int)), (0, .string s)]) (FrL.add (FrL.add (FrL.nil ?_ ?_) _ _ ?_) _ _ ?_) ?_
  iterate 4 rfl
  intro a9 F
  refine wp_seq ?_
  refine wp_region_lit ?_
  refine fr_do F (wanted_free rfl) 4 rfl (by decide) (.bool false) (by intro a' F'; go_simp) ?_
  clear F a9
  intro a9 F
  refine wpList_nil ?_
  show Code.wp _ _ _ _ _
  replace F : FrL 26 [(1, .int .i64 (e : Int)), (0, .string s)] a9 := (((FrL.nil F.size F.defers).add 0 _ (F.at' 0 _ rfl)).add 1 _ (F.at' 1 _ rfl))
  refine wp_seq ?_
  refine wp_region_lit ?_
  refine fr_do F (wanted_free rfl) 9 rfl (by decide) (.string s) (by intro a' F'; have h0 := F'.at' 0 _ rfl; go_simp) ?_
  clear F a9
  intro a9 F
  refine fr_call F (wanted_free rfl) 10 rfl (by decide) 29 #[.string s] (by intro a' F'; have h9 := F'.at' 9 _ rfl; go_simp) (HD.out _ HK.env) ?_
  rintro e9 w8 ⟨al, cap, rfl, hown, hb8⟩
  replace HK := HK.ownRow hb8 hown
  clear hb8 hown
  clear w9
  rename World => w9
  refine ⟨_, rfl, ?_⟩
  clear F a9
  intro a9 F
  refine fr_do F (wanted_free rfl) 8 rfl (by decide) (.tuple #[.agg (pkV Pk.zero al cap), .int .i64 ((0 : Nat) : Int), .int .i64 (e : Int)]) (by intro a' F'; have h10 := F'.at' 10 _ rfl; go_simp) ?_
  clear F a9
  intro a9 F
  refine fr_do F (wanted_free rfl) 11 rfl (by decide) (.agg (pkV Pk.zero al cap)) (by intro a' F'; have h8 := F'.at' 8 _ rfl; go_simp) ?_
  clear F a9
  intro a9 F
  refine fr_do F (wanted_free rfl) 12 rfl (by decide) (.int .i64 ((0 : Nat) : Int)) (by intro a' F'; have h8 := F'.at' 8 _ rfl; go_simp) ?_
  clear F a9
  intro a9 F
  refine fr_do F (wanted_free rfl) 13 rfl (by decide) (.int .i64 (e : Int)) (by intro a' F'; have h8 := F'.at' 8 _ rfl; go_simp) ?_
  clear F a9
  intro a9 F
  obtain ⟨i0, hi, hz0, hz1, hz2⟩ := info_parts infoPkR
  refine fr_new F HK 5 (by decide) rfl 27 rfl rfl rfl (.tmp 11) rfl rfl i0 _ hi hz0 (cells := (pkV Pk.zero al cap)) hz1 rfl (pk_one _ _ _) (fun a' Y F' => F'.ev 11 rfl) ?_
  rintro Q a10 w10 hX F' HK' hb
  clear HK F hb hX hi hz0 hz1 hz2 i0
  clear a9 w9
  rename World => w9
  rename Act => a9
  have HK := HK'
  have F := F'
  clear HK' F'
  replace HK : Keep w [(Q, (pkV Pk.zero al cap), 27)] [(al, subCells Pk.zero.subs)] w9 := HK
  refine fr_do F (wanted_free rfl) 6 rfl (by decide) (.int .i64 ((0 : Nat) : Int)) (by intro a' F'; have h12 := F'.at' 12 _ rfl; go_simp) ?_
  clear F a9
  intro a9 F
  refine fr_do F (wanted_free rfl) 7 rfl (by decide) (.int .i64 (e : Int)) (by intro a' F'; have h13 := F'.at' 13 _ rfl; go_simp) ?_
  clear F a9
  intro a9 F
  refine wpList_nil ?_
  show Code.wp _ _ _ _ _
  replace F : FrL 26 [(7, .int .i64 (e : Int)), (6, .int .i64 ((0 : Nat) : Int)), (5, .pointer (some ⟨Q, 0, none⟩)), (1, .int .i64 (e : Int)), (0, .string s)] a9 := ((((((FrL.nil F.size F.defers).add 0 _ (F.at' 0 _ rfl)).add 1 _ (F.at' 1 _ rfl)).add 5 _ (F.at' 5 _ rfl)).add 6 _ (F.at' 6 _ rfl)).add 7 _ (F.at' 7 _ rfl))
  refine wp_seq ?_
  refine wp_region_lit ?_
  refine fr_do F (wanted_free rfl) 14 rfl (by decide) (.agg ((pkV Pk.zero al cap))) (by intro a' F'; exact run_load_box rfl (F'.ev 5 rfl) (HK.at 0 rfl) Tryd.underlying27 rfl infoPk) ?_
  clear F a9
  intro a9 F
  refine fr_do F (wanted_free rfl) 15 rfl (by decide) (.agg (pkV Pk.zero none 0)) (by intro a' F'; exact run_build_to rfl (by simp only [List.map_toArray, List.map_nil, Act.eval]; kernel_rfl)) ?_
  clear F a9
  intro a9 F
  refine fr_call F (wanted_free rfl) 16 rfl (by decide) 42 #[.agg (pkV Pk.zero al cap), .agg (pkV Pk.zero none 0)] (by intro a' F'; have h14 := F'.at' 14 _ rfl; have h15 := F'.at' 15 _ rfl; go_simp) (HSM.out _ _ _ HK.env) ?_
  rintro e9 w8 ⟨rfl, hb8⟩
  replace HK := HK.below hb8
  clear hb8
  clear w9
  rename World => w9
  refine ⟨_, rfl, ?_⟩
  clear F a9
  intro a9 F
  refine fr_do F (wanted_free rfl) 17 rfl (by decide) (.bool true) (by intro a' F'; have h16 := F'.at' 16 _ rfl; go_simp) ?_
  clear F a9
  intro a9 F
  refine fr_do F (by rw [wanted_at F rfl (t := 17) (b := true) (by kernel_rfl) rfl]; rfl) 18 rfl (by decide) (.int .i64 ((0 : Nat) : Int)) (by intro a' F'; have h6 := F'.at' 6 _ rfl; go_simp) ?_
  clear F a9
  intro a9 F
  refine fr_do F (by rw [wanted_at F rfl (t := 17) (b := true) (by kernel_rfl) rfl]; rfl) 19 rfl (by decide) (.bool true) (by intro a' F'; have h18 := F'.at' 18 _ rfl; go_simp <;> first | rfl | omega | (rw [IntKind.wrap_i64]; omega) | (intro hcon; exfalso; omega) | (rw [Bool.eq_iff_iff]; simp; omega) | (rw [decide_eq_decide]; omega) | (congr 1; omega) | (congr 2; omega)) ?_
  clear F a9
  intro a9 F
  refine fr_do F (wanted_free rfl) 20 rfl (by decide) (.bool true) (by intro a' F'; have h17 := F'.at' 17 _ rfl; have h19 := F'.at' 19 _ rfl; go_simp) ?_
  clear F a9
  intro a9 F
  refine fr_do F (wanted_free rfl) 21 rfl (by decide) (.bool true) (by intro a' F'; have h20 := F'.at' 20 _ rfl; go_simp) ?_
  clear F a9
  intro a9 F
  refine fr_do F (by rw [wanted_at F rfl (t := 21) (b := true) (by kernel_rfl) rfl]; rfl) 22 rfl (by decide) (.int .i64 (e : Int)) (by intro a' F'; have h7 := F'.at' 7 _ rfl; go_simp) ?_
  clear F a9
  intro a9 F
  refine fr_do F (by rw [wanted_at F rfl (t := 21) (b := true) (by kernel_rfl) rfl]; rfl) 23 rfl (by decide) (.int .i64 (e : Int)) (by intro a' F'; have h1 := F'.at' 1 _ rfl; go_simp) ?_
  clear F a9
  intro a9 F
  refine fr_do F (by rw [wanted_at F rfl (t := 21) (b := true) (by kernel_rfl) rfl]; rfl) 24 rfl (by decide) (.bool true) (by intro a' F'; have h22 := F'.at' 22 _ rfl; have h23 := F'.at' 23 _ rfl; go_simp <;> first | rfl | omega | (rw [IntKind.wrap_i64]; omega) | (intro hcon; exfalso; omega) | (rw [Bool.eq_iff_iff]; simp; omega) | (rw [decide_eq_decide]; omega) | (congr 1; omega) | (congr 2; omega)) ?_
  clear F a9
  intro a9 F
  refine fr_do F (wanted_free rfl) 25 rfl (by decide) (.bool true) (by intro a' F'; have h21 := F'.at' 21 _ rfl; have h24 := F'.at' 24 _ rfl; go_simp) ?_
  clear F a9
  intro a9 F
  refine fr_do F (wanted_free rfl) 4 rfl (by decide) (.bool true) (by intro a' F'; have h25 := F'.at' 25 _ rfl; go_simp) ?_
  clear F a9
  intro a9 F
  refine wpList_nil ?_
  show Code.wp _ _ _ _ _
  refine wp_ret ?_
  exact fr_ret1 F rfl _ rfl (FIN.out _ HK.low)
def aw1 : Pk := { Pk.zero with ty := 3, qos := 1, ret := true, id := 7, topic := ⟨#[97, 47, 98]⟩, payload := ⟨#[104, 105]⟩ }
def aw2 : Pk := { Pk.zero with ty := 12 }
theorem aw_1 (w : World) (hE : Env w) (hr0 : CellsA w none (subCells aw1.subs)) : Calls Tryd.prog 59 #[.string ⟨#[51, 9, 0, 3, 97, 47, 98, 0, 7, 104, 105, 255]⟩, .agg (pkV aw1 none 0), .int .i64 ((11 : Nat) : Int)] w (fun e w' => e = .returned (.bool true) ∧ Below w.heap.size w w') := law05_reads ⟨#[51, 9, 0, 3, 97, 47, 98, 0, 7, 104, 105, 255]⟩ (by decide) aw1 (by constructor <;> first | decide | (intro x hx; cases hx)) none 0 11 (by kernel_rfl) w hE hr0
theorem aw_2 (w : World) (hE : Env w) (hr0 : CellsA w none (subCells aw2.subs)) : Calls Tryd.prog 59 #[.string ⟨#[192, 128, 0]⟩, .agg (pkV aw2 none 0), .int .i64 ((3 : Nat) : Int)] w (fun e w' => e = .returned (.bool true) ∧ Below w.heap.size w w') := law05_reads ⟨#[192, 128, 0]⟩ (by decide) aw2 (by constructor <;> first | decide | (intro x hx; cases hx)) none 0 3 (by kernel_rfl) w hE hr0
theorem aw_3 (w : World) (hE : Env w) : Calls Tryd.prog 32 #[.string ⟨#[48, 5, 0]⟩, .int .i64 ((2 : Nat) : Int)] w (fun e w' => e = .returned (.bool true) ∧ Below w.heap.size w w') := law05_fails ⟨#[48, 5, 0]⟩ (by decide) 2 (by kernel_rfl) w hE
theorem aw_4 (w : World) (hE : Env w) : Calls Tryd.prog 32 #[.string ⟨#[54]⟩, .int .i64 ((4 : Nat) : Int)] w (fun e w' => e = .returned (.bool true) ∧ Below w.heap.size w w') := law05_fails ⟨#[54]⟩ (by decide) 4 (by kernel_rfl) w hE
theorem aw_5 (w : World) (hE : Env w) : Calls Tryd.prog 32 #[.string ⟨#[130, 2, 0, 1]⟩, .int .i64 ((4 : Nat) : Int)] w (fun e w' => e = .returned (.bool true) ∧ Below w.heap.size w w') := law05_fails ⟨#[130, 2, 0, 1]⟩ (by decide) 4 (by kernel_rfl) w hE
set_option maxRecDepth 100000 in
set_option maxHeartbeats 4000000 in
theorem law05_awake (w : World) (hE : Env w) : Calls Tryd.prog 28 #[] w fun e w' => e = .returned (.bool true) ∧ Below w.heap.size w w' := by
  obtain ⟨RR, hRR⟩ : ∃ RR : Ending → World → Prop, RR = fun e w' => e = .returned (.bool true) ∧ Below w.heap.size w w' := ⟨_, rfl⟩
  have FIN := Lib.hid (show ∀ w', Below w.heap.size w w' → RR (.returned (.bool true)) w' from fun w' hb => by rw [hRR]; exact ⟨rfl, hb⟩)
  rw [← hRR]
  obtain ⟨w9, hw9⟩ : ∃ w9, w9 = w := ⟨_, rfl⟩
  have HK : Keep w [] [] w9 := by rw [hw9]; exact Keep.begin hE _ (by intro r hr; cases hr)
  suffices hgo : Calls Tryd.prog 28 #[] w9 RR by rw [hw9] at hgo; exact hgo
  clear hw9 hRR hE
  go_enter Tryd.func28, Tryd.ntmps28
  refine wp_forget (n := 23) (L := []) (FrL.nil ?_ ?_) ?_
  iterate 2 rfl
  intro a9 F
  refine wp_seq ?_
  refine wp_region_lit ?_
  refine fr_do F (wanted_free rfl) 0 rfl (by decide) (.bool false) (by intro a' F'; go_simp) ?_
  clear F a9
  intro a9 F
  refine wpList_nil ?_
  show Code.wp _ _ _ _ _
  replace F : FrL 23 [] a9 := FrL.nil F.size F.defers
  refine wp_seq ?_
  refine wp_region_lit ?_
  refine fr_do F (wanted_free rfl) 1 rfl (by decide) (.agg (pkV aw1 none 0)) (by intro a' F'; exact run_build_to rfl (by simp only [List.map_toArray, List.map_cons, List.map_nil, Act.eval]; kernel_rfl)) ?_
  clear F a9
  intro a9 F
  refine fr_call F (wanted_free rfl) 2 rfl (by decide) 59 #[.string ⟨#[51, 9, 0, 3, 97, 47, 98, 0, 7, 104, 105, 255]⟩, .agg (pkV aw1 none 0), .int .i64 ((11 : Nat) : Int)] (by intro a' F'; have h1 := F'.at' 1 _ rfl; go_simp) (aw_1 _ HK.env (CellsA.nil _ _)) ?_
  rintro e9 w8 ⟨rfl, hb8⟩
  replace HK := HK.below hb8
  clear hb8
  clear w9
  rename World => w9
  refine ⟨_, rfl, ?_⟩
  clear F a9
  intro a9 F
  refine fr_do F (wanted_free rfl) 3 rfl (by decide) (.bool true) (by intro a' F'; have h2 := F'.at' 2 _ rfl; go_simp) ?_
  clear F a9
  intro a9 F
  refine fr_do F (by rw [wanted_at F rfl (t := 3) (b := true) (by kernel_rfl) rfl]; rfl) 4 rfl (by decide) (.agg (pkV aw2 none 0)) (by intro a' F'; exact run_build_to rfl (by simp only [List.map_toArray, List.map_cons, List.map_nil, Act.eval]; kernel_rfl)) ?_
  clear F a9
  intro a9 F
  refine fr_call F (by rw [wanted_at F rfl (t := 3) (b := true) (by kernel_rfl) rfl]; rfl) 5 rfl (by decide) 59 #[.string ⟨#[192, 128, 0]⟩, .agg (pkV aw2 none 0), .int .i64 ((3 : Nat) : Int)] (by intro a' F'; have h4 := F'.at' 4 _ rfl; go_simp) (aw_2 _ HK.env (CellsA.nil _ _)) ?_
  rintro e9 w8 ⟨rfl, hb8⟩
  replace HK := HK.below hb8
  clear hb8
  clear w9
  rename World => w9
  refine ⟨_, rfl, ?_⟩
  clear F a9
  intro a9 F
  refine fr_do F (wanted_free rfl) 6 rfl (by decide) (.bool true) (by intro a' F'; have h3 := F'.at' 3 _ rfl; have h5 := F'.at' 5 _ rfl; go_simp) ?_
  clear F a9
  intro a9 F
  refine fr_do F (wanted_free rfl) 7 rfl (by decide) (.bool true) (by intro a' F'; have h6 := F'.at' 6 _ rfl; go_simp) ?_
  clear F a9
  intro a9 F
  refine fr_call F (by rw [wanted_at F rfl (t := 7) (b := true) (by kernel_rfl) rfl]; rfl) 8 rfl (by decide) 32 #[.string ⟨#[48, 5, 0]⟩, .int .i64 ((2 : Nat) : Int)] (by intro a' F'; go_simp) (aw_3 _ HK.env) ?_
  rintro e9 w8 ⟨rfl, hb8⟩
  replace HK := HK.below hb8
  clear hb8
  clear w9
  rename World => w9
  refine ⟨_, rfl, ?_⟩
  clear F a9
  intro a9 F
  refine fr_do F (wanted_free rfl) 9 rfl (by decide) (.bool true) (by intro a' F'; have h7 := F'.at' 7 _ rfl; have h8 := F'.at' 8 _ rfl; go_simp) ?_
  clear F a9
  intro a9 F
  refine fr_do F (wanted_free rfl) 10 rfl (by decide) (.bool true) (by intro a' F'; have h9 := F'.at' 9 _ rfl; go_simp) ?_
  clear F a9
  intro a9 F
  refine fr_call F (by rw [wanted_at F rfl (t := 10) (b := true) (by kernel_rfl) rfl]; rfl) 11 rfl (by decide) 32 #[.string ⟨#[54]⟩, .int .i64 ((4 : Nat) : Int)] (by intro a' F'; go_simp) (aw_4 _ HK.env) ?_
  rintro e9 w8 ⟨rfl, hb8⟩
  replace HK := HK.below hb8
  clear hb8
  clear w9
  rename World => w9
  refine ⟨_, rfl, ?_⟩
  clear F a9
  intro a9 F
  refine fr_do F (wanted_free rfl) 12 rfl (by decide) (.bool true) (by intro a' F'; have h10 := F'.at' 10 _ rfl; have h11 := F'.at' 11 _ rfl; go_simp) ?_
  clear F a9
  intro a9 F
  refine fr_do F (wanted_free rfl) 13 rfl (by decide) (.bool true) (by intro a' F'; have h12 := F'.at' 12 _ rfl; go_simp) ?_
  clear F a9
  intro a9 F
  refine fr_call F (by rw [wanted_at F rfl (t := 13) (b := true) (by kernel_rfl) rfl]; rfl) 14 rfl (by decide) 32 #[.string ⟨#[130, 2, 0, 1]⟩, .int .i64 ((4 : Nat) : Int)] (by intro a' F'; go_simp) (aw_5 _ HK.env) ?_
  rintro e9 w8 ⟨rfl, hb8⟩
  replace HK := HK.below hb8
  clear hb8
  clear w9
  rename World => w9
  refine ⟨_, rfl, ?_⟩
  clear F a9
  intro a9 F
  refine fr_do F (wanted_free rfl) 15 rfl (by decide) (.bool true) (by intro a' F'; have h13 := F'.at' 13 _ rfl; have h14 := F'.at' 14 _ rfl; go_simp) ?_
  clear F a9
  intro a9 F
  refine fr_do F (wanted_free rfl) 16 rfl (by decide) (.bool true) (by intro a' F'; have h15 := F'.at' 15 _ rfl; go_simp) ?_
  clear F a9
  intro a9 F
  refine fr_call F (by rw [wanted_at F rfl (t := 16) (b := true) (by kernel_rfl) rfl]; rfl) 17 rfl (by decide) 31 #[.int .u8 ((98 : Nat) : Int)] (by intro a' F'; go_simp) (read_First 98 (by decide) _) ?_
  rintro e9 w8 ⟨rfl, rfl⟩
  rw [show firstOk 98 = true from rfl]
  refine ⟨_, rfl, ?_⟩
  clear F a9
  intro a9 F
  refine fr_do F (wanted_free rfl) 18 rfl (by decide) (.bool true) (by intro a' F'; have h16 := F'.at' 16 _ rfl; have h17 := F'.at' 17 _ rfl; go_simp) ?_
  clear F a9
  intro a9 F
  refine fr_do F (wanted_free rfl) 19 rfl (by decide) (.bool true) (by intro a' F'; have h18 := F'.at' 18 _ rfl; go_simp) ?_
  clear F a9
  intro a9 F
  refine fr_call F (by rw [wanted_at F rfl (t := 19) (b := true) (by kernel_rfl) rfl]; rfl) 20 rfl (by decide) 31 #[.int .u8 ((96 : Nat) : Int)] (by intro a' F'; go_simp) (read_First 96 (by decide) _) ?_
  rintro e9 w8 ⟨rfl, rfl⟩
  rw [show firstOk 96 = false from rfl]
  refine ⟨_, rfl, ?_⟩
  clear F a9
  intro a9 F
  refine fr_do F (by rw [wanted_at F rfl (t := 19) (b := true) (by kernel_rfl) rfl]; rfl) 21 rfl (by decide) (.bool true) (by intro a' F'; have h20 := F'.at' 20 _ rfl; go_simp) ?_
  clear F a9
  intro a9 F
  refine fr_do F (wanted_free rfl) 22 rfl (by decide) (.bool true) (by intro a' F'; have h19 := F'.at' 19 _ rfl; have h21 := F'.at' 21 _ rfl; go_simp) ?_
  clear F a9
  intro a9 F
  refine fr_do F (wanted_free rfl) 0 rfl (by decide) (.bool true) (by intro a' F'; have h22 := F'.at' 22 _ rfl; go_simp) ?_
  clear F a9
  intro a9 F
  refine wpList_nil ?_
  show Code.wp _ _ _ _ _
  refine wp_ret ?_
  exact fr_ret1 F rfl _ rfl (FIN.out _ HK.low)
end Go.Proofs.YtcghokbcjbbbhaaDoor
