/- The walk of law06's awake. Conditions: the decoder's tables lie as Go lays them. -/
import Derived.Test.YtfljdlaelanliaaDoorFrameE
namespace Go.Proofs.YtfljdlaelanliaaDoor
open Go.RowKit
theorem told_in {w : World} {Bs : Nat} {T : List TdE} (h : SubsIn w Bs T) (hp : ∀ x ∈ T, PkOk x.1.1) : TdIn w T := fun x hx => ⟨hp x hx, own_cells (h x hx)⟩
def awL : List TdE := [(({ Pk.zero with ty := 14 }, none, 0), 0), ((Pk.zero, none, 0), 3)]
theorem FrC.cons {w0 w : World} {B : List Box} {X m e : Nat} {L : Bs} {a : Option Addr} {c : Nat} {b : Box} (h : Keep w0 (b :: (X, frV m a L.length c e, 54) :: B) [] w) (h2 : Out w w0.heap.size (.slice a L.length c) L) : FrC w0 (b :: B) X m L e w := ⟨a, c, h.swap, h2⟩
theorem run_sliceA2 {P : Program} {w : World} {o : Oper} {ρ : Operand → Value} (t e : TypeId) (x y : Operand) (ho : o.op = .buildSlice t 2 #[(0, x), (1, y)]) (u v : Array Value) (hx : ρ x = .agg u) (hy : ρ y = .agg v) (cells : Array Value) (ie : TypeInfo) (zz : Value)
    (hu : P.underlying t = some (.slice e)) (hie : P.info? e = some ie) (hz : ie.zero = some zz) (hsmall : ¬ 2 * ie.size > 2 ^ 24) (hpos : ¬ 2 * ie.size = 0)
    (h : Instr.fill (fun i => some (i * ie.size, ie.size)) ((Array.range (2 * ie.size)).map (zz.cells[· % zz.cells.size]!)) [(0, .agg u), (1, .agg v)] = some cells) :
    (execOp ρ o).run P w = .ok (.value (.slice (some ⟨w.heap.size, 0, none⟩) 2 2)) (w.alloc (.cells cells e)) := by
  have hr := run_buildSlice (P := P) w t e 2 #[(0, .agg u), (1, .agg v)] cells ie zz hu hie hz hsmall hpos h
  unfold execOp
  simp only [ho, List.map_toArray, List.map_cons, List.map_nil, hx, hy, Sem.run_bind, hr, Result.andThen_ok, Sem.run_pure]
set_option maxRecDepth 100000 in
set_option maxHeartbeats 4000000 in
theorem law06_awake (w : World) (hE : Env w) : Calls Tryd.prog 25 #[] w fun e w' => e = .returned (.bool true) ∧ Below w.heap.size w w' := by
  obtain ⟨RR, hRR⟩ : ∃ RR : Ending → World → Prop, RR = fun e w' => e = .returned (.bool true) ∧ Below w.heap.size w w' := ⟨_, rfl⟩
  have FIN := Lib.hid (show ∀ w', Below w.heap.size w w' → RR (.returned (.bool true)) w' from fun w' hb => by rw [hRR]; exact ⟨rfl, hb⟩)
  rw [← hRR]
  obtain ⟨w9, hw9⟩ : ∃ w9, w9 = w := ⟨_, rfl⟩
  have HK : Keep w [] [] w9 := by rw [hw9]; exact Keep.begin hE _ (by intro r hr; cases hr)
  suffices hgo : Calls Tryd.prog 25 #[] w9 RR by rw [hw9] at hgo; exact hgo
  clear hw9 hRR hE
  go_enter Tryd.func25, Tryd.ntmps25
  refine wp_forget (n := 93) (L := []) (FrL.nil ?_ ?_) ?_
  iterate 2 rfl
  intro a9 F
  refine wp_seq ?_
  refine wp_region_lit ?_
  refine fr_ch F 1 [(0, .bool false)] (by kernel_rfl) ?_
  clear F a9
  intro a9 F
  refine wpList_nil ?_
  show Code.wp _ _ _ _ _
  replace F : FrL 93 [] a9 := FrL.nil F.size F.defers
  refine wp_seq ?_
  refine wp_region_lit ?_
  refine fr_call F (wanted_free rfl) 13 rfl (by decide) 18 #[.int .i64 ((16 : Nat) : Int)] (by intro a' F'; go_simp) (frame_New 16 (by decide) (by decide) HK) ?_
  rintro e9 w8 ⟨X, rfl, HFC, hb8⟩
  clear HK hb8
  clear w9
  rename World => w9
  refine ⟨_, rfl, ?_⟩
  clear F a9
  intro a9 F
  refine fr_ch F 1 [(1, .pointer (some ⟨X, 0, none⟩))] (by kernel_rfl) ?_
  clear F a9
  intro a9 F
  refine wpList_nil ?_
  show Code.wp _ _ _ _ _
  replace F := F.cut [(1, .pointer (some ⟨X, 0, none⟩))] (by kernel_rfl)
  refine wp_seq ?_
  refine wp_seq ?_
  refine wp_region_lit ?_
  refine fr_ch F 3 [(16, .bool false), (15, .bool false), (14, .pointer (some ⟨X, 0, none⟩))] (by kernel_rfl) ?_
  clear F a9
  intro a9 F
  refine fr_call F (by rw [wanted_at F rfl (t := 16) (b := false) (by kernel_rfl) rfl]; rfl) 17 rfl (by decide) 18 #[.int .i64 15] (by intro a' F'; go_simp) (frame_New_no 15 (by decide) w9) ?_
  rintro e9 w8 ⟨rfl, rfl⟩
  refine ⟨_, rfl, ?_⟩
  clear F a9
  intro a9 F
  refine fr_ch F 3 [(20, .bool false), (19, .bool false), (18, .bool false)] (by kernel_rfl) ?_
  clear F a9
  intro a9 F
  refine fr_call F (by rw [wanted_at F rfl (t := 20) (b := false) (by kernel_rfl) rfl]; rfl) 21 rfl (by decide) 18 #[.int .i64 65537] (by intro a' F'; go_simp) (frame_New_no 65537 (by decide) w9) ?_
  rintro e9 w8 ⟨rfl, rfl⟩
  refine ⟨_, rfl, ?_⟩
  clear F a9
  intro a9 F
  refine fr_ch F 2 [(23, .bool false), (22, .bool false)] (by kernel_rfl) ?_
  clear F a9
  intro a9 F
  refine wpList_nil ?_
  show Code.wp _ _ _ _ _
  refine wp_cond_false (F.ev 23 rfl) ?_
  refine wp_skip ?_
  show Code.wp _ _ _ _ _
  replace F := F.cut [(1, .pointer (some ⟨X, 0, none⟩))] (by kernel_rfl)
  have HBX : ∀ x ∈ ([] : List Box), x.2.2 ≠ 5 := by intro x hx; cases hx
  refine wp_seq ?_
  refine wp_region_lit ?_
  refine fr_ch F 1 [(24, .pointer (some ⟨X, 0, none⟩))] (by kernel_rfl) ?_
  clear F a9
  intro a9 F
  refine fr_call F (wanted_free rfl) 25 rfl (by decide) 19 #[.pointer (some ⟨X, 0, none⟩), .string ⟨#[192]⟩] (by intro a' F'; have h24 := F'.at' 24 _ rfl; go_simp) (frame_Push (L := []) HFC (by decide) HBX ⟨#[192]⟩ (by decide)) ?_
  rintro e9 w8 ⟨rfl, hfc, hon⟩
  clear HFC hon
  clear w9
  rename World => w9
  have HFC : FrC w [] X 16 [192] 0 w9 := hfc
  clear hfc
  refine ⟨_, rfl, ?_⟩
  clear F a9
  intro a9 F
  refine wpList_nil ?_
  show Code.wp _ _ _ _ _
  replace F := F.cut [(1, .pointer (some ⟨X, 0, none⟩))] (by kernel_rfl)
  refine wp_seq ?_
  refine wp_region_lit ?_
  refine fr_ch F 1 [(27, .pointer (some ⟨X, 0, none⟩))] (by kernel_rfl) ?_
  clear F a9
  intro a9 F
  refine fr_call F (wanted_free rfl) 28 rfl (by decide) 20 #[.pointer (some ⟨X, 0, none⟩)] (by intro a' F'; have h27 := F'.at' 27 _ rfl; go_simp) ((show nxR 16 [192] 0 = (Pk.zero, false, 0, [192], 0) from by kernel_rfl) ▸ frame_Next HFC (by decide) (by decide) HBX) ?_
  rintro e9 w8 ⟨al, cap, rfl, hsub, hfc, hon⟩
  clear HFC hon hsub
  clear w9
  rename World => w9
  obtain ⟨a, c, HK, HO⟩ := hfc
  refine ⟨_, rfl, ?_⟩
  clear F a9
  intro a9 F
  refine fr_ch F 4 [(31, .int .i64 ((0 : Nat) : Int)), (30, .bool false), (29, .agg (pkV (Pk.zero) al cap)), (26, .tuple #[.agg (pkV (Pk.zero) al cap), .bool false, .int .i64 ((0 : Nat) : Int)])] (by kernel_rfl) ?_
  clear F a9
  intro a9 F
  obtain ⟨i0, hi, hz0, hz1, hz2⟩ := info_parts infoPkR
  refine fr_new F HK 2 (by decide) rfl 27 rfl rfl rfl (.tmp 29) rfl rfl i0 _ hi hz0 (cells := (pkV (Pk.zero) al cap)) hz1 rfl (pk_one _ _ _) (fun a' Y F' => F'.ev 29 rfl) ?_
  rintro P2 a10 w10 hX F' HK' hb
  replace HO := HO.below hb
  clear HK F hb hX hi hz0 hz1 hz2 i0
  clear a9 w9
  rename World => w9
  rename Act => a9
  have HK := HK'
  have F := F'
  clear HK' F'
  have HFC : FrC w [] X 16 [192] 0 w9 := ⟨a, c, HK.sub (List.sublist_cons_self _ _) (fun r hr => hr), HO⟩
  clear HK HO
  refine fr_ch F 2 [(4, .int .i64 ((0 : Nat) : Int)), (3, .bool false)] (by kernel_rfl) ?_
  clear F a9
  intro a9 F
  refine wpList_nil ?_
  show Code.wp _ _ _ _ _
  replace F := F.cut [(4, .int .i64 ((0 : Nat) : Int)), (3, .bool false), (1, .pointer (some ⟨X, 0, none⟩))] (by kernel_rfl)
  refine wp_seq ?_
  refine wp_region_lit ?_
  refine fr_ch F 1 [(32, .pointer (some ⟨X, 0, none⟩))] (by kernel_rfl) ?_
  clear F a9
  intro a9 F
  refine fr_call F (wanted_free rfl) 33 rfl (by decide) 19 #[.pointer (some ⟨X, 0, none⟩), .string ⟨#[0, 224]⟩] (by intro a' F'; have h32 := F'.at' 32 _ rfl; go_simp) (frame_Push (L := [192]) HFC (by decide) HBX ⟨#[0, 224]⟩ (by decide)) ?_
  rintro e9 w8 ⟨rfl, hfc, hon⟩
  clear HFC hon
  clear w9
  rename World => w9
  have HFC : FrC w [] X 16 [192, 0, 224] 0 w9 := hfc
  clear hfc
  refine ⟨_, rfl, ?_⟩
  clear F a9
  intro a9 F
  refine wpList_nil ?_
  show Code.wp _ _ _ _ _
  replace F := F.cut [(4, .int .i64 ((0 : Nat) : Int)), (3, .bool false), (1, .pointer (some ⟨X, 0, none⟩))] (by kernel_rfl)
  refine wp_seq ?_
  refine wp_region_lit ?_
  refine fr_ch F 1 [(35, .pointer (some ⟨X, 0, none⟩))] (by kernel_rfl) ?_
  clear F a9
  intro a9 F
  refine fr_call F (wanted_free rfl) 36 rfl (by decide) 20 #[.pointer (some ⟨X, 0, none⟩)] (by intro a' F'; have h35 := F'.at' 35 _ rfl; go_simp) ((show nxR 16 [192, 0, 224] 0 = ({ Pk.zero with ty := 12 }, true, 0, [224], 0) from by kernel_rfl) ▸ frame_Next HFC (by decide) (by decide) HBX) ?_
  rintro e9 w8 ⟨al, cap, rfl, hsub, hfc, hon⟩
  clear HFC hon hsub
  clear w9
  rename World => w9
  obtain ⟨a, c, HK, HO⟩ := hfc
  refine ⟨_, rfl, ?_⟩
  clear F a9
  intro a9 F
  refine fr_ch F 4 [(39, .int .i64 ((0 : Nat) : Int)), (38, .bool true), (37, .agg (pkV ({ Pk.zero with ty := 12 }) al cap)), (34, .tuple #[.agg (pkV ({ Pk.zero with ty := 12 }) al cap), .bool true, .int .i64 ((0 : Nat) : Int)])] (by kernel_rfl) ?_
  clear F a9
  intro a9 F
  obtain ⟨i0, hi, hz0, hz1, hz2⟩ := info_parts infoPkR
  refine fr_new F HK 5 (by decide) rfl 27 rfl rfl rfl (.tmp 37) rfl rfl i0 _ hi hz0 (cells := (pkV ({ Pk.zero with ty := 12 }) al cap)) hz1 rfl (pk_one _ _ _) (fun a' Y F' => F'.ev 37 rfl) ?_
  rintro P5 a10 w10 hX F' HK' hb
  replace HO := HO.below hb
  clear HK F hb hX hi hz0 hz1 hz2 i0
  clear a9 w9
  rename World => w9
  rename Act => a9
  have HK := HK'
  have F := F'
  clear HK' F'
  have HFC : FrC w ((P5, pkV ({ Pk.zero with ty := 12 }) al cap, 27) :: []) X 16 [224] 0 w9 := FrC.cons HK HO
  clear HK HO
  obtain ⟨al5, hal5⟩ : ∃ x, al = x := ⟨_, rfl⟩
  obtain ⟨cap5, hcap5⟩ : ∃ x, cap = x := ⟨_, rfl⟩
  rw [hal5, hcap5] at HFC
  clear hal5 hcap5
  clear HBX
  have HBX : ∀ x ∈ (((P5, pkV ({ Pk.zero with ty := 12 }) al5 cap5, 27) :: []) : List Box), x.2.2 ≠ 5 := by
    intro x hx
    simp at hx
    subst hx
    exact (by decide : 27 ≠ 5)
  refine fr_ch F 2 [(7, .int .i64 ((0 : Nat) : Int)), (6, .bool true)] (by kernel_rfl) ?_
  clear F a9
  intro a9 F
  refine wpList_nil ?_
  show Code.wp _ _ _ _ _
  replace F := F.cut [(7, .int .i64 ((0 : Nat) : Int)), (6, .bool true), (5, .pointer (some ⟨P5, 0, none⟩)), (4, .int .i64 ((0 : Nat) : Int)), (3, .bool false), (1, .pointer (some ⟨X, 0, none⟩))] (by kernel_rfl)
  refine wp_seq ?_
  refine wp_region_lit ?_
  refine fr_ch F 1 [(40, .pointer (some ⟨X, 0, none⟩))] (by kernel_rfl) ?_
  clear F a9
  intro a9 F
  refine fr_call F (wanted_free rfl) 41 rfl (by decide) 21 #[.pointer (some ⟨X, 0, none⟩)] (by intro a' F'; have h40 := F'.at' 40 _ rfl; go_simp) (frame_Left HFC) ?_
  rintro e9 w8 ⟨rfl, rfl⟩
  refine ⟨_, rfl, ?_⟩
  clear F a9
  intro a9 F
  refine fr_ch F 1 [(8, .int .i64 ((1 : Nat) : Int))] (by kernel_rfl) ?_
  clear F a9
  intro a9 F
  refine wpList_nil ?_
  show Code.wp _ _ _ _ _
  replace F := F.cut [(8, .int .i64 ((1 : Nat) : Int)), (7, .int .i64 ((0 : Nat) : Int)), (6, .bool true), (5, .pointer (some ⟨P5, 0, none⟩)), (4, .int .i64 ((0 : Nat) : Int)), (3, .bool false), (1, .pointer (some ⟨X, 0, none⟩))] (by kernel_rfl)
  refine wp_seq ?_
  refine wp_region_lit ?_
  refine fr_ch F 1 [(42, .pointer (some ⟨X, 0, none⟩))] (by kernel_rfl) ?_
  clear F a9
  intro a9 F
  refine fr_call F (wanted_free rfl) 43 rfl (by decide) 19 #[.pointer (some ⟨X, 0, none⟩), .string ⟨#[0, 48, 15]⟩] (by intro a' F'; have h42 := F'.at' 42 _ rfl; go_simp) (frame_Push (L := [224]) HFC (by decide) HBX ⟨#[0, 48, 15]⟩ (by decide)) ?_
  rintro e9 w8 ⟨rfl, hfc, hon⟩
  clear HFC hon
  clear w9
  rename World => w9
  have HFC : FrC w ((P5, pkV ({ Pk.zero with ty := 12 }) al5 cap5, 27) :: []) X 16 [224, 0, 48, 15] 0 w9 := hfc
  clear hfc
  refine ⟨_, rfl, ?_⟩
  clear F a9
  intro a9 F
  refine wpList_nil ?_
  show Code.wp _ _ _ _ _
  replace F := F.cut [(8, .int .i64 ((1 : Nat) : Int)), (7, .int .i64 ((0 : Nat) : Int)), (6, .bool true), (5, .pointer (some ⟨P5, 0, none⟩)), (4, .int .i64 ((0 : Nat) : Int)), (3, .bool false), (1, .pointer (some ⟨X, 0, none⟩))] (by kernel_rfl)
  refine wp_seq ?_
  refine wp_region_lit ?_
  refine fr_ch F 1 [(44, .pointer (some ⟨X, 0, none⟩))] (by kernel_rfl) ?_
  clear F a9
  intro a9 F
  refine fr_call F (wanted_free rfl) 45 rfl (by decide) 23 #[.pointer (some ⟨X, 0, none⟩)] (by intro a' F'; have h44 := F'.at' 44 _ rfl; go_simp) (drain_free HFC (by decide) (by decide) HBX (by
    intro x hx
    simp at hx
    subst hx
    exact (by decide : 27 ≠ 51)) (by decide)) ?_
  rintro e9 w8 ⟨T, aT, cT, rfl, HT, HS, hTm, hfc, hon⟩
  obtain ⟨B9, hB9⟩ : ∃ B9, w9.heap.size = B9 := ⟨_, rfl⟩
  rw [hB9] at HT HS
  clear HFC hon hB9
  clear w9
  rename World => w9
  have HTM := Lib.hid (hTm.trans (show toldR 16 [224, 0, 48, 15] = awL.map tp from by kernel_rfl))
  clear hTm
  have HFC : FrC w ((P5, pkV ({ Pk.zero with ty := 12 }) al5 cap5, 27) :: []) X 16 [] 3 w9 := hfc
  clear hfc
  refine ⟨_, rfl, ?_⟩
  clear F a9
  intro a9 F
  refine fr_ch F 1 [(9, .slice aT T.length cT)] (by kernel_rfl) ?_
  clear F a9
  intro a9 F
  refine wpList_nil ?_
  show Code.wp _ _ _ _ _
  replace F := F.cut [(9, .slice aT T.length cT), (8, .int .i64 ((1 : Nat) : Int)), (7, .int .i64 ((0 : Nat) : Int)), (6, .bool true), (5, .pointer (some ⟨P5, 0, none⟩)), (4, .int .i64 ((0 : Nat) : Int)), (3, .bool false), (1, .pointer (some ⟨X, 0, none⟩))] (by kernel_rfl)
  refine wp_seq ?_
  refine wp_region_lit ?_
  refine fr_ch F 1 [(46, .pointer (some ⟨X, 0, none⟩))] (by kernel_rfl) ?_
  clear F a9
  intro a9 F
  refine fr_call F (wanted_free rfl) 47 rfl (by decide) 19 #[.pointer (some ⟨X, 0, none⟩), .string ⟨#[192, 0]⟩] (by intro a' F'; have h46 := F'.at' 46 _ rfl; go_simp) (frame_Push_no (L := []) HFC (by decide) ⟨#[192, 0]⟩ (by decide) (by decide)) ?_
  rintro e9 w8 ⟨rfl, hfc, hon⟩
  replace HT := hon.own HT (nfre _ (by decide) (by decide))
  replace HS := HS.only hon (nfre _ (by decide) (by decide))
  clear HFC hon
  clear w9
  rename World => w9
  have HFC : FrC w ((P5, pkV ({ Pk.zero with ty := 12 }) al5 cap5, 27) :: []) X 16 [] 3 w9 := hfc
  clear hfc
  refine ⟨_, rfl, ?_⟩
  clear F a9
  intro a9 F
  refine wpList_nil ?_
  show Code.wp _ _ _ _ _
  replace F := F.cut [(9, .slice aT T.length cT), (8, .int .i64 ((1 : Nat) : Int)), (7, .int .i64 ((0 : Nat) : Int)), (6, .bool true), (5, .pointer (some ⟨P5, 0, none⟩)), (4, .int .i64 ((0 : Nat) : Int)), (3, .bool false), (1, .pointer (some ⟨X, 0, none⟩))] (by kernel_rfl)
  refine wp_seq ?_
  refine wp_region_lit ?_
  refine fr_ch F 1 [(49, .pointer (some ⟨X, 0, none⟩))] (by kernel_rfl) ?_
  clear F a9
  intro a9 F
  refine fr_call F (wanted_free rfl) 50 rfl (by decide) 20 #[.pointer (some ⟨X, 0, none⟩)] (by intro a' F'; have h49 := F'.at' 49 _ rfl; go_simp) ((show nxR 16 [] 3 = (Pk.zero, false, 3, [], 3) from by kernel_rfl) ▸ frame_Next HFC (by decide) (by decide) HBX) ?_
  rintro e9 w8 ⟨al, cap, rfl, hsub, hfc, hon⟩
  replace HT := hon.own HT (nfre _ (by decide) (by decide))
  replace HS := HS.only hon (nfre _ (by decide) (by decide))
  clear HFC hon hsub
  clear w9
  rename World => w9
  obtain ⟨a, c, HK, HO⟩ := hfc
  refine ⟨_, rfl, ?_⟩
  clear F a9
  intro a9 F
  refine fr_ch F 4 [(53, .int .i64 ((3 : Nat) : Int)), (52, .bool false), (51, .agg (pkV (Pk.zero) al cap)), (48, .tuple #[.agg (pkV (Pk.zero) al cap), .bool false, .int .i64 ((3 : Nat) : Int)])] (by kernel_rfl) ?_
  clear F a9
  intro a9 F
  obtain ⟨i0, hi, hz0, hz1, hz2⟩ := info_parts infoPkR
  refine fr_new F HK 10 (by decide) rfl 27 rfl rfl rfl (.tmp 51) rfl rfl i0 _ hi hz0 (cells := (pkV (Pk.zero) al cap)) hz1 rfl (pk_one _ _ _) (fun a' Y F' => F'.ev 51 rfl) ?_
  rintro P10 a10 w10 hX F' HK' hb
  replace HO := HO.below hb
  replace HT := own_only HT (Only.of_below hb (fun _ => False)) (fun _ _ h => h)
  replace HS := HS.below hb
  clear HK F hb hX hi hz0 hz1 hz2 i0
  clear a9 w9
  rename World => w9
  rename Act => a9
  have HK := HK'
  have F := F'
  clear HK' F'
  have HFC : FrC w ((P5, pkV ({ Pk.zero with ty := 12 }) al5 cap5, 27) :: []) X 16 [] 3 w9 := ⟨a, c, HK.sub (List.sublist_cons_self _ _) (fun r hr => hr), HO⟩
  clear HK HO
  refine fr_ch F 2 [(12, .int .i64 ((3 : Nat) : Int)), (11, .bool false)] (by kernel_rfl) ?_
  clear F a9
  intro a9 F
  refine wpList_nil ?_
  show Code.wp _ _ _ _ _
  replace F := F.cut [(12, .int .i64 ((3 : Nat) : Int)), (11, .bool false), (9, .slice aT T.length cT), (8, .int .i64 ((1 : Nat) : Int)), (7, .int .i64 ((0 : Nat) : Int)), (6, .bool true), (5, .pointer (some ⟨P5, 0, none⟩)), (4, .int .i64 ((0 : Nat) : Int)), (3, .bool false), (1, .pointer (some ⟨X, 0, none⟩))] (by kernel_rfl)
  obtain ⟨a, c, HK, HO⟩ := HFC
  replace HK : Keep w ((X, (frV 16 a ([] : Bs).length c 3), 54) :: (P5, (pkV { Pk.zero with ty := 12 } al5 cap5), 27) :: []) [] w9 := HK
  refine wp_seq ?_
  refine wp_region_lit ?_
  have HPO := Lib.hid (show ∀ x ∈ T, PkOk x.1.1 from fun x hx => by
    have h1 : tp x ∈ T.map tp := List.mem_map_of_mem hx
    rw [HTM.out] at h1
    simp [awL, tp] at h1
    rcases h1 with ⟨h1, _⟩ | ⟨h1, _⟩
    · rw [h1]; exact { pk_zero with ty := (by decide : (14 : Nat) < 256) }
    · rw [h1]; exact pk_zero)
  have HLEN := Lib.hid (show T.length ≤ 1000000 from by have := congrArg List.length HTM.out; simp [awL] at this; omega)
  refine fr_ch F 15 [(68, .pointer (some ⟨P5, 0, none⟩)), (67, .bool true)] (by kernel_rfl) ?_
  clear F a9
  intro a9 F
  refine fr_do F (by rw [wanted_at F rfl (t := 67) (b := true) (by kernel_rfl) rfl]; rfl) 69 rfl (by decide) (.int .u8 ((12 : Nat) : Int)) (by intro a' F'; have hc : w9.cell? ⟨P5, 0, none⟩ = some (.int .u8 ((12 : Nat) : Int)) := (HK.at 1 rfl).cells 0; have h68 := F'.at' 68 _ rfl; go_simp) ?_
  clear F a9
  intro a9 F
  refine fr_ch F 11 [(80, .agg (tdC ((Pk.zero, none, 0), 3)).toArray), (79, .agg (tdC (({ Pk.zero with ty := 14 }, none, 0), 0)).toArray), (78, .agg (pkV { Pk.zero with ty := 14 } none 0)), (77, .slice aT T.length cT), (76, .bool true), (75, .bool true), (74, .bool true), (73, .int .i64 ((1 : Nat) : Int)), (72, .bool true), (71, .bool true), (70, .bool true)] (by kernel_rfl) ?_
  clear F a9
  intro a9 F
  obtain ⟨i0, hi, hz0, hz1, hz2⟩ := info_parts infoTold
  refine fr_doW F (by rw [wanted_at F rfl (t := 76) (b := true) (by kernel_rfl) rfl]; rfl) 81 rfl (by decide) (.slice (some ⟨w9.heap.size, 0, none⟩) 2 2) (w9.alloc (.cells (tdCells awL).toArray 51)) (fun a' F' => run_sliceA2 48 51 _ _ rfl _ _ (F'.ev 79 rfl) (F'.ev 80 rfl) (tdCells awL).toArray i0 _ Tryd.underlying48 hi hz0 (by rw [hz1]; decide) (by rw [hz1]; decide) (by rw [hz1]; kernel_rfl)) ?_
  clear F a9
  intro a9 F
  have hb8 : Below w9.heap.size w9 (w9.alloc (.cells (tdCells awL).toArray 51)) := (Below.refl _ _).alloc (Nat.le_refl _) _
  have HK2 := HK.allocRow (tdCells awL) 51
  clear HK
  have HK := HK2
  clear HK2
  replace HO := HO.below hb8
  replace HT := own_only HT (Only.of_below hb8 (fun _ => False)) (fun _ _ h => h)
  replace HS := HS.below hb8
  obtain ⟨Z, hZ⟩ : ∃ Z, w9.heap.size = Z := ⟨_, rfl⟩
  rw [hZ] at HK F
  clear hb8 hZ hi hz0 hz1 hz2 i0
  generalize w9.alloc (.cells (tdCells awL).toArray 51) = w8 at *
  clear w9
  rename World => w9
  have HAW := Lib.hid (show TdIn w9 awL from fun x hx => by
    unfold awL at hx
    simp at hx
    rcases hx with rfl | rfl
    · exact ⟨{ pk_zero with ty := (by decide : (14 : Nat) < 256) }, CellsA.nil _ _⟩
    · exact ⟨pk_zero, CellsA.nil _ _⟩)
  refine fr_call F (by rw [wanted_at F rfl (t := 76) (b := true) (by kernel_rfl) rfl]; rfl) 82 rfl (by decide) 22 #[.slice aT T.length cT, .slice (some ⟨Z, 0, none⟩) awL.length 2] (by intro a' F'; have h77 := F'.at' 77 _ rfl; have h81 := F'.at' 81 _ rfl; go_simp <;> rfl) (law06_same aT cT T (some ⟨Z, 0, none⟩) 2 awL w9 HK.env (own_cells HT) (HK.rowAt 0 rfl) (told_in HS HPO.out) HAW.out HTM.out HLEN.out) ?_
  rintro e9 w8 ⟨rfl, hb8⟩
  replace HK := HK.below hb8
  replace HO := HO.below hb8
  replace HT := own_only HT (Only.of_below hb8 (fun _ => False)) (fun _ _ h => h)
  replace HS := HS.below hb8
  clear HAW
  clear hb8
  clear w9
  rename World => w9
  refine ⟨_, rfl, ?_⟩
  clear F a9
  intro a9 F
  refine fr_ch F 7 [(89, .pointer (some ⟨X, 0, none⟩)), (88, .bool true), (87, .bool true), (86, .bool true), (85, .int .i64 ((3 : Nat) : Int)), (84, .bool true), (83, .bool true)] (by kernel_rfl) ?_
  clear F a9
  intro a9 F
  refine fr_call F (by rw [wanted_at F rfl (t := 88) (b := true) (by kernel_rfl) rfl]; rfl) 90 rfl (by decide) 21 #[.pointer (some ⟨X, 0, none⟩)] (by intro a' F'; have h89 := F'.at' 89 _ rfl; go_simp) (frame_Left (L := []) (e := 3) ⟨a, c, HK.sub (List.Sublist.refl _) (by intro r hr; cases hr), HO⟩) ?_
  rintro e9 w8 ⟨rfl, rfl⟩
  refine ⟨_, rfl, ?_⟩
  clear F a9
  intro a9 F
  refine fr_ch F 3 [(0, .bool true), (92, .bool true), (91, .bool true)] (by kernel_rfl) ?_
  clear F a9
  intro a9 F
  refine wpList_nil ?_
  show Code.wp _ _ _ _ _
  refine wp_ret ?_
  exact fr_ret1 F rfl _ rfl (FIN.out _ HK.low)
end Go.Proofs.YtfljdlaelanliaaDoor
