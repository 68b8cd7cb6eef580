/- The walk of law17's Great, of one note. Conditions: the note lies where its slice is, its filters in their row. -/
import Derived.Test.YtmppkgonkkffhaaDoorJoinS
import Derived.Test.YtmppkgonkkffhaaDoorFrameT
namespace Go.Proofs.YtmppkgonkkffhaaDoor
open Go.RowKit
theorem great1_no {n : Nt} (ht : ∀ i t, i < 12 → (textsN n)[i]? = some t → t.size ≤ 300) (hs : ∀ i x, i < n.p.subs.length → n.p.subs[i]? = some x → x.1.size ≤ 300 ∧ i < 20) : great1 n = false := by
  unfold great1
  rw [Bool.or_eq_false_iff, Bool.or_eq_false_iff]
  refine ⟨List.any_eq_false.2 (fun t hm => ?_), List.any_eq_false.2 (fun x hm => ?_), decide_eq_false (fun h => ?_)⟩
  · obtain ⟨i, hi, e⟩ := List.getElem_of_mem hm
    have := ht i t hi (by rw [List.getElem?_eq_getElem hi, e])
    simp only [decide_eq_true_eq]; omega
  · obtain ⟨i, hi, e⟩ := List.getElem_of_mem hm
    have := (hs i x hi (by rw [List.getElem?_eq_getElem hi, e])).1
    simp only [decide_eq_true_eq]; omega
  · have := (hs 20 _ h (List.getElem?_eq_getElem h)).2
    omega
theorem run_str12 {P : Program} {w : World} {o : Oper} {ρ : Operand → Value} (t e : TypeId) (xs : Array (Nat × Operand)) (ho : o.op = .buildSlice t 12 xs) (L : List ByteArray) (hx : (xs.map fun x => (x.1, ρ x.2)) = ((List.range 12).zip (L.map Value.string)).toArray) (ie : TypeInfo) (zz : Value)
    (hu : P.underlying t = some (.slice e)) (hie : P.info? e = some ie) (hz : ie.zero = some zz) (hsmall : ¬ 12 * ie.size > 2 ^ 24) (hpos : ¬ 12 * ie.size = 0)
    (h : Instr.fill (fun i => some (i * ie.size, ie.size)) ((Array.range (12 * ie.size)).map (zz.cells[· % zz.cells.size]!)) (((List.range 12).zip (L.map Value.string)).toArray).toList = some (L.map Value.string).toArray) :
    (execOp ρ o).run P w = .ok (.value (.slice (some ⟨w.heap.size, 0, none⟩) 12 12)) (w.alloc (.cells (L.map Value.string).toArray e)) := by
  have hr := run_buildSlice (P := P) w t e 12 ((List.range 12).zip (L.map Value.string)).toArray (L.map Value.string).toArray ie zz hu hie hz hsmall hpos h
  unfold execOp
  simp only [ho, hx, Sem.run_bind, hr, Result.andThen_ok, Sem.run_pure]
set_option maxRecDepth 100000 in
set_option maxHeartbeats 4000000 in
theorem law17_Great {w : World} (hE : Env w) {N q cp : Nat} {n : Nt} {a : Option Addr} {c : Nat} (hn : NtAt w N q n a c) (hc : CellsA w a (subCells n.p.subs)) : Calls Tryd.prog 22 #[.slice (some ⟨N, q, none⟩) 1 cp] w fun e w' => e = .returned (.bool (great1 n)) ∧ Below w.heap.size w w' := by
  obtain ⟨RR, hRR⟩ : ∃ RR : Ending → World → Prop, RR = fun e w' => e = .returned (.bool (great1 n)) ∧ Below w.heap.size w w' := ⟨_, rfl⟩
  have FIN := Lib.hid (show ∀ b w', b = great1 n → Below w.heap.size w w' → RR (.returned (.bool b)) w' from fun b w' h1 hb => by rw [hRR, h1]; exact ⟨rfl, hb⟩)
  rw [← hRR]
  have HN := Lib.hid (fun w9 (h : Below w.heap.size w w9) => hn.low h)
  have HC := Lib.hid hc
  obtain ⟨w9, hw9⟩ : ∃ w9, w9 = w := ⟨_, rfl⟩
  have HK : Keep w [] [] w9 := by rw [hw9]; exact Keep.begin hE _ (by intro r hr; cases hr)
  suffices hgo : Calls Tryd.prog 22 #[.slice (some ⟨N, q, none⟩) 1 cp] w9 RR by rw [hw9] at hgo; exact hgo
  clear hw9 hRR hE hc hn
  go_enter Tryd.func22, Tryd.ntmps22
  refine wp_forget (n := 94) (L := [(0, .slice (some ⟨N, q, none⟩) 1 cp)]) (FrL.add (FrL.nil ?_ ?_) _ _ ?_) ?_
  iterate 3 rfl
  intro a9 F
  refine wp_seq ?_
  refine wp_region_lit ?_
  refine fr_ch F 1 [(2, .bool false)] (by kernel_rfl) ?_
  clear F a9
  intro a9 F
  refine wpList_nil ?_
  show Code.wp _ _ _ _ _
  refine wp_seq ?_
  refine wp_seq ?_
  refine wp_region_lit ?_
  refine fr_ch F 1 [(3, .int .i64 0)] (by kernel_rfl) ?_
  clear F a9
  intro a9 F
  refine wpList_nil ?_
  show Code.wp _ _ _ _ _
  replace F := F.cut [(3, .int .i64 ((0 : Nat) : Int)), (2, .bool false), (0, .slice (some ⟨N, q, none⟩) 1 cp)] (by kernel_rfl)
  refine wp_block_end (fun a' w' => (∃ kk : Nat, FrL 94 [(3, .int .i64 (kk : Int)), (2, .bool false), (0, .slice (some ⟨N, q, none⟩) 1 cp)] a') ∧ Keep w [] [] w' ∧ great1 n = false) ?_ ?_
  · skip
    refine wp_loop (fun a' w' => ∃ k : Nat, k ≤ 1 ∧ FrL 94 [(3, .int .i64 (k : Int)), (2, .bool false), (0, .slice (some ⟨N, q, none⟩) 1 cp)] a' ∧ Keep w [] [] w' ∧ (k = 1 → great1 n = false)) (fun a' _ => muI 1 3 a') ⟨0, Nat.zero_le _, F, HK, fun h => by cases h⟩ ?_
    clear F a9 HK w9
    rintro a9 w9 ⟨k, hk, F, HK, h0⟩
    rw [muI_at F 3 k rfl]
    refine wp_seq ?_
    refine wp_seq ?_
    by_cases hlt : k < 1
    · have hk0 : k = 0 := by omega
      subst hk0
      clear h0 hk hlt
      refine wp_region_lit ?_
      refine fr_mv F (wanted_free rfl) 8 rfl (by decide) 3 rfl rfl ?_
      clear F a9
      intro a9 F
      refine fr_mv F (wanted_free rfl) 9 rfl (by decide) 0 rfl rfl ?_
      clear F a9
      intro a9 F
      refine fr_ch F 2 [(11, .bool true), (10, .int .i64 1)] (by kernel_rfl) ?_
      clear F a9
      intro a9 F
      refine wpList_nil ?_
      show Code.wp _ _ _ _ _
      refine wp_cond_true (F.ev 11 rfl) ?_
      refine wp_skip ?_
      show Code.wp _ _ _ _ _
      replace F := F.cut [(3, .int .i64 ((0 : Nat) : Int)), (2, .bool false), (0, .slice (some ⟨N, q, none⟩) 1 cp)] (by kernel_rfl)
      refine wp_seq ?_
      refine wp_block_end (fun a' w' => FrL 94 [(3, .int .i64 ((0 : Nat) : Int)), (2, .bool false), (0, .slice (some ⟨N, q, none⟩) 1 cp)] a' ∧ Keep w [] [] w' ∧ great1 n = false) ?_ ?_
      · skip
        refine wp_seq ?_
        refine wp_region_lit ?_
        refine fr_ch F 4 [(17, .pointer (some ⟨N, q + 4, none⟩)), (16, .pointer (some ⟨N, q, none⟩)), (15, .int .i64 ((0 : Nat) : Int)), (14, .slice (some ⟨N, q, none⟩) 1 cp)] (by kernel_rfl) ?_
        clear F a9
        intro a9 F
        refine fr_do F (wanted_free rfl) 18 rfl (by decide) (.agg (pkV n.p a c)) (fun a' F' => run_load_midF 33 _ rfl N (q + 4) (F'.ev 17 rfl) (pkV n.p a c).toList _ (HN.out _ HK.low).pk Tryd.underlying33 rfl infoPk) ?_
        clear F a9
        intro a9 F
        obtain ⟨i0, hi, hz0, hz1, hz2⟩ := info_parts infoPkR
        refine fr_new F HK 4 (by decide) rfl 33 rfl rfl rfl (.tmp 18) rfl rfl i0 _ hi hz0 (cells := (pkV n.p a c)) hz1 rfl (pk_one _ _ _) (fun a' Y F' => F'.ev 18 rfl) ?_
        rintro P a10 w10 hX F' HK' hb
        clear HK F hb hX hi hz0 hz1 hz2 i0
        clear a9 w9
        rename World => w9
        rename Act => a9
        have HK := HK'
        have F := F'
        clear HK' F'
        replace HK : Keep w [(P, (pkV n.p a c), 33)] [] w9 := HK
        refine wpList_nil ?_
        show Code.wp _ _ _ _ _
        replace F := F.cut [(4, .pointer (some ⟨P, 0, none⟩)), (3, .int .i64 ((0 : Nat) : Int)), (2, .bool false), (0, .slice (some ⟨N, q, none⟩) 1 cp)] (by kernel_rfl)
        refine wp_seq ?_
        refine wp_region_noPanic ?_
        have hb8 : Below w9.heap.size w9 w9.drew := below_draws (n := 1) rfl
        replace HK := HK.below hb8
        clear hb8
        refine AnyT.begin (S := fun w' => NtAt w' N q n a c ∧ BoxAt w' P (pkV n.p a c) 33) (z := 1000) (by kernel_rfl) ⟨HN.out _ HK.low, HK.at 0 rfl⟩ (fun hS0 => ?_)
        clear hS0
        generalize w9.drew = w8 at *
        clear w9
        rename World => w9
        refine fr_chT F [0, 1, 2, 3] [(22, .pointer (some ⟨N, q + 3, none⟩)), (21, .pointer (some ⟨N, q, none⟩)), (20, .int .i64 ((0 : Nat) : Int)), (19, .slice (some ⟨N, q, none⟩) 1 cp)] ⟨HN.out _ HK.low, HK.at 0 rfl⟩ (by kernel_rfl) ?_
        clear F a9
        intro a9 F
        refine fr_takeG (i := 4) (o := ⟨some 23, _, _, _, _, _⟩) F ⟨HN.out _ HK.low, HK.at 0 rfl⟩ rfl (wanted_free rfl) 23 rfl (by decide) (.string n.client) (fun w9 hS => (by intro a' F'; have h22 := F'.at' 22 _ rfl; have hc : w9.cell? ⟨N, q + 3, none⟩ = some (.string n.client) := (hS.1).cell 3 _ rfl; go_simp)) ?_
        clear F a9
        intro a9 F
        refine fr_chT F [5, 6, 7, 8] [(27, .pointer (some ⟨N, q + 32, none⟩)), (26, .pointer (some ⟨N, q, none⟩)), (25, .int .i64 ((0 : Nat) : Int)), (24, .slice (some ⟨N, q, none⟩) 1 cp)] ⟨HN.out _ HK.low, HK.at 0 rfl⟩ (by kernel_rfl) ?_
        clear F a9
        intro a9 F
        refine fr_takeG (i := 9) (o := ⟨some 28, _, _, _, _, _⟩) F ⟨HN.out _ HK.low, HK.at 0 rfl⟩ rfl (wanted_free rfl) 28 rfl (by decide) (.string n.codes) (fun w9 hS => (by intro a' F'; have h27 := F'.at' 27 _ rfl; have hc : w9.cell? ⟨N, q + 32, none⟩ = some (.string n.codes) := (hS.1).cell 32 _ rfl; go_simp)) ?_
        clear F a9
        intro a9 F
        refine fr_chT F [10, 11, 12, 13, 14] [(33, .pointer (some ⟨N, q + 28, none⟩)), (32, .pointer (some ⟨N, q + 28, none⟩)), (31, .pointer (some ⟨N, q, none⟩)), (30, .int .i64 ((0 : Nat) : Int)), (29, .slice (some ⟨N, q, none⟩) 1 cp)] ⟨HN.out _ HK.low, HK.at 0 rfl⟩ (by kernel_rfl) ?_
        clear F a9
        intro a9 F
        refine fr_takeG (i := 15) (o := ⟨some 34, _, _, _, _, _⟩) F ⟨HN.out _ HK.low, HK.at 0 rfl⟩ rfl (wanted_free rfl) 34 rfl (by decide) (.string n.msg.topic) (fun w9 hS => (by intro a' F'; have h33 := F'.at' 33 _ rfl; have hc : w9.cell? ⟨N, q + 28, none⟩ = some (.string n.msg.topic) := (hS.1).cell 28 _ rfl; go_simp)) ?_
        clear F a9
        intro a9 F
        refine fr_chT F [16, 17, 18, 19, 20] [(39, .pointer (some ⟨N, q + 29, none⟩)), (38, .pointer (some ⟨N, q + 28, none⟩)), (37, .pointer (some ⟨N, q, none⟩)), (36, .int .i64 ((0 : Nat) : Int)), (35, .slice (some ⟨N, q, none⟩) 1 cp)] ⟨HN.out _ HK.low, HK.at 0 rfl⟩ (by kernel_rfl) ?_
        clear F a9
        intro a9 F
        refine fr_takeG (i := 21) (o := ⟨some 40, _, _, _, _, _⟩) F ⟨HN.out _ HK.low, HK.at 0 rfl⟩ rfl (wanted_free rfl) 40 rfl (by decide) (.string n.msg.payload) (fun w9 hS => (by intro a' F'; have h39 := F'.at' 39 _ rfl; have hc : w9.cell? ⟨N, q + 29, none⟩ = some (.string n.msg.payload) := (hS.1).cell 29 _ rfl; go_simp)) ?_
        clear F a9
        intro a9 F
        refine fr_chT F [22] [(41, .pointer (some ⟨P, 5, none⟩))] ⟨HN.out _ HK.low, HK.at 0 rfl⟩ (by kernel_rfl) ?_
        clear F a9
        intro a9 F
        refine fr_takeG (i := 23) (o := ⟨some 42, _, _, _, _, _⟩) F ⟨HN.out _ HK.low, HK.at 0 rfl⟩ rfl (wanted_free rfl) 42 rfl (by decide) (.string n.p.topic) (fun w9 hS => (by intro a' F'; have h41 := F'.at' 41 _ rfl; have hc : w9.cell? ⟨P, 5, none⟩ = some (.string n.p.topic) := hS.2.cells 5; go_simp)) ?_
        clear F a9
        intro a9 F
        refine fr_chT F [24] [(43, .pointer (some ⟨P, 6, none⟩))] ⟨HN.out _ HK.low, HK.at 0 rfl⟩ (by kernel_rfl) ?_
        clear F a9
        intro a9 F
        refine fr_takeG (i := 25) (o := ⟨some 44, _, _, _, _, _⟩) F ⟨HN.out _ HK.low, HK.at 0 rfl⟩ rfl (wanted_free rfl) 44 rfl (by decide) (.string n.p.payload) (fun w9 hS => (by intro a' F'; have h43 := F'.at' 43 _ rfl; have hc : w9.cell? ⟨P, 6, none⟩ = some (.string n.p.payload) := hS.2.cells 6; go_simp)) ?_
        clear F a9
        intro a9 F
        refine fr_chT F [26] [(45, .pointer (some ⟨P, 10, none⟩))] ⟨HN.out _ HK.low, HK.at 0 rfl⟩ (by kernel_rfl) ?_
        clear F a9
        intro a9 F
        refine fr_takeG (i := 27) (o := ⟨some 46, _, _, _, _, _⟩) F ⟨HN.out _ HK.low, HK.at 0 rfl⟩ rfl (wanted_free rfl) 46 rfl (by decide) (.string n.p.client) (fun w9 hS => (by intro a' F'; have h45 := F'.at' 45 _ rfl; have hc : w9.cell? ⟨P, 10, none⟩ = some (.string n.p.client) := hS.2.cells 10; go_simp)) ?_
        clear F a9
        intro a9 F
        refine fr_chT F [28, 29] [(48, .pointer (some ⟨P, 12, none⟩)), (47, .pointer (some ⟨P, 12, none⟩))] ⟨HN.out _ HK.low, HK.at 0 rfl⟩ (by kernel_rfl) ?_
        clear F a9
        intro a9 F
        refine fr_takeG (i := 30) (o := ⟨some 49, _, _, _, _, _⟩) F ⟨HN.out _ HK.low, HK.at 0 rfl⟩ rfl (wanted_free rfl) 49 rfl (by decide) (.string n.p.wtopic) (fun w9 hS => (by intro a' F'; have h48 := F'.at' 48 _ rfl; have hc : w9.cell? ⟨P, 12, none⟩ = some (.string n.p.wtopic) := hS.2.cells 12; go_simp)) ?_
        clear F a9
        intro a9 F
        refine fr_chT F [31, 32] [(51, .pointer (some ⟨P, 13, none⟩)), (50, .pointer (some ⟨P, 12, none⟩))] ⟨HN.out _ HK.low, HK.at 0 rfl⟩ (by kernel_rfl) ?_
        clear F a9
        intro a9 F
        refine fr_takeG (i := 33) (o := ⟨some 52, _, _, _, _, _⟩) F ⟨HN.out _ HK.low, HK.at 0 rfl⟩ rfl (wanted_free rfl) 52 rfl (by decide) (.string n.p.wpayload) (fun w9 hS => (by intro a' F'; have h51 := F'.at' 51 _ rfl; have hc : w9.cell? ⟨P, 13, none⟩ = some (.string n.p.wpayload) := hS.2.cells 13; go_simp)) ?_
        clear F a9
        intro a9 F
        refine fr_chT F [34] [(53, .pointer (some ⟨P, 18, none⟩))] ⟨HN.out _ HK.low, HK.at 0 rfl⟩ (by kernel_rfl) ?_
        clear F a9
        intro a9 F
        refine fr_takeG (i := 35) (o := ⟨some 54, _, _, _, _, _⟩) F ⟨HN.out _ HK.low, HK.at 0 rfl⟩ rfl (wanted_free rfl) 54 rfl (by decide) (.string n.p.user) (fun w9 hS => (by intro a' F'; have h53 := F'.at' 53 _ rfl; have hc : w9.cell? ⟨P, 18, none⟩ = some (.string n.p.user) := hS.2.cells 18; go_simp)) ?_
        clear F a9
        intro a9 F
        refine fr_chT F [36] [(55, .pointer (some ⟨P, 19, none⟩))] ⟨HN.out _ HK.low, HK.at 0 rfl⟩ (by kernel_rfl) ?_
        clear F a9
        intro a9 F
        refine fr_takeG (i := 37) (o := ⟨some 56, _, _, _, _, _⟩) F ⟨HN.out _ HK.low, HK.at 0 rfl⟩ rfl (wanted_free rfl) 56 rfl (by decide) (.string n.p.pass) (fun w9 hS => (by intro a' F'; have h55 := F'.at' 55 _ rfl; have hc : w9.cell? ⟨P, 19, none⟩ = some (.string n.p.pass) := hS.2.cells 19; go_simp)) ?_
        clear F a9
        intro a9 F
        refine fr_chT F [38] [(57, .pointer (some ⟨P, 23, none⟩))] ⟨HN.out _ HK.low, HK.at 0 rfl⟩ (by kernel_rfl) ?_
        clear F a9
        intro a9 F
        refine fr_takeG (i := 39) (o := ⟨some 58, _, _, _, _, _⟩) F ⟨HN.out _ HK.low, HK.at 0 rfl⟩ rfl (wanted_free rfl) 58 rfl (by decide) (.string n.p.codes) (fun w9 hS => (by intro a' F'; have h57 := F'.at' 57 _ rfl; have hc : w9.cell? ⟨P, 23, none⟩ = some (.string n.p.codes) := hS.2.cells 23; go_simp)) ?_
        clear F a9
        intro a9 F
        obtain ⟨i0, hi, hz0, hz1, hz2⟩ := info_parts infoStr
        have hb8 : Below w9.heap.size w9 (w9.alloc (.cells ((textsN n).map Value.string).toArray 9)) := (Below.refl _ _).alloc (Nat.le_refl _) _
        have hnr : CellsA (w9.alloc (.cells ((textsN n).map Value.string).toArray 9)) (some ⟨w9.heap.size, 0, none⟩) ((textsN n).map Value.string) := cells_new
        replace HK := HK.below hb8
        refine fr_step (i := 40) (o := ⟨some 59, _, _, _, _, _⟩) F rfl rfl 59 rfl (by decide) (.slice (some ⟨w9.heap.size, 0, none⟩) 12 12) (w9.alloc (.cells ((textsN n).map Value.string).toArray 9)) (fun a' F' => run_str12 80 9 _ rfl (textsN n) (by have g23 := F'.get 23 rfl; have g28 := F'.get 28 rfl; have g34 := F'.get 34 rfl; have g40 := F'.get 40 rfl; have g42 := F'.get 42 rfl; have g44 := F'.get 44 rfl; have g46 := F'.get 46 rfl; have g49 := F'.get 49 rfl; have g52 := F'.get 52 rfl; have g54 := F'.get 54 rfl; have g56 := F'.get 56 rfl; have g58 := F'.get 58 rfl; simp only [List.map_toArray, List.map_cons, List.map_nil, Act.eval, g23, g28, g34, g40, g42, g44, g46, g49, g52, g54, g56, g58]; rfl) i0 _ Tryd.underlying80 hi hz0 (by rw [hz1]; decide) (by rw [hz1]; decide) (by rw [hz1]; kernel_rfl)) ⟨HN.out _ HK.low, HK.at 0 rfl⟩ ?_
        clear F a9
        intro a9 F
        clear hi hz0 hz1 hz2 i0
        obtain ⟨Z, hZ⟩ : ∃ Z, w9.heap.size = Z := ⟨_, rfl⟩
        rw [hZ] at hnr F
        clear hb8 hZ
        generalize w9.alloc (.cells ((textsN n).map Value.string).toArray 9) = w8 at *
        clear w9
        rename World => w9
        refine fr_chT F [41] [(5, .slice (some ⟨Z, 0, none⟩) 12 12)] ⟨HN.out _ HK.low, HK.at 0 rfl⟩ (by kernel_rfl) ?_
        clear F a9
        intro a9 F
        refine AnyT.done (by kernel_rfl) ?_ _
        refine NoPanic.normal ?_
        show Code.wp _ _ _ _ _
        replace F := F.cut [(5, .slice (some ⟨Z, 0, none⟩) 12 12), (4, .pointer (some ⟨P, 0, none⟩)), (3, .int .i64 ((0 : Nat) : Int)), (2, .bool false), (0, .slice (some ⟨N, q, none⟩) 1 cp)] (by kernel_rfl)
        have hTx := hnr
        clear hnr
        refine wp_seq ?_
        refine wp_seq ?_
        refine wp_region_lit ?_
        refine fr_ch F 1 [(6, .int .i64 0)] (by kernel_rfl) ?_
        clear F a9
        intro a9 F
        refine wpList_nil ?_
        show Code.wp _ _ _ _ _
        replace F := F.cut [(6, .int .i64 ((0 : Nat) : Int)), (5, .slice (some ⟨Z, 0, none⟩) 12 12), (4, .pointer (some ⟨P, 0, none⟩)), (3, .int .i64 ((0 : Nat) : Int)), (2, .bool false), (0, .slice (some ⟨N, q, none⟩) 1 cp)] (by kernel_rfl)
        refine wp_block_end (fun a' w' => (∃ j : Nat, FrL 94 [(6, .int .i64 (j : Int)), (5, .slice (some ⟨Z, 0, none⟩) 12 12), (4, .pointer (some ⟨P, 0, none⟩)), (3, .int .i64 ((0 : Nat) : Int)), (2, .bool false), (0, .slice (some ⟨N, q, none⟩) 1 cp)] a') ∧ w' = w9 ∧ (∀ i t, i < 12 → (textsN n)[i]? = some t → t.size ≤ 300)) ?_ ?_
        · skip
          refine wp_loop (fun a' w' => ∃ j : Nat, j ≤ 12 ∧ FrL 94 [(6, .int .i64 (j : Int)), (5, .slice (some ⟨Z, 0, none⟩) 12 12), (4, .pointer (some ⟨P, 0, none⟩)), (3, .int .i64 ((0 : Nat) : Int)), (2, .bool false), (0, .slice (some ⟨N, q, none⟩) 1 cp)] a' ∧ w' = w9 ∧ (∀ i t, i < j → (textsN n)[i]? = some t → t.size ≤ 300)) (fun a' _ => muI (12) 6 a') ⟨0, Nat.zero_le _, F, rfl, fun i t h => absurd h (Nat.not_lt_zero _)⟩ ?_
          clear F a9
          rintro a9 w8 ⟨j, hj, F, rfl, hh⟩
          rename World => w9
          rw [muI_at F 6 j rfl]
          have HH := Lib.hid hh
          clear hh
          refine wp_seq ?_
          refine wp_seq ?_
          by_cases hlt : j < 12
          · skip
            refine wp_region_lit ?_
            refine fr_mv F (wanted_free rfl) 60 rfl (by decide) 6 rfl rfl ?_
            clear F a9
            intro a9 F
            refine fr_mv F (wanted_free rfl) 61 rfl (by decide) 5 rfl rfl ?_
            clear F a9
            intro a9 F
            refine fr_ch F 1 [(62, .int .i64 12)] (by kernel_rfl) ?_
            clear F a9
            intro a9 F
            refine fr_do F (wanted_free rfl) 63 rfl (by decide) (.bool true) (by intro a' F'; have h60 := F'.at' 60 _ rfl; have h62 := F'.at' 62 _ rfl; go_simp <;> omega) ?_
            clear F a9
            intro a9 F
            refine wpList_nil ?_
            show Code.wp _ _ _ _ _
            refine wp_cond_true (F.ev 63 rfl) ?_
            refine wp_skip ?_
            show Code.wp _ _ _ _ _
            replace F := F.cut [(6, .int .i64 (j : Int)), (5, .slice (some ⟨Z, 0, none⟩) 12 12), (4, .pointer (some ⟨P, 0, none⟩)), (3, .int .i64 ((0 : Nat) : Int)), (2, .bool false), (0, .slice (some ⟨N, q, none⟩) 1 cp)] (by kernel_rfl)
            obtain ⟨t, ht⟩ : ∃ t, (textsN n)[j]? = some t := ⟨_, List.getElem?_eq_getElem (show j < (textsN n).length from hlt)⟩
            obtain ⟨bz, oz, ez, hcz⟩ := hTx j (.string t) (by rw [List.getElem?_map, ht]; rfl)
            injection ez with ez
            injection ez with ez1 ez2
            subst ez1 ez2
            rw [Nat.zero_add] at hcz
            refine wp_seq ?_
            refine wp_block_end (fun a' w' => FrL 94 [(6, .int .i64 (j : Int)), (5, .slice (some ⟨Z, 0, none⟩) 12 12), (4, .pointer (some ⟨P, 0, none⟩)), (3, .int .i64 ((0 : Nat) : Int)), (2, .bool false), (0, .slice (some ⟨N, q, none⟩) 1 cp)] a' ∧ w' = w9 ∧ t.size ≤ 300) ?_ ?_
            · skip
              by_cases h3 : 300 < t.size
              · skip
                refine wp_seq ?_
                refine wp_region_lit ?_
                refine fr_ch F 2 [(67, .int .i64 (j : Int)), (66, .slice (some ⟨Z, 0, none⟩) 12 12)] (by kernel_rfl) ?_
                clear F a9
                intro a9 F
                refine fr_do F (wanted_free rfl) 68 rfl (by decide) (.pointer (some ⟨Z, j, none⟩)) (by intro a' F'; have h66 := F'.at' 66 _ rfl; have h67 := F'.at' 67 _ rfl; go_simp <;> omega) ?_
                clear F a9
                intro a9 F
                refine fr_do F (wanted_free rfl) 69 rfl (by decide) (.string t) (by intro a' F'; have h68 := F'.at' 68 _ rfl; have hc := hcz; go_simp) ?_
                clear F a9
                intro a9 F
                refine fr_ch F 1 [(70, .int .i64 (t.size : Int))] (by kernel_rfl) ?_
                clear F a9
                intro a9 F
                refine fr_do F (wanted_free rfl) 71 rfl (by decide) (.bool true) (by intro a' F'; have h70 := F'.at' 70 _ rfl; go_simp <;> omega) ?_
                clear F a9
                intro a9 F
                refine wpList_nil ?_
                show Code.wp _ _ _ _ _
                refine wp_cond_true (F.ev 71 rfl) ?_
                refine wp_seq ?_
                refine wp_region_lit ?_
                refine fr_ch F 1 [(2, .bool true)] (by kernel_rfl) ?_
                clear F a9
                intro a9 F
                refine wpList_nil ?_
                show Code.wp _ _ _ _ _
                refine wp_ret ?_
                exact fr_ret1 F rfl _ rfl (FIN.out _ _ (by unfold great1; rw [List.any_eq_true.2 ⟨t, List.mem_of_getElem? ht, decide_eq_true h3⟩]; rfl) HK.low)
              refine wp_seq ?_
              refine wp_region_lit ?_
              refine fr_mv F (wanted_free rfl) 66 rfl (by decide) 5 rfl rfl ?_
              clear F a9
              intro a9 F
              refine fr_mv F (wanted_free rfl) 67 rfl (by decide) 6 rfl rfl ?_
              clear F a9
              intro a9 F
              refine fr_do F (wanted_free rfl) 68 rfl (by decide) (.pointer (some ⟨Z, j, none⟩)) (by intro a' F'; have h66 := F'.at' 66 _ rfl; have h67 := F'.at' 67 _ rfl; go_simp <;> omega) ?_
              clear F a9
              intro a9 F
              refine fr_do F (wanted_free rfl) 69 rfl (by decide) (.string t) (by intro a' F'; have h68 := F'.at' 68 _ rfl; have hc := hcz; go_simp) ?_
              clear F a9
              intro a9 F
              refine fr_ch F 1 [(70, .int .i64 (t.size : Int))] (by kernel_rfl) ?_
              clear F a9
              intro a9 F
              refine fr_do F (wanted_free rfl) 71 rfl (by decide) (.bool false) (by intro a' F'; have h70 := F'.at' 70 _ rfl; go_simp <;> omega) ?_
              clear F a9
              intro a9 F
              refine wpList_nil ?_
              show Code.wp _ _ _ _ _
              refine wp_cond_false (F.ev 71 rfl) ?_
              refine wp_skip ?_
              exact ⟨(((((((FrL.nil F.size F.defers).add 0 _ (F.at' 0 _ rfl)).add 2 _ (F.at' 2 _ rfl)).add 3 _ (F.at' 3 _ rfl)).add 4 _ (F.at' 4 _ rfl)).add 5 _ (F.at' 5 _ rfl)).add 6 _ (F.at' 6 _ rfl)), rfl, by omega⟩
            · clear F a9
              rintro a9 w7 ⟨F, rfl, hb⟩
              rename World => w9
              show Code.wp _ _ _ _ _
              refine wp_region_lit ?_
              refine fr_mv F (wanted_free rfl) 64 rfl (by decide) 6 rfl rfl ?_
              clear F a9
              intro a9 F
              refine fr_do F (wanted_free rfl) 65 rfl (by decide) (.int .i64 ((j + 1 : Nat) : Int)) (by intro a' F'; have h64 := F'.at' 64 _ rfl; go_simp <;> (rw [IntKind.wrap_i64]; omega)) ?_
              clear F a9
              intro a9 F
              refine fr_ch F 1 [(6, .int .i64 ((j + 1 : Nat) : Int))] (by kernel_rfl) ?_
              clear F a9
              intro a9 F
              refine wpList_nil ?_
              replace F := F.cut [(6, .int .i64 ((j + 1 : Nat) : Int)), (5, .slice (some ⟨Z, 0, none⟩) 12 12), (4, .pointer (some ⟨P, 0, none⟩)), (3, .int .i64 ((0 : Nat) : Int)), (2, .bool false), (0, .slice (some ⟨N, q, none⟩) 1 cp)] (by kernel_rfl)
              refine ⟨⟨j + 1, by omega, F, rfl, fun i u hi hu => ?_⟩, ?_⟩
              · rcases Nat.lt_succ_iff_lt_or_eq.1 hi with h | h
                · exact HH.out i u h hu
                · subst h
                  rw [ht] at hu
                  injection hu with hu
                  rw [← hu]; exact hb
              · rw [muI_at F 6 (j + 1) rfl]
                omega
          · have hj2 : j = 12 := by omega
            rw [hj2] at HH
            refine wp_region_lit ?_
            refine fr_mv F (wanted_free rfl) 60 rfl (by decide) 6 rfl rfl ?_
            clear F a9
            intro a9 F
            refine fr_ch F 2 [(62, .int .i64 12)] (by kernel_rfl) ?_
            clear F a9
            intro a9 F
            refine fr_do F (wanted_free rfl) 63 rfl (by decide) (.bool false) (by intro a' F'; have h60 := F'.at' 60 _ rfl; have h62 := F'.at' 62 _ rfl; go_simp) ?_
            clear F a9
            intro a9 F
            refine wpList_nil ?_
            show Code.wp _ _ _ _ _
            refine wp_cond_false (F.ev 63 rfl) ?_
            refine wp_exit ?_
            exact then_exit (then_exit (exit_in ⟨⟨j, (((((((FrL.nil F.size F.defers).add 0 _ (F.at' 0 _ rfl)).add 2 _ (F.at' 2 _ rfl)).add 3 _ (F.at' 3 _ rfl)).add 4 _ (F.at' 4 _ rfl)).add 5 _ (F.at' 5 _ rfl)).add 6 _ (F.at' 6 _ rfl))⟩, rfl, HH.out⟩))
        · clear F a9
          rintro a9 w8 ⟨⟨j, F⟩, rfl, ht⟩
          rename World => w9
          show Code.wp _ _ _ _ _
          replace F := F.cut [(5, .slice (some ⟨Z, 0, none⟩) 12 12), (4, .pointer (some ⟨P, 0, none⟩)), (3, .int .i64 ((0 : Nat) : Int)), (2, .bool false), (0, .slice (some ⟨N, q, none⟩) 1 cp)] (by kernel_rfl)
          refine wp_seq ?_
          refine wp_region_lit ?_
          refine fr_ch F 1 [(7, .int .i64 0)] (by kernel_rfl) ?_
          clear F a9
          intro a9 F
          refine wpList_nil ?_
          show Code.wp _ _ _ _ _
          replace F := F.cut [(7, .int .i64 ((0 : Nat) : Int)), (5, .slice (some ⟨Z, 0, none⟩) 12 12), (4, .pointer (some ⟨P, 0, none⟩)), (3, .int .i64 ((0 : Nat) : Int)), (2, .bool false), (0, .slice (some ⟨N, q, none⟩) 1 cp)] (by kernel_rfl)
          refine wp_block_end (fun a' w' => (∃ j : Nat, FrL 94 [(7, .int .i64 (j : Int)), (5, .slice (some ⟨Z, 0, none⟩) 12 12), (4, .pointer (some ⟨P, 0, none⟩)), (3, .int .i64 ((0 : Nat) : Int)), (2, .bool false), (0, .slice (some ⟨N, q, none⟩) 1 cp)] a') ∧ w' = w9 ∧ (∀ i x, i < n.p.subs.length → n.p.subs[i]? = some x → x.1.size ≤ 300 ∧ i < 20)) ?_ ?_
          · skip
            refine wp_loop (fun a' w' => ∃ j : Nat, j ≤ n.p.subs.length ∧ FrL 94 [(7, .int .i64 (j : Int)), (5, .slice (some ⟨Z, 0, none⟩) 12 12), (4, .pointer (some ⟨P, 0, none⟩)), (3, .int .i64 ((0 : Nat) : Int)), (2, .bool false), (0, .slice (some ⟨N, q, none⟩) 1 cp)] a' ∧ w' = w9 ∧ (∀ i x, i < j → n.p.subs[i]? = some x → x.1.size ≤ 300 ∧ i < 20)) (fun a' _ => muI (n.p.subs.length) 7 a') ⟨0, Nat.zero_le _, F, rfl, fun i t h => absurd h (Nat.not_lt_zero _)⟩ ?_
            clear F a9
            rintro a9 w8 ⟨j, hj, F, rfl, hh⟩
            rename World => w9
            rw [muI_at F 7 j rfl]
            have HH := Lib.hid hh
            clear hh
            refine wp_seq ?_
            refine wp_seq ?_
            by_cases hlt : j < n.p.subs.length
            · skip
              refine wp_region_lit ?_
              refine fr_mv F (wanted_free rfl) 72 rfl (by decide) 7 rfl rfl ?_
              clear F a9
              intro a9 F
              refine fr_ch F 1 [(73, .pointer (some ⟨P, 22, none⟩))] (by kernel_rfl) ?_
              clear F a9
              intro a9 F
              refine fr_do F (wanted_free rfl) 74 rfl (by decide) (.slice a n.p.subs.length c) (by intro a' F'; have hc : w9.cell? ⟨P, 22, none⟩ = some (.slice a n.p.subs.length c) := (HK.at 0 rfl).cells 22; have h73 := F'.at' 73 _ rfl; go_simp) ?_
              clear F a9
              intro a9 F
              refine fr_ch F 1 [(75, .int .i64 (n.p.subs.length : Int))] (by kernel_rfl) ?_
              clear F a9
              intro a9 F
              refine fr_do F (wanted_free rfl) 76 rfl (by decide) (.bool true) (by intro a' F'; have h72 := F'.at' 72 _ rfl; have h75 := F'.at' 75 _ rfl; go_simp) ?_
              clear F a9
              intro a9 F
              refine wpList_nil ?_
              show Code.wp _ _ _ _ _
              refine wp_cond_true (F.ev 76 rfl) ?_
              refine wp_skip ?_
              show Code.wp _ _ _ _ _
              replace F := F.cut [(7, .int .i64 (j : Int)), (5, .slice (some ⟨Z, 0, none⟩) 12 12), (4, .pointer (some ⟨P, 0, none⟩)), (3, .int .i64 ((0 : Nat) : Int)), (2, .bool false), (0, .slice (some ⟨N, q, none⟩) 1 cp)] (by kernel_rfl)
              obtain ⟨x, hx⟩ : ∃ x, n.p.subs[j]? = some x := ⟨_, List.getElem?_eq_getElem hlt⟩
              obtain ⟨bz, oz, hal, hcz, _⟩ := (HC.out.below HK.low).sub hx
              refine wp_seq ?_
              refine wp_block_end (fun a' w' => FrL 94 [(7, .int .i64 (j : Int)), (5, .slice (some ⟨Z, 0, none⟩) 12 12), (4, .pointer (some ⟨P, 0, none⟩)), (3, .int .i64 ((0 : Nat) : Int)), (2, .bool false), (0, .slice (some ⟨N, q, none⟩) 1 cp)] a' ∧ w' = w9 ∧ (x.1.size ≤ 300 ∧ j < 20)) ?_ ?_
              · skip
                by_cases h3 : 300 < x.1.size
                · skip
                  refine wp_seq ?_
                  refine wp_region_lit ?_
                  refine fr_ch F 1 [(79, .pointer (some ⟨P, 22, none⟩))] (by kernel_rfl) ?_
                  clear F a9
                  intro a9 F
                  refine fr_do F (wanted_free rfl) 80 rfl (by decide) (.slice a n.p.subs.length c) (by intro a' F'; have hc : w9.cell? ⟨P, 22, none⟩ = some (.slice a n.p.subs.length c) := (HK.at 0 rfl).cells 22; have h79 := F'.at' 79 _ rfl; go_simp) ?_
                  clear F a9
                  intro a9 F
                  refine fr_mv F (wanted_free rfl) 81 rfl (by decide) 7 rfl rfl ?_
                  clear F a9
                  intro a9 F
                  refine fr_do F (wanted_free rfl) 82 rfl (by decide) (.pointer (some ⟨bz, oz + j * 2, none⟩)) (by intro a' F'; have h80 := F'.at' 80 _ rfl; have h81 := F'.at' 81 _ rfl; go_simp) ?_
                  clear F a9
                  intro a9 F
                  refine fr_ch F 1 [(83, .pointer (some ⟨bz, oz + j * 2, none⟩))] (by kernel_rfl) ?_
                  clear F a9
                  intro a9 F
                  refine fr_do F (wanted_free rfl) 84 rfl (by decide) (.string x.1) (by intro a' F'; have h83 := F'.at' 83 _ rfl; have hc := hcz; go_simp) ?_
                  clear F a9
                  intro a9 F
                  refine fr_ch F 1 [(85, .int .i64 (x.1.size : Int))] (by kernel_rfl) ?_
                  clear F a9
                  intro a9 F
                  refine fr_do F (wanted_free rfl) 86 rfl (by decide) (.bool true) (by intro a' F'; have h85 := F'.at' 85 _ rfl; go_simp <;> omega) ?_
                  clear F a9
                  intro a9 F
                  refine fr_ch F 4 [(90, .bool true), (89, undef), (88, undef), (87, .bool true)] (by kernel_rfl) ?_
                  clear F a9
                  intro a9 F
                  refine wpList_nil ?_
                  show Code.wp _ _ _ _ _
                  refine wp_cond_true (F.ev 90 rfl) ?_
                  refine wp_seq ?_
                  refine wp_region_lit ?_
                  refine fr_ch F 1 [(2, .bool true)] (by kernel_rfl) ?_
                  clear F a9
                  intro a9 F
                  refine wpList_nil ?_
                  show Code.wp _ _ _ _ _
                  refine wp_ret ?_
                  exact fr_ret1 F rfl _ rfl (FIN.out _ _ (by unfold great1; rw [List.any_eq_true.2 ⟨x, List.mem_of_getElem? hx, decide_eq_true h3⟩]; simp) HK.low)
                by_cases h4 : 20 ≤ j
                · skip
                  refine wp_seq ?_
                  refine wp_region_lit ?_
                  refine fr_ch F 1 [(79, .pointer (some ⟨P, 22, none⟩))] (by kernel_rfl) ?_
                  clear F a9
                  intro a9 F
                  refine fr_do F (wanted_free rfl) 80 rfl (by decide) (.slice a n.p.subs.length c) (by intro a' F'; have hc : w9.cell? ⟨P, 22, none⟩ = some (.slice a n.p.subs.length c) := (HK.at 0 rfl).cells 22; have h79 := F'.at' 79 _ rfl; go_simp) ?_
                  clear F a9
                  intro a9 F
                  refine fr_mv F (wanted_free rfl) 81 rfl (by decide) 7 rfl rfl ?_
                  clear F a9
                  intro a9 F
                  refine fr_do F (wanted_free rfl) 82 rfl (by decide) (.pointer (some ⟨bz, oz + j * 2, none⟩)) (by intro a' F'; have h80 := F'.at' 80 _ rfl; have h81 := F'.at' 81 _ rfl; go_simp) ?_
                  clear F a9
                  intro a9 F
                  refine fr_ch F 1 [(83, .pointer (some ⟨bz, oz + j * 2, none⟩))] (by kernel_rfl) ?_
                  clear F a9
                  intro a9 F
                  refine fr_do F (wanted_free rfl) 84 rfl (by decide) (.string x.1) (by intro a' F'; have h83 := F'.at' 83 _ rfl; have hc := hcz; go_simp) ?_
                  clear F a9
                  intro a9 F
                  refine fr_ch F 1 [(85, .int .i64 (x.1.size : Int))] (by kernel_rfl) ?_
                  clear F a9
                  intro a9 F
                  refine fr_do F (wanted_free rfl) 86 rfl (by decide) (.bool false) (by intro a' F'; have h85 := F'.at' 85 _ rfl; go_simp <;> omega) ?_
                  clear F a9
                  intro a9 F
                  refine fr_ch F 1 [(87, .bool false)] (by kernel_rfl) ?_
                  clear F a9
                  intro a9 F
                  refine fr_mv F (by rw [wanted_at F rfl (t := 87) (b := false) (by kernel_rfl) rfl]; rfl) 88 rfl (by decide) 7 rfl rfl ?_
                  clear F a9
                  intro a9 F
                  refine fr_do F (by rw [wanted_at F rfl (t := 87) (b := false) (by kernel_rfl) rfl]; rfl) 89 rfl (by decide) (.bool true) (by intro a' F'; have h88 := F'.at' 88 _ rfl; go_simp <;> omega) ?_
                  clear F a9
                  intro a9 F
                  refine fr_ch F 1 [(90, .bool true)] (by kernel_rfl) ?_
                  clear F a9
                  intro a9 F
                  refine wpList_nil ?_
                  show Code.wp _ _ _ _ _
                  refine wp_cond_true (F.ev 90 rfl) ?_
                  refine wp_seq ?_
                  refine wp_region_lit ?_
                  refine fr_ch F 1 [(2, .bool true)] (by kernel_rfl) ?_
                  clear F a9
                  intro a9 F
                  refine wpList_nil ?_
                  show Code.wp _ _ _ _ _
                  refine wp_ret ?_
                  exact fr_ret1 F rfl _ rfl (FIN.out _ _ (by unfold great1; rw [decide_eq_true (show 20 < n.p.subs.length by omega)]; simp) HK.low)
                refine wp_seq ?_
                refine wp_region_lit ?_
                refine fr_ch F 1 [(79, .pointer (some ⟨P, 22, none⟩))] (by kernel_rfl) ?_
                clear F a9
                intro a9 F
                refine fr_do F (wanted_free rfl) 80 rfl (by decide) (.slice a n.p.subs.length c) (by intro a' F'; have hc : w9.cell? ⟨P, 22, none⟩ = some (.slice a n.p.subs.length c) := (HK.at 0 rfl).cells 22; have h79 := F'.at' 79 _ rfl; go_simp) ?_
                clear F a9
                intro a9 F
                refine fr_mv F (wanted_free rfl) 81 rfl (by decide) 7 rfl rfl ?_
                clear F a9
                intro a9 F
                refine fr_do F (wanted_free rfl) 82 rfl (by decide) (.pointer (some ⟨bz, oz + j * 2, none⟩)) (by intro a' F'; have h80 := F'.at' 80 _ rfl; have h81 := F'.at' 81 _ rfl; go_simp) ?_
                clear F a9
                intro a9 F
                refine fr_ch F 1 [(83, .pointer (some ⟨bz, oz + j * 2, none⟩))] (by kernel_rfl) ?_
                clear F a9
                intro a9 F
                refine fr_do F (wanted_free rfl) 84 rfl (by decide) (.string x.1) (by intro a' F'; have h83 := F'.at' 83 _ rfl; have hc := hcz; go_simp) ?_
                clear F a9
                intro a9 F
                refine fr_ch F 1 [(85, .int .i64 (x.1.size : Int))] (by kernel_rfl) ?_
                clear F a9
                intro a9 F
                refine fr_do F (wanted_free rfl) 86 rfl (by decide) (.bool false) (by intro a' F'; have h85 := F'.at' 85 _ rfl; go_simp <;> omega) ?_
                clear F a9
                intro a9 F
                refine fr_ch F 1 [(87, .bool false)] (by kernel_rfl) ?_
                clear F a9
                intro a9 F
                refine fr_mv F (by rw [wanted_at F rfl (t := 87) (b := false) (by kernel_rfl) rfl]; rfl) 88 rfl (by decide) 7 rfl rfl ?_
                clear F a9
                intro a9 F
                refine fr_do F (by rw [wanted_at F rfl (t := 87) (b := false) (by kernel_rfl) rfl]; rfl) 89 rfl (by decide) (.bool false) (by intro a' F'; have h88 := F'.at' 88 _ rfl; go_simp <;> omega) ?_
                clear F a9
                intro a9 F
                refine fr_ch F 1 [(90, .bool false)] (by kernel_rfl) ?_
                clear F a9
                intro a9 F
                refine wpList_nil ?_
                show Code.wp _ _ _ _ _
                refine wp_cond_false (F.ev 90 rfl) ?_
                refine wp_skip ?_
                exact ⟨(((((((FrL.nil F.size F.defers).add 0 _ (F.at' 0 _ rfl)).add 2 _ (F.at' 2 _ rfl)).add 3 _ (F.at' 3 _ rfl)).add 4 _ (F.at' 4 _ rfl)).add 5 _ (F.at' 5 _ rfl)).add 7 _ (F.at' 7 _ rfl)), rfl, ⟨by omega, by omega⟩⟩
              · clear F a9
                rintro a9 w7 ⟨F, rfl, hb⟩
                rename World => w9
                show Code.wp _ _ _ _ _
                refine wp_region_lit ?_
                refine fr_mv F (wanted_free rfl) 77 rfl (by decide) 7 rfl rfl ?_
                clear F a9
                intro a9 F
                refine fr_do F (wanted_free rfl) 78 rfl (by decide) (.int .i64 ((j + 1 : Nat) : Int)) (by intro a' F'; have h77 := F'.at' 77 _ rfl; go_simp <;> (rw [IntKind.wrap_i64]; omega)) ?_
                clear F a9
                intro a9 F
                refine fr_ch F 1 [(7, .int .i64 ((j + 1 : Nat) : Int))] (by kernel_rfl) ?_
                clear F a9
                intro a9 F
                refine wpList_nil ?_
                replace F := F.cut [(7, .int .i64 ((j + 1 : Nat) : Int)), (5, .slice (some ⟨Z, 0, none⟩) 12 12), (4, .pointer (some ⟨P, 0, none⟩)), (3, .int .i64 ((0 : Nat) : Int)), (2, .bool false), (0, .slice (some ⟨N, q, none⟩) 1 cp)] (by kernel_rfl)
                refine ⟨⟨j + 1, by omega, F, rfl, fun i u hi hu => ?_⟩, ?_⟩
                · rcases Nat.lt_succ_iff_lt_or_eq.1 hi with h | h
                  · exact HH.out i u h hu
                  · subst h
                    rw [hx] at hu
                    injection hu with hu
                    rw [← hu]; exact hb
                · rw [muI_at F 7 (j + 1) rfl]
                  omega
            · have hj2 : j = n.p.subs.length := by omega
              rw [hj2] at HH
              refine wp_region_lit ?_
              refine fr_mv F (wanted_free rfl) 72 rfl (by decide) 7 rfl rfl ?_
              clear F a9
              intro a9 F
              refine fr_ch F 1 [(73, .pointer (some ⟨P, 22, none⟩))] (by kernel_rfl) ?_
              clear F a9
              intro a9 F
              refine fr_do F (wanted_free rfl) 74 rfl (by decide) (.slice a n.p.subs.length c) (by intro a' F'; have hc : w9.cell? ⟨P, 22, none⟩ = some (.slice a n.p.subs.length c) := (HK.at 0 rfl).cells 22; have h73 := F'.at' 73 _ rfl; go_simp) ?_
              clear F a9
              intro a9 F
              refine fr_ch F 1 [(75, .int .i64 (n.p.subs.length : Int))] (by kernel_rfl) ?_
              clear F a9
              intro a9 F
              refine fr_do F (wanted_free rfl) 76 rfl (by decide) (.bool false) (by intro a' F'; have h72 := F'.at' 72 _ rfl; have h75 := F'.at' 75 _ rfl; go_simp) ?_
              clear F a9
              intro a9 F
              refine wpList_nil ?_
              show Code.wp _ _ _ _ _
              refine wp_cond_false (F.ev 76 rfl) ?_
              refine wp_exit ?_
              exact then_exit (then_exit (exit_in ⟨⟨j, (((((((FrL.nil F.size F.defers).add 0 _ (F.at' 0 _ rfl)).add 2 _ (F.at' 2 _ rfl)).add 3 _ (F.at' 3 _ rfl)).add 4 _ (F.at' 4 _ rfl)).add 5 _ (F.at' 5 _ rfl)).add 7 _ (F.at' 7 _ rfl))⟩, rfl, HH.out⟩))
          · clear F a9
            rintro a9 w8 ⟨⟨j, F⟩, rfl, hs⟩
            rename World => w9
            exact ⟨((((FrL.nil F.size F.defers).add 0 _ (F.at' 0 _ rfl)).add 2 _ (F.at' 2 _ rfl)).add 3 _ (F.at' 3 _ rfl)), HK.sub (List.nil_sublist _) (fun r hr => hr), great1_no ht hs⟩
      · clear F a9 HK
        rintro a9 w8 ⟨F, HK, hg1⟩
        clear w9
        rename World => w9
        show Code.wp _ _ _ _ _
        refine wp_region_lit ?_
        refine fr_mv F (wanted_free rfl) 12 rfl (by decide) 3 rfl rfl ?_
        clear F a9
        intro a9 F
        refine fr_do F (wanted_free rfl) 13 rfl (by decide) (.int .i64 ((1 : Nat) : Int)) (by intro a' F'; have h12 := F'.at' 12 _ rfl; go_simp <;> rfl) ?_
        clear F a9
        intro a9 F
        refine fr_ch F 1 [(3, .int .i64 ((1 : Nat) : Int))] (by kernel_rfl) ?_
        clear F a9
        intro a9 F
        refine wpList_nil ?_
        replace F := F.cut [(3, .int .i64 ((1 : Nat) : Int)), (2, .bool false), (0, .slice (some ⟨N, q, none⟩) 1 cp)] (by kernel_rfl)
        refine ⟨⟨1, Nat.le_refl _, F, HK, fun _ => hg1⟩, ?_⟩
        rw [muI_at F 3 1 rfl]
        omega
    · have hk1 : k = 1 := by omega
      subst hk1
      refine wp_region_lit ?_
      refine fr_ch F 4 [(11, .bool false)] (by kernel_rfl) ?_
      clear F a9
      intro a9 F
      refine wpList_nil ?_
      show Code.wp _ _ _ _ _
      refine wp_cond_false (F.ev 11 rfl) ?_
      refine wp_exit ?_
      exact then_exit (then_exit (exit_in ⟨⟨1, ((((FrL.nil F.size F.defers).add 0 _ (F.at' 0 _ rfl)).add 2 _ (F.at' 2 _ rfl)).add 3 _ (F.at' 3 _ rfl))⟩, HK, h0 rfl⟩))
  · clear F a9 HK
    rintro a9 w8 ⟨⟨kk, F⟩, HK, hg1⟩
    clear w9
    rename World => w9
    show Code.wp _ _ _ _ _
    refine wp_seq ?_
    refine wp_region_lit ?_
    refine fr_mv F (wanted_free rfl) 91 rfl (by decide) 0 rfl rfl ?_
    clear F a9
    intro a9 F
    refine fr_ch F 3 [(2, .bool false), (93, .bool false), (92, .int .i64 1)] (by kernel_rfl) ?_
    clear F a9
    intro a9 F
    refine wpList_nil ?_
    show Code.wp _ _ _ _ _
    refine wp_ret ?_
    exact fr_ret1 F rfl _ rfl (FIN.out _ _ hg1.symm HK.low)
end Go.Proofs.YtmppkgonkkffhaaDoor

/- A row cut, and copied; a note put into a row. No condition; no function of the program is named but the types. -/
namespace Go.Proofs.YtmppkgonkkffhaaDoor
open Go.RowKit
theorem elem_of {P : Program} {t e : TypeId} (hu : P.underlying t = some (.slice e)) : P.elem t = e := by
  simp [Program.elem, hu]
theorem op_cut {P : Program} {w : World} {o : Oper} {ρ : Operand → Value} {t e : TypeId} {x lo hi : Operand} {a : Option Addr} {n c l h m : Nat} {k1 k2 : IntKind} {i : TypeInfo} (hu : P.underlying t = some (.slice e)) (hi0 : P.info? e = some i) (hm : i.size = m) (ho : o.op = .slice t x (some lo) (some hi) none)
    (hx : ρ x = .slice a n c) (hl : ρ lo = .int k1 (l : Int)) (hh : ρ hi = .int k2 (h : Int)) (h1 : l ≤ h) (h2 : h ≤ c) {v : Value} (hv : Value.slice (if c = l then a else a.map (·.add (l * m))) (h - l) (c - l) = v) : (execOp ρ o).run P w = .ok (.value v) w := by
  have he := elem_of hu
  have ht : P.underlying t = some (.slice (P.elem t)) := by rw [he]; exact hu
  have h3 := run_sliceAt_slice (P := P) w t (.slice a n c) (some (.int k1 l)) (some (.int k2 h)) none ht
  have h4 := run_slice_lh (P := P) w t a n c ht k1 k2 l h (by omega) (by omega) (by omega)
  have hs : (sizeOf (P.elem t)).run P w = .ok m w := by rw [he]; simp [sizeOf, typeInfo, hi0, hm]
  rw [hs] at h4
  rw [h4] at h3
  subst hv
  unfold execOp
  simp only [ho, hx, hl, hh, Option.map_some, Option.map_none, Sem.run_bind, h3, Result.andThen_ok, Sem.run_pure, sliced]
  rfl
theorem op_cutL {P : Program} {w : World} {o : Oper} {ρ : Operand → Value} {t e : TypeId} {x lo : Operand} {a : Option Addr} {n c l m : Nat} {k1 : IntKind} {i : TypeInfo} (hu : P.underlying t = some (.slice e)) (hi0 : P.info? e = some i) (hm : i.size = m) (ho : o.op = .slice t x (some lo) none none)
    (hx : ρ x = .slice a n c) (hl : ρ lo = .int k1 (l : Int)) (h1 : l ≤ n) {v : Value} (hv : Value.slice (if c = l then a else a.map (·.add (l * m))) (n - l) (c - l) = v) : (execOp ρ o).run P w = .ok (.value v) w := by
  have he := elem_of hu
  have ht : P.underlying t = some (.slice (P.elem t)) := by rw [he]; exact hu
  have h3 := run_sliceAt_slice (P := P) w t (.slice a n c) (some (.int k1 l)) none none ht
  have h4 := run_slice_l (P := P) w t a n c ht k1 l (by omega) (by omega)
  have hs : (sizeOf (P.elem t)).run P w = .ok m w := by rw [he]; simp [sizeOf, typeInfo, hi0, hm]
  rw [hs] at h4
  rw [h4] at h3
  subst hv
  unfold execOp
  simp only [ho, hx, hl, Option.map_some, Option.map_none, Sem.run_bind, h3, Result.andThen_ok, Sem.run_pure, sliced]
  rfl
theorem op_cutH {P : Program} {w : World} {o : Oper} {ρ : Operand → Value} {t e : TypeId} {x hi : Operand} {a : Option Addr} {n c h m : Nat} {k2 : IntKind} {i : TypeInfo} (hu : P.underlying t = some (.slice e)) (hi0 : P.info? e = some i) (hm : i.size = m) (ho : o.op = .slice t x none (some hi) none)
    (hx : ρ x = .slice a n c) (hh : ρ hi = .int k2 (h : Int)) (h2 : h ≤ c) {v : Value} (hv : Value.slice (if c = 0 then a else a.map (·.add 0)) h c = v) : (execOp ρ o).run P w = .ok (.value v) w := by
  have he := elem_of hu
  have ht : P.underlying t = some (.slice (P.elem t)) := by rw [he]; exact hu
  have h3 := run_sliceAt_slice (P := P) w t (.slice a n c) none (some (.int k2 h)) none ht
  have h4 := run_slice_h (P := P) w t a n c ht k2 h (by omega) (by omega)
  have hs : (sizeOf (P.elem t)).run P w = .ok m w := by rw [he]; simp [sizeOf, typeInfo, hi0, hm]
  rw [hs] at h4
  rw [h4] at h3
  have hv2 : sliced a 0 h c m = v := by
    rw [← hv]
    unfold sliced
    rw [Nat.zero_mul, Nat.sub_zero, Nat.sub_zero]
  unfold execOp
  simp only [ho, hx, hh, Option.map_some, Option.map_none, Sem.run_bind, h3, Result.andThen_ok, Sem.run_pure, Int.toNat_natCast, hv2]
theorem CellsA.drop {w : World} {a : Option Addr} {vs : List Value} (h : CellsA w a vs) (k : Nat) : CellsA w (a.map (·.add k)) (vs.drop k) := fun j v hv => by
  rw [List.getElem?_drop] at hv
  obtain ⟨b, o, rfl, hc⟩ := h (k + j) v hv
  refine ⟨b, o + k, by rw [Option.map_some, Addr.add_lit], ?_⟩
  rw [Nat.add_assoc]; exact hc
theorem CellsA.take {w : World} {a : Option Addr} {vs : List Value} (h : CellsA w a vs) (k : Nat) : CellsA w a (vs.take k) := fun j v hv => by
  rw [List.getElem?_take] at hv
  split at hv
  · exact h j v hv
  · cases hv
theorem CellsA.add0 {w : World} {a : Option Addr} {vs : List Value} (h : CellsA w a vs) : CellsA w (a.map (·.add 0)) vs := by
  have := h.drop 0
  rwa [List.drop_zero] at this
theorem ntCells_drop : ∀ (T : List NtE) (k : Nat), (ntCells T).drop (k * 35) = ntCells (T.drop k)
  | T, 0 => by simp
  | [], k + 1 => by simp [ntCells]
  | x :: T, k + 1 => by
    rw [List.drop_succ_cons, ← ntCells_drop T k]
    show (ntC x ++ ntCells T).drop ((k + 1) * 35) = _
    rw [List.drop_append, ntC_len, List.drop_of_length_le (by rw [ntC_len]; omega), List.nil_append]
    congr 1
    omega
theorem ntCells_take : ∀ (T : List NtE) (k : Nat), (ntCells T).take (k * 35) = ntCells (T.take k)
  | T, 0 => by simp [ntCells]
  | [], k + 1 => by simp [ntCells]
  | x :: T, k + 1 => by
    rw [List.take_succ_cons]
    show (ntC x ++ ntCells T).take ((k + 1) * 35) = ntC x ++ ntCells (T.take k)
    rw [← ntCells_take T k, List.take_append, ntC_len, List.take_of_length_le (by rw [ntC_len]; omega)]
    congr 2
    omega
theorem ntCells_app (T U : List NtE) : ntCells T ++ ntCells U = ntCells (T ++ U) := by unfold ntCells; rw [List.flatMap_append]
theorem ntCells_len (T : List NtE) : (ntCells T).length = T.length * 35 := by
  induction T with
  | nil => rfl
  | cons x T ih =>
    show (ntC x ++ ntCells T).length = _
    rw [List.length_append, ih, ntC_len, List.length_cons]; omega
theorem nt_ones (T : List NtE) : ∀ u ∈ ntCells T, u.oneCell' = true := by
  intro u hu
  unfold ntCells at hu
  obtain ⟨x, _, hx⟩ := List.mem_flatMap.1 hu
  exact Array.all_eq_true'.1 (nt_one x.1 x.2.1 x.2.2) u (Array.mem_def.2 (Array.mem_toList_iff.1 hx |> Array.mem_toList_iff.2))
theorem cells_rest {w : World} {a : Option Addr} {T : List NtE} {c k : Nat} (h : CellsA w a (ntCells T)) (hk : k ≤ T.length) (hc : T.length ≤ c) : CellsA w (if c = k then a else a.map (·.add (k * 35))) (ntCells (T.drop k)) := by
  split
  · have : T.drop k = [] := List.drop_eq_nil_of_le (by omega)
    rw [this]; exact CellsA.nil _ _
  · rw [← ntCells_drop]; exact h.drop _
theorem cells_ahead {w : World} {a : Option Addr} {T : List NtE} {c k : Nat} (h : CellsA w a (ntCells T)) : CellsA w (if c = 0 then a else a.map (·.add 0)) (ntCells (T.take k)) := by
  rw [← ntCells_take]
  split
  · exact h.take _
  · exact (h.take _).add0
section
variable {P : Program} {ops : Array Oper} {rest : List Oper} {a : Act} {w : World} {Q : Exit → Act → World → Prop} {n : Nat} {L : List (Nat × Value)} {o o2 : Oper} {md : Region.Mode} {S : World → Prop} {z : Nat}
theorem run_slice0 {ρ : Operand → Value} (t e : TypeId) (ho : o.op = .buildSlice t 0 #[]) (ie : TypeInfo) (zz : Value) (hu : P.underlying t = some (.slice e)) (hie : P.info? e = some ie) (hz : ie.zero = some zz) :
    (execOp ρ o).run P w = .ok (.value (.slice (some ⟨w.heap.size, 0, none⟩) 0 0)) (w.alloc (.cells #[] e)) := by
  unfold execOp
  simp [ho, Instr.buildSlice, run_underlying hu, sizeOf, typeInfo, zeroValue, hie, hz, newRow, Instr.fill]
  rw [Array.eq_empty_of_size_eq_zero (show (Array.map (fun _ => (default : Value)) (Array.range 0)).size = 0 by simp)]
theorem own_zero {w : World} {B m : Nat} {T : TypeId} (hB : B ≤ w.heap.size) : (w.alloc (.cells #[] T)).ownsRow B T m (.slice (some ⟨w.heap.size, 0, none⟩) 0 0) 0 [] :=
  ⟨by simp, Or.inr ⟨_, _, _, rfl, hB, heap_alloc_new w _, by decide, by unfold maxLen; omega, by simp, by simp⟩⟩
theorem op_append (s x : Operand) (t : TypeId) (ho : o.op = .call { callee := .builtin .append, args := #[s, x], argTypes := #[t, t] })
    (base : Nat) (e : TypeId) (i : TypeInfo) (z : Value) (size bytes : Nat) (ht : P.underlying t = some (.slice e)) (hi : P.info? e = some i) (hz : i.zero = some z)
    (hsize : i.size = size) (hby : i.bytes = bytes) (hzs : z.cells.size = size) (hsz : 0 < size)
    (v : Value) (n0 : Nat) (xs : List Value) (hown : w.ownsRow base e size v n0 xs)
    (A : Option Addr) (m c : Nat) (hAc : A = none → c = 0) (news : List Value) (hl : news.length = m * size) (hnews : CellsA w A news) (h1 : ∀ u ∈ news, u.oneCell' = true)
    (h63 : n0 + m ≤ maxLen) (hbytes : (n0 + m) * bytes ≤ 140737488355328) (hbase : base ≤ w.heap.size) :
    ∃ v' w', (∀ ρ : Operand → Value, ρ s = v → ρ x = .slice A m c → (execOp ρ o).run P w = .ok (.value v') w') ∧ w'.ownsRow base e size v' (n0 + m) (xs ++ news) ∧ w.grownBy w' v.ownBlock := by
  obtain ⟨v', w', hrun, h2, h3⟩ := run_append_cells (P := P) w base t o.type e i z size bytes ht hi hz hsize hby hzs hsz v n0 xs hown A m c hAc news hl hnews h1 h63 hbytes hbase
  refine ⟨v', w', fun ρ hs hx => ?_, h2, h3⟩
  unfold execOp
  simp only [ho, resolve, invoke, builtin, Sem.run_bind, Sem.run_pure, Result.andThen_ok, List.map_toArray, List.map_cons, List.map_nil, hs, hx, hrun]
/-- Two may come up, each giving a value. -/
theorem fr_step2 (F : FrL n L a) {i j m : Nat} {listed : Array Bool} (hi : ops[i]? = some o) (hj : ops[j]? = some o2) (hg : o.guard = none) (hg2 : o2.guard = none) (s s2 : Nat) (hd : o.dst = some s) (hd2 : o2.dst = some s2) (hs : s < n) (hs2 : s2 < n) (v v2 : Value) (w1 w2 : World)
    (he : ∀ a', FrL n L a' → (execOp a'.eval o).run P w = .ok (.value v) w1) (he2 : ∀ a', FrL n L a' → (execOp a'.eval o2).run P w = .ok (.value v2) w2) (hS : S w1) (hS2 : S w2)
    (k : ∀ a', FrL n ((s, v) :: L) a' → AnyT P md ops Q S z m (listed.setIfInBounds i true) a' w1)
    (k2 : ∀ a', FrL n ((s2, v2) :: L) a' → AnyT P md ops Q S z m (listed.setIfInBounds j true) a' w2)
    (hr : Region.ready md ops listed = [i, j] := by kernel_rfl) : AnyT P md ops Q S z (m + 1) listed a w := by
  refine AnyT.step2 hr hi hj (fun K hK => ?_) (fun K hK => ?_)
  · rw [if_pos (free_want hg)]
    unfold Oper.wp
    rw [he a F]
    refine hK.out _ _ (fun _ => hS) (fun _ => ?_)
    rw [hd]
    exact k _ (F.put s v hs)
  · rw [if_pos (free_want hg2)]
    unfold Oper.wp
    rw [he2 a F]
    refine hK.out _ _ (fun _ => hS2) (fun _ => ?_)
    rw [hd2]
    exact k2 _ (F.put s2 v2 hs2)
end
end Go.Proofs.YtmppkgonkkffhaaDoor

/- The walk of law26's Great. Conditions: the log lies where its slice is, its notes' filters in their rows. -/
namespace Go.Proofs.YtmppkgonkkffhaaDoor
open Go.RowKit
theorem greats_no {l : List Nt} (h : ∀ i n, i < l.length → l[i]? = some n → i < 200 ∧ great1 n = false) : greatNs l = false := by
  unfold greatNs
  rw [Bool.or_eq_false_iff]
  refine ⟨List.any_eq_false.2 (fun n hm => ?_), decide_eq_false (fun h2 => ?_)⟩
  · obtain ⟨i, hi, e⟩ := List.getElem_of_mem hm
    rw [(h i n hi (by rw [List.getElem?_eq_getElem hi, e])).2]; decide
  · have := (h 200 _ h2 (List.getElem?_eq_getElem h2)).1
    omega
theorem greats_many {l : List Nt} (h : 200 < l.length) : greatNs l = true := by
  unfold greatNs
  rw [decide_eq_true h, Bool.or_true]
theorem greats_one {l : List Nt} {i : Nat} {n : Nt} (h : l[i]? = some n) (hg : great1 n = true) : greatNs l = true := by
  unfold greatNs
  rw [List.any_eq_true.2 ⟨n, List.mem_of_getElem? h, hg⟩, Bool.true_or]
set_option maxRecDepth 100000 in
set_option maxHeartbeats 4000000 in
theorem law26_Great {w : World} (hE : Env w) (T : List NtE) (a : Option Addr) (c : Nat) (hc : CellsA w a (ntCells T)) (hs : ∀ x ∈ T, CellsA w x.2.1 (subCells x.1.p.subs)) (hlc : T.length ≤ c) (hlen : T.length ≤ 9223372036854775807) : Calls Tryd.prog 9 #[.slice a T.length c] w fun e w' => e = .returned (.bool (greatNs (T.map (·.1)))) ∧ Below w.heap.size w w' := by
  obtain ⟨RR, hRR⟩ : ∃ RR : Ending → World → Prop, RR = fun e w' => e = .returned (.bool (greatNs (T.map (·.1)))) ∧ Below w.heap.size w w' := ⟨_, rfl⟩
  have FIN := Lib.hid (show ∀ b w', b = greatNs (T.map (·.1)) → Below w.heap.size w w' → RR (.returned (.bool b)) w' from fun b w' h1 hb => by rw [hRR, h1]; exact ⟨rfl, hb⟩)
  rw [← hRR]
  obtain ⟨N, o0, hlog⟩ := log_at hc
  have HL := Lib.hid hlog
  have HS := Lib.hid hs
  have HM := Lib.hid (show ∀ (i : Nat) (x : NtE), T[i]? = some x → (T.map (·.1))[i]? = some x.1 from fun i x h => by rw [List.getElem?_map, h]; rfl)
  obtain ⟨w9, hw9⟩ : ∃ w9, w9 = w := ⟨_, rfl⟩
  have HK : Keep w [] [] w9 := by rw [hw9]; exact Keep.begin hE _ (by intro r hr; cases hr)
  suffices hgo : Calls Tryd.prog 9 #[.slice a T.length c] w9 RR by rw [hw9] at hgo; exact hgo
  clear hw9 hRR hE hc hlog hs
  go_enter Tryd.func9, Tryd.ntmps9
  refine wp_forget (n := 20) (L := [(0, .slice a T.length c)]) (FrL.add (FrL.nil ?_ ?_) _ _ ?_) ?_
  iterate 3 rfl
  intro a9 F
  refine wp_seq ?_
  refine wp_region_lit ?_
  refine fr_ch F 1 [(2, .bool false)] (by kernel_rfl) ?_
  clear F a9
  intro a9 F
  refine wpList_nil ?_
  show Code.wp _ _ _ _ _
  refine wp_seq ?_
  refine wp_seq ?_
  refine wp_region_lit ?_
  refine fr_ch F 1 [(3, .int .i64 0)] (by kernel_rfl) ?_
  clear F a9
  intro a9 F
  refine wpList_nil ?_
  show Code.wp _ _ _ _ _
  replace F := F.cut [(3, .int .i64 ((0 : Nat) : Int)), (2, .bool false), (0, .slice a T.length c)] (by kernel_rfl)
  refine wp_block_end (fun a' w' => (∃ kk : Nat, FrL 20 [(3, .int .i64 (kk : Int)), (2, .bool false), (0, .slice a T.length c)] a') ∧ Keep w [] [] w' ∧ (∀ i n, i < T.length → (T.map (·.1))[i]? = some n → i < 200 ∧ great1 n = false)) ?_ ?_
  · skip
    refine wp_loop (fun a' w' => ∃ k : Nat, k ≤ T.length ∧ FrL 20 [(3, .int .i64 (k : Int)), (2, .bool false), (0, .slice a T.length c)] a' ∧ Keep w [] [] w' ∧ (∀ i n, i < k → (T.map (·.1))[i]? = some n → i < 200 ∧ great1 n = false)) (fun a' _ => muI T.length 3 a') ⟨0, Nat.zero_le _, F, HK, fun i n h => absurd h (Nat.not_lt_zero _)⟩ ?_
    clear F a9 HK w9
    rintro a9 w9 ⟨k, hk, F, HK, h0⟩
    rw [muI_at F 3 k rfl]
    have H0 := Lib.hid h0
    clear h0
    refine wp_seq ?_
    refine wp_seq ?_
    by_cases hlt : k < T.length
    · skip
      refine wp_region_lit ?_
      refine fr_mv F (wanted_free rfl) 4 rfl (by decide) 3 rfl rfl ?_
      clear F a9
      intro a9 F
      refine fr_mv F (wanted_free rfl) 5 rfl (by decide) 0 rfl rfl ?_
      clear F a9
      intro a9 F
      refine fr_ch F 1 [(6, .int .i64 (T.length : Int))] (by kernel_rfl) ?_
      clear F a9
      intro a9 F
      refine fr_do F (wanted_free rfl) 7 rfl (by decide) (.bool true) (by intro a' F'; have h4 := F'.at' 4 _ rfl; have h6 := F'.at' 6 _ rfl; go_simp) ?_
      clear F a9
      intro a9 F
      refine wpList_nil ?_
      show Code.wp _ _ _ _ _
      refine wp_cond_true (F.ev 7 rfl) ?_
      refine wp_skip ?_
      show Code.wp _ _ _ _ _
      replace F := F.cut [(3, .int .i64 (k : Int)), (2, .bool false), (0, .slice a T.length c)] (by kernel_rfl)
      obtain ⟨x, hx⟩ : ∃ x, T[k]? = some x := ⟨_, List.getElem?_eq_getElem hlt⟩
      obtain ⟨hal, hn⟩ := HL.out k x hx
      have HX := Lib.hid (HM.out k x hx)
      have HSX := Lib.hid (HS.out x (List.mem_of_getElem? hx))
      obtain ⟨n, an, cn⟩ := x
      simp only at hn
      obtain ⟨q, hq⟩ : ∃ q, o0 + k * 35 = q := ⟨_, rfl⟩
      rw [hq] at hn
      have HN := Lib.hid (fun w9 (h : Below w.heap.size w w9) => hn.low h)
      clear hn hx
      refine wp_seq ?_
      refine wp_block_end (fun a' w' => FrL 20 [(3, .int .i64 (k : Int)), (2, .bool false), (0, .slice a T.length c)] a' ∧ Keep w [] [] w' ∧ k < 200 ∧ great1 n = false) ?_ ?_
      · skip
        by_cases h2 : 200 ≤ k
        · skip
          refine wp_seq ?_
          refine wp_region_lit ?_
          refine fr_ch F 1 [(10, .int .i64 (k : Int))] (by kernel_rfl) ?_
          clear F a9
          intro a9 F
          refine fr_do F (wanted_free rfl) 11 rfl (by decide) (.bool true) (by intro a' F'; have h10 := F'.at' 10 _ rfl; go_simp <;> omega) ?_
          clear F a9
          intro a9 F
          refine fr_ch F 8 [(19, .bool true), (18, undef), (17, undef), (16, undef), (15, undef), (14, undef), (13, undef), (12, .bool true)] (by kernel_rfl) ?_
          clear F a9
          intro a9 F
          refine wpList_nil ?_
          show Code.wp _ _ _ _ _
          refine wp_cond_true (F.ev 19 rfl) ?_
          refine wp_seq ?_
          refine wp_region_lit ?_
          refine fr_ch F 1 [(2, .bool true)] (by kernel_rfl) ?_
          clear F a9
          intro a9 F
          refine wpList_nil ?_
          show Code.wp _ _ _ _ _
          refine wp_ret ?_
          exact fr_ret1 F rfl _ rfl (FIN.out _ _ (greats_many (by rw [List.length_map]; omega)).symm HK.low)
        cases hb : great1 n
        · skip
          obtain ⟨i0, hi, hz0, hz1, hz2⟩ := info_parts infoNtR
          refine wp_seq ?_
          refine wp_region_lit ?_
          refine fr_mv F (wanted_free rfl) 10 rfl (by decide) 3 rfl rfl ?_
          clear F a9
          intro a9 F
          refine fr_do F (wanted_free rfl) 11 rfl (by decide) (.bool false) (by intro a' F'; have h10 := F'.at' 10 _ rfl; go_simp <;> omega) ?_
          clear F a9
          intro a9 F
          refine fr_ch F 1 [(12, .bool false)] (by kernel_rfl) ?_
          clear F a9
          intro a9 F
          refine fr_mv F (by rw [wanted_at F rfl (t := 12) (b := false) (by kernel_rfl) rfl]; rfl) 13 rfl (by decide) 0 rfl rfl ?_
          clear F a9
          intro a9 F
          refine fr_mv F (by rw [wanted_at F rfl (t := 12) (b := false) (by kernel_rfl) rfl]; rfl) 14 rfl (by decide) 3 rfl rfl ?_
          clear F a9
          intro a9 F
          refine fr_mv F (by rw [wanted_at F rfl (t := 12) (b := false) (by kernel_rfl) rfl]; rfl) 15 rfl (by decide) 3 rfl rfl ?_
          clear F a9
          intro a9 F
          refine fr_do F (by rw [wanted_at F rfl (t := 12) (b := false) (by kernel_rfl) rfl]; rfl) 16 rfl (by decide) (.int .i64 ((k + 1 : Nat) : Int)) (by intro a' F'; have h15 := F'.at' 15 _ rfl; go_simp <;> (rw [IntKind.wrap_i64]; omega)) ?_
          clear F a9
          intro a9 F
          refine fr_do F (by rw [wanted_at F rfl (t := 12) (b := false) (by kernel_rfl) rfl]; rfl) 17 rfl (by decide) (.slice (some ⟨N, q, none⟩) 1 (c - k)) (fun a' F' => op_cut Tryd.underlying22 hi hz1 rfl (F'.ev 13 rfl) (F'.ev 14 rfl) (F'.ev 16 rfl) (Nat.le_succ k) (by omega) (by rw [if_neg (show ¬ c = k by omega), hal, Nat.add_sub_cancel_left]; rw [Option.map_some, Addr.add_lit, hq])) ?_
          clear F a9
          intro a9 F
          refine fr_call F (by rw [wanted_at F rfl (t := 12) (b := false) (by kernel_rfl) rfl]; rfl) 18 rfl (by decide) 22 #[.slice (some ⟨N, q, none⟩) 1 (c - k)] (by intro a' F'; have h17 := F'.at' 17 _ rfl; go_simp) (by have h := law17_Great (cp := c - k) HK.env (HN.out _ HK.low) (HSX.out.below HK.low); rw [hb] at h; exact h) ?_
          rintro e9 w8 ⟨rfl, hb8⟩
          replace HK := HK.below hb8
          clear hb8
          clear w9
          rename World => w9
          refine ⟨_, rfl, ?_⟩
          clear F a9
          intro a9 F
          refine fr_ch F 1 [(19, .bool false)] (by kernel_rfl) ?_
          clear F a9
          intro a9 F
          refine wpList_nil ?_
          show Code.wp _ _ _ _ _
          refine wp_cond_false (F.ev 19 rfl) ?_
          refine wp_skip ?_
          exact ⟨((((FrL.nil F.size F.defers).add 0 _ (F.at' 0 _ rfl)).add 2 _ (F.at' 2 _ rfl)).add 3 _ (F.at' 3 _ rfl)), HK, by omega, rfl⟩
        · skip
          obtain ⟨i0, hi, hz0, hz1, hz2⟩ := info_parts infoNtR
          refine wp_seq ?_
          refine wp_region_lit ?_
          refine fr_mv F (wanted_free rfl) 10 rfl (by decide) 3 rfl rfl ?_
          clear F a9
          intro a9 F
          refine fr_do F (wanted_free rfl) 11 rfl (by decide) (.bool false) (by intro a' F'; have h10 := F'.at' 10 _ rfl; go_simp <;> omega) ?_
          clear F a9
          intro a9 F
          refine fr_ch F 1 [(12, .bool false)] (by kernel_rfl) ?_
          clear F a9
          intro a9 F
          refine fr_mv F (by rw [wanted_at F rfl (t := 12) (b := false) (by kernel_rfl) rfl]; rfl) 13 rfl (by decide) 0 rfl rfl ?_
          clear F a9
          intro a9 F
          refine fr_mv F (by rw [wanted_at F rfl (t := 12) (b := false) (by kernel_rfl) rfl]; rfl) 14 rfl (by decide) 3 rfl rfl ?_
          clear F a9
          intro a9 F
          refine fr_mv F (by rw [wanted_at F rfl (t := 12) (b := false) (by kernel_rfl) rfl]; rfl) 15 rfl (by decide) 3 rfl rfl ?_
          clear F a9
          intro a9 F
          refine fr_do F (by rw [wanted_at F rfl (t := 12) (b := false) (by kernel_rfl) rfl]; rfl) 16 rfl (by decide) (.int .i64 ((k + 1 : Nat) : Int)) (by intro a' F'; have h15 := F'.at' 15 _ rfl; go_simp <;> (rw [IntKind.wrap_i64]; omega)) ?_
          clear F a9
          intro a9 F
          refine fr_do F (by rw [wanted_at F rfl (t := 12) (b := false) (by kernel_rfl) rfl]; rfl) 17 rfl (by decide) (.slice (some ⟨N, q, none⟩) 1 (c - k)) (fun a' F' => op_cut Tryd.underlying22 hi hz1 rfl (F'.ev 13 rfl) (F'.ev 14 rfl) (F'.ev 16 rfl) (Nat.le_succ k) (by omega) (by rw [if_neg (show ¬ c = k by omega), hal, Nat.add_sub_cancel_left]; rw [Option.map_some, Addr.add_lit, hq])) ?_
          clear F a9
          intro a9 F
          refine fr_call F (by rw [wanted_at F rfl (t := 12) (b := false) (by kernel_rfl) rfl]; rfl) 18 rfl (by decide) 22 #[.slice (some ⟨N, q, none⟩) 1 (c - k)] (by intro a' F'; have h17 := F'.at' 17 _ rfl; go_simp) (by have h := law17_Great (cp := c - k) HK.env (HN.out _ HK.low) (HSX.out.below HK.low); rw [hb] at h; exact h) ?_
          rintro e9 w8 ⟨rfl, hb8⟩
          replace HK := HK.below hb8
          clear hb8
          clear w9
          rename World => w9
          refine ⟨_, rfl, ?_⟩
          clear F a9
          intro a9 F
          refine fr_ch F 1 [(19, .bool true)] (by kernel_rfl) ?_
          clear F a9
          intro a9 F
          refine wpList_nil ?_
          show Code.wp _ _ _ _ _
          refine wp_cond_true (F.ev 19 rfl) ?_
          refine wp_seq ?_
          refine wp_region_lit ?_
          refine fr_ch F 1 [(2, .bool true)] (by kernel_rfl) ?_
          clear F a9
          intro a9 F
          refine wpList_nil ?_
          show Code.wp _ _ _ _ _
          refine wp_ret ?_
          exact fr_ret1 F rfl _ rfl (FIN.out _ _ (greats_one HX.out hb).symm HK.low)
      · clear F a9 HK
        rintro a9 w8 ⟨F, HK, hk2, hgn⟩
        clear w9
        rename World => w9
        show Code.wp _ _ _ _ _
        refine wp_region_lit ?_
        refine fr_mv F (wanted_free rfl) 8 rfl (by decide) 3 rfl rfl ?_
        clear F a9
        intro a9 F
        refine fr_do F (wanted_free rfl) 9 rfl (by decide) (.int .i64 ((k + 1 : Nat) : Int)) (by intro a' F'; have h8 := F'.at' 8 _ rfl; go_simp <;> (rw [IntKind.wrap_i64]; omega)) ?_
        clear F a9
        intro a9 F
        refine fr_ch F 1 [(3, .int .i64 ((k + 1 : Nat) : Int))] (by kernel_rfl) ?_
        clear F a9
        intro a9 F
        refine wpList_nil ?_
        replace F := F.cut [(3, .int .i64 ((k + 1 : Nat) : Int)), (2, .bool false), (0, .slice a T.length c)] (by kernel_rfl)
        refine ⟨⟨k + 1, by omega, F, HK, fun i m hi hm => ?_⟩, ?_⟩
        · rcases Nat.lt_succ_iff_lt_or_eq.1 hi with h | h
          · exact H0.out i m h hm
          · subst h
            rw [HX.out] at hm
            injection hm with hm
            rw [← hm]; exact ⟨hk2, hgn⟩
        · rw [muI_at F 3 (k + 1) rfl]
          omega
    · have hk2 : k = T.length := by omega
      subst hk2
      refine wp_region_lit ?_
      refine fr_mv F (wanted_free rfl) 4 rfl (by decide) 3 rfl rfl ?_
      clear F a9
      intro a9 F
      refine fr_ch F 2 [(6, .int .i64 (T.length : Int))] (by kernel_rfl) ?_
      clear F a9
      intro a9 F
      refine fr_do F (wanted_free rfl) 7 rfl (by decide) (.bool false) (by intro a' F'; have h4 := F'.at' 4 _ rfl; have h6 := F'.at' 6 _ rfl; go_simp) ?_
      clear F a9
      intro a9 F
      refine wpList_nil ?_
      show Code.wp _ _ _ _ _
      refine wp_cond_false (F.ev 7 rfl) ?_
      refine wp_exit ?_
      exact then_exit (then_exit (exit_in ⟨⟨T.length, ((((FrL.nil F.size F.defers).add 0 _ (F.at' 0 _ rfl)).add 2 _ (F.at' 2 _ rfl)).add 3 _ (F.at' 3 _ rfl))⟩, HK, H0.out⟩))
  · clear F a9 HK
    rintro a9 w8 ⟨⟨kk, F⟩, HK, hg1⟩
    clear w9
    rename World => w9
    show Code.wp _ _ _ _ _
    refine wp_seq ?_
    refine wp_region_lit ?_
    refine fr_ch F 1 [(2, .bool false)] (by kernel_rfl) ?_
    clear F a9
    intro a9 F
    refine wpList_nil ?_
    show Code.wp _ _ _ _ _
    refine wp_ret ?_
    exact fr_ret1 F rfl _ rfl (FIN.out _ _ (greats_no (fun i n hi => hg1 i n (by rw [List.length_map] at hi; exact hi))).symm HK.low)
end Go.Proofs.YtmppkgonkkffhaaDoor

