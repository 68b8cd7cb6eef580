/- The walks of OrderTells and of the reference's find, Row, Ahead. Conditions: the log lies where its slice is, its notes' filters in their rows. -/
import Derived.Test.YtmppkgonkkffhaaDoorJoinV
import Derived.Test.YtmppkgonkkffhaaDoorFrameT
import Derived.Test.YtmppkgonkkffhaaDoorJoinS
namespace Go.Proofs.YtmppkgonkkffhaaDoor
open Go.RowKit
structure CellIn (w : World) (b o : Nat) (v : Value) : Prop where
  mk ::
  cell : w.cell? ⟨b, o, none⟩ = some v
theorem CellIn.below {w w' : World} {b o : Nat} {v : Value} (h : CellIn w b o v) (k : Below w.heap.size w w') : w'.cell? ⟨b, o, none⟩ = some v := (k.cell (p := ⟨b, o, none⟩) (World.block_lt_of_cell? _ _ h.cell)).trans h.cell
set_option maxRecDepth 100000 in
set_option maxHeartbeats 4000000 in
theorem same_Ints {w : World} (hE : Env w) (a b : Option Addr) (ca cb : Nat) (A : List Int) (hA : A.length ≤ 1000000) (ha : CellsA w a (intsI A)) (hb : CellsA w b (intsI A)) : Calls Tryd.prog 13 #[.slice a A.length ca, .slice b A.length cb] w fun e w' => e = .returned (.bool true) ∧ Below w.heap.size w w' := by
  obtain ⟨RR, hRR⟩ : ∃ RR : Ending → World → Prop, RR = fun e w' => e = .returned (.bool true) ∧ Below w.heap.size w w' := ⟨_, rfl⟩
  have FIN := Lib.hid (show ∀ w', Below w.heap.size w w' → RR (.returned (.bool true)) w' from fun w' hb => by rw [hRR]; exact ⟨rfl, hb⟩)
  rw [← hRR]
  have HC := Lib.hid (And.intro ha hb)
  obtain ⟨w9, hw9⟩ : ∃ w9, w9 = w := ⟨_, rfl⟩
  have HK : Keep w [] [] w9 := by rw [hw9]; exact Keep.begin hE _ (by intro r hr; cases hr)
  suffices hgo : Calls Tryd.prog 13 #[.slice a A.length ca, .slice b A.length cb] w9 RR by rw [hw9] at hgo; exact hgo
  clear hw9 hRR hE ha hb
  go_enter Tryd.func13, Tryd.ntmps13
  refine wp_forget (n := 26) (L := [(1, .slice b A.length cb), (0, .slice a A.length ca)]) (FrL.add (FrL.add (FrL.nil ?_ ?_) _ _ ?_) _ _ ?_) ?_
  iterate 4 rfl
  intro a9 F
  refine wp_seq ?_
  refine wp_region_lit ?_
  refine fr_ch F 1 [(4, .bool false)] (by kernel_rfl) ?_
  clear F a9
  intro a9 F
  refine wpList_nil ?_
  show Code.wp _ _ _ _ _
  refine wp_seq ?_
  refine wp_seq ?_
  refine wp_region_lit ?_
  refine fr_ch F 4 [(9, .int .i64 (A.length : Int)), (8, .slice b A.length cb), (7, .int .i64 (A.length : Int)), (6, .slice a A.length ca)] (by kernel_rfl) ?_
  clear F a9
  intro a9 F
  refine fr_do F (wanted_free rfl) 10 rfl (by decide) (.bool false) (by intro a' F'; have h7 := F'.at' 7 _ rfl; have h9 := F'.at' 9 _ rfl; go_simp) ?_
  clear F a9
  intro a9 F
  refine wpList_nil ?_
  show Code.wp _ _ _ _ _
  refine wp_cond_false (F.ev 10 rfl) ?_
  refine wp_skip ?_
  show Code.wp _ _ _ _ _
  replace F := F.cut [(4, .bool false), (1, .slice b A.length cb), (0, .slice a A.length ca)] (by kernel_rfl)
  refine wp_seq ?_
  refine wp_seq ?_
  refine wp_region_lit ?_
  refine fr_ch F 1 [(5, .int .i64 0)] (by kernel_rfl) ?_
  clear F a9
  intro a9 F
  refine wpList_nil ?_
  show Code.wp _ _ _ _ _
  replace F := F.cut [(5, .int .i64 ((0 : Nat) : Int)), (4, .bool false), (1, .slice b A.length cb), (0, .slice a A.length ca)] (by kernel_rfl)
  refine wp_block_end (fun a' w' => (∃ kk : Nat, FrL 26 [(5, .int .i64 (kk : Int)), (4, .bool false), (1, .slice b A.length cb), (0, .slice a A.length ca)] a') ∧ Keep w [] [] w') ?_ ?_
  · skip
    refine wp_loop (fun a' w' => ∃ k : Nat, k ≤ A.length ∧ FrL 26 [(5, .int .i64 (k : Int)), (4, .bool false), (1, .slice b A.length cb), (0, .slice a A.length ca)] a' ∧ Keep w [] [] w') (fun a' _ => muI (A.length) 5 a') ⟨0, Nat.zero_le _, F, HK⟩ ?_
    clear F a9 HK w9
    rintro a9 w9 ⟨k, hk_k, F, HK⟩
    rw [muI_at F 5 k rfl]
    refine wp_seq ?_
    refine wp_seq ?_
    by_cases hlt_k : k < A.length
    · skip
      refine wp_region_lit ?_
      refine fr_mv F (wanted_free rfl) 11 rfl (by decide) 5 rfl rfl ?_
      clear F a9
      intro a9 F
      refine fr_mv F (wanted_free rfl) 12 rfl (by decide) 0 rfl rfl ?_
      clear F a9
      intro a9 F
      refine fr_ch F 1 [(13, .int .i64 (A.length : Int))] (by kernel_rfl) ?_
      clear F a9
      intro a9 F
      refine fr_do F (wanted_free rfl) 14 rfl (by decide) (.bool true) (by intro a' F'; have h11 := F'.at' 11 _ rfl; have h13 := F'.at' 13 _ rfl; go_simp) ?_
      clear F a9
      intro a9 F
      refine wpList_nil ?_
      show Code.wp _ _ _ _ _
      refine wp_cond_true (F.ev 14 rfl) ?_
      refine wp_skip ?_
      show Code.wp _ _ _ _ _
      replace F := F.cut [(5, .int .i64 (k : Int)), (4, .bool false), (1, .slice b A.length cb), (0, .slice a A.length ca)] (by kernel_rfl)
      obtain ⟨x, hx⟩ : ∃ x, A[k]? = some x := ⟨_, List.getElem?_eq_getElem hlt_k⟩
      have hv : (intsI A)[k]? = some (.int .i64 x) := by unfold intsI; rw [List.getElem?_map, hx]; rfl
      obtain ⟨b1, q1, e1, h1⟩ := HC.out.1 k _ hv
      obtain ⟨b2, q2, e2, h2⟩ := HC.out.2 k _ hv
      obtain ⟨o1, ho1⟩ : ∃ o1, q1 + k = o1 := ⟨_, rfl⟩
      obtain ⟨o2, ho2⟩ : ∃ o2, q2 + k = o2 := ⟨_, rfl⟩
      rw [ho1] at h1
      rw [ho2] at h2
      have HX := Lib.hid (And.intro (CellIn.mk h1) (CellIn.mk h2))
      have HE := Lib.hid (And.intro e1 (And.intro e2 (And.intro ho1 ho2)))
      clear hx hv h1 h2 e1 e2 ho1 ho2
      refine wp_seq ?_
      refine wp_block_end (fun a' w' => FrL 26 [(5, .int .i64 (k : Int)), (4, .bool false), (1, .slice b A.length cb), (0, .slice a A.length ca)] a' ∧ Keep w [] [] w') ?_ ?_
      · skip
        refine wp_seq ?_
        refine wp_region_noPanic ?_
        have hb8 : Below w9.heap.size w9 w9.drew := below_draws (n := 1) rfl
        replace HK := HK.below hb8
        clear hb8
        refine AnyT.begin (S := fun w' => w'.cell? ⟨b1, o1, none⟩ = some (.int .i64 x) ∧ w'.cell? ⟨b2, o2, none⟩ = some (.int .i64 x)) (z := 1000) (by kernel_rfl) ⟨HX.out.1.below HK.low, HX.out.2.below HK.low⟩ (fun hS0 => ?_)
        clear hS0
        generalize w9.drew = w8 at *
        clear w9
        rename World => w9
        refine fr_chT F [0, 1] [(18, .int .i64 (k : Int)), (17, .slice a A.length ca)] ⟨HX.out.1.below HK.low, HX.out.2.below HK.low⟩ (by kernel_rfl) ?_
        clear F a9
        intro a9 F
        refine fr_takeG (i := 2) (o := ⟨some 19, _, _, _, _, _⟩) F ⟨HX.out.1.below HK.low, HX.out.2.below HK.low⟩ rfl (wanted_free rfl) 19 rfl (by decide) (.pointer (some ⟨b1, o1, none⟩)) (fun w9 hS => (by intro a' F'; have h17 := F'.at' 17 _ rfl; have h18 := F'.at' 18 _ rfl; have e1 := HE.out.1; have e3 := HE.out.2.2.1; subst e1; go_simp)) ?_
        clear F a9
        intro a9 F
        refine fr_takeG (i := 3) (o := ⟨some 20, _, _, _, _, _⟩) F ⟨HX.out.1.below HK.low, HX.out.2.below HK.low⟩ rfl (wanted_free rfl) 20 rfl (by decide) (.int .i64 x) (fun w9 hS => (by intro a' F'; have h19 := F'.at' 19 _ rfl; have hc := hS.1; go_simp)) ?_
        clear F a9
        intro a9 F
        refine fr_chT F [4, 5] [(22, .int .i64 (k : Int)), (21, .slice b A.length cb)] ⟨HX.out.1.below HK.low, HX.out.2.below HK.low⟩ (by kernel_rfl) ?_
        clear F a9
        intro a9 F
        refine fr_takeG (i := 6) (o := ⟨some 23, _, _, _, _, _⟩) F ⟨HX.out.1.below HK.low, HX.out.2.below HK.low⟩ rfl (wanted_free rfl) 23 rfl (by decide) (.pointer (some ⟨b2, o2, none⟩)) (fun w9 hS => (by intro a' F'; have h21 := F'.at' 21 _ rfl; have h22 := F'.at' 22 _ rfl; have e1 := HE.out.2.1; have e3 := HE.out.2.2.2; subst e1; go_simp)) ?_
        clear F a9
        intro a9 F
        refine fr_takeG (i := 7) (o := ⟨some 24, _, _, _, _, _⟩) F ⟨HX.out.1.below HK.low, HX.out.2.below HK.low⟩ rfl (wanted_free rfl) 24 rfl (by decide) (.int .i64 x) (fun w9 hS => (by intro a' F'; have h23 := F'.at' 23 _ rfl; have hc := hS.2; go_simp)) ?_
        clear F a9
        intro a9 F
        refine fr_takeG (i := 8) (o := ⟨some 25, _, _, _, _, _⟩) F ⟨HX.out.1.below HK.low, HX.out.2.below HK.low⟩ rfl (wanted_free rfl) 25 rfl (by decide) (.bool false) (fun w9 hS => (by intro a' F'; have h20 := F'.at' 20 _ rfl; have h24 := F'.at' 24 _ rfl; go_simp)) ?_
        clear F a9
        intro a9 F
        refine AnyT.done (by kernel_rfl) ?_ _
        refine NoPanic.normal ?_
        show Code.wp _ _ _ _ _
        refine wp_cond_false (F.ev 25 rfl) ?_
        refine wp_skip ?_
        exact ⟨(((((FrL.nil F.size F.defers).add 0 _ (F.at' 0 _ rfl)).add 1 _ (F.at' 1 _ rfl)).add 4 _ (F.at' 4 _ rfl)).add 5 _ (F.at' 5 _ rfl)), HK⟩
      · clear F a9 HK
        rintro a9 w8 ⟨F, HK⟩
        clear w9
        rename World => w9
        show Code.wp _ _ _ _ _
        refine wp_region_lit ?_
        refine fr_mv F (wanted_free rfl) 15 rfl (by decide) 5 rfl rfl ?_
        clear F a9
        intro a9 F
        refine fr_do F (wanted_free rfl) 16 rfl (by decide) (.int .i64 ((k + 1 : Nat) : Int)) (by intro a' F'; have h15 := F'.at' 15 _ rfl; go_simp <;> (rw [IntKind.wrap_i64]; omega)) ?_
        clear F a9
        intro a9 F
        refine fr_ch F 1 [(5, .int .i64 ((k + 1 : Nat) : Int))] (by kernel_rfl) ?_
        clear F a9
        intro a9 F
        refine wpList_nil ?_
        replace F := F.cut [(5, .int .i64 ((k + 1 : Nat) : Int)), (4, .bool false), (1, .slice b A.length cb), (0, .slice a A.length ca)] (by kernel_rfl)
        refine ⟨⟨k + 1, by omega, F, HK⟩, ?_⟩
        rw [muI_at F 5 (k + 1) rfl]
        omega
    · have hk2_k : k = A.length := by omega
      subst hk2_k
      refine wp_region_lit ?_
      refine fr_mv F (wanted_free rfl) 11 rfl (by decide) 5 rfl rfl ?_
      clear F a9
      intro a9 F
      refine fr_ch F 2 [(13, .int .i64 (A.length : Int))] (by kernel_rfl) ?_
      clear F a9
      intro a9 F
      refine fr_do F (wanted_free rfl) 14 rfl (by decide) (.bool false) (by intro a' F'; have h11 := F'.at' 11 _ rfl; have h13 := F'.at' 13 _ rfl; go_simp) ?_
      clear F a9
      intro a9 F
      refine wpList_nil ?_
      show Code.wp _ _ _ _ _
      refine wp_cond_false (F.ev 14 rfl) ?_
      refine wp_exit ?_
      exact then_exit (then_exit (exit_in ⟨⟨A.length, (((((FrL.nil F.size F.defers).add 0 _ (F.at' 0 _ rfl)).add 1 _ (F.at' 1 _ rfl)).add 4 _ (F.at' 4 _ rfl)).add 5 _ (F.at' 5 _ rfl))⟩, HK⟩))
  · clear F a9 HK
    rintro a9 w8 ⟨⟨kk, F⟩, HK⟩
    clear w9
    rename World => w9
    show Code.wp _ _ _ _ _
    refine wp_seq ?_
    refine wp_region_lit ?_
    refine fr_ch F 1 [(4, .bool true)] (by kernel_rfl) ?_
    clear F a9
    intro a9 F
    refine wpList_nil ?_
    show Code.wp _ _ _ _ _
    refine wp_ret ?_
    exact fr_ret1 F rfl _ rfl (FIN.out _ HK.low)
set_option maxRecDepth 100000 in
set_option maxHeartbeats 4000000 in
theorem ref26_find {w : World} (hE : Env w) (kd : Nat) (op : Int) (T : List NtE) (a : Option Addr) (c : Nat) (hc : CellsA w a (ntCells T)) (hlen : T.length ≤ 1000000) : Calls Tryd.prog 39 #[.slice a T.length c, .int .u8 (kd : Int), .int .i64 op] w fun e w' => e = .returned (.int .i64 (idxN kd op (T.map (·.1)))) ∧ Below w.heap.size w w' := by
  obtain ⟨RR, hRR⟩ : ∃ RR : Ending → World → Prop, RR = fun e w' => e = .returned (.int .i64 (idxN kd op (T.map (·.1)))) ∧ Below w.heap.size w w' := ⟨_, rfl⟩
  have FIN := Lib.hid (show ∀ i w', i = idxN kd op (T.map (·.1)) → Below w.heap.size w w' → RR (.returned (.int .i64 i)) w' from fun i w' h1 hb => by rw [hRR, h1]; exact ⟨rfl, hb⟩)
  rw [← hRR]
  obtain ⟨N, o0, hlog⟩ := log_at hc
  have HL := Lib.hid hlog
  have HC := Lib.hid hc
  obtain ⟨w9, hw9⟩ : ∃ w9, w9 = w := ⟨_, rfl⟩
  have HK : Keep w [] [] w9 := by rw [hw9]; exact Keep.begin hE _ (by intro r hr; cases hr)
  suffices hgo : Calls Tryd.prog 39 #[.slice a T.length c, .int .u8 (kd : Int), .int .i64 op] w9 RR by rw [hw9] at hgo; exact hgo
  clear hw9 hRR hE hc hlog
  go_enter Tryd.func39, Tryd.ntmps39
  refine wp_forget (n := 31) (L := [(2, .int .i64 op), (1, .int .u8 (kd : Int)), (0, .slice a T.length c)]) (FrL.add (FrL.add (FrL.add (FrL.nil ?_ ?_) _ _ ?_) _ _ ?_) _ _ ?_) ?_
  iterate 5 rfl
  intro a9 F
  refine wp_seq ?_
  refine wp_region_lit ?_
  refine fr_ch F 1 [(6, .int .i64 0)] (by kernel_rfl) ?_
  clear F a9
  intro a9 F
  refine wpList_nil ?_
  show Code.wp _ _ _ _ _
  refine wp_seq ?_
  refine wp_seq ?_
  refine wp_region_lit ?_
  refine fr_ch F 1 [(7, .int .i64 0)] (by kernel_rfl) ?_
  clear F a9
  intro a9 F
  refine wpList_nil ?_
  show Code.wp _ _ _ _ _
  replace F := F.cut [(7, .int .i64 ((0 : Nat) : Int)), (6, .int .i64 0), (2, .int .i64 op), (1, .int .u8 (kd : Int)), (0, .slice a T.length c)] (by kernel_rfl)
  refine wp_block_end (fun a' w' => (∃ kk : Nat, FrL 31 [(7, .int .i64 (kk : Int)), (6, .int .i64 0), (2, .int .i64 op), (1, .int .u8 (kd : Int)), (0, .slice a T.length c)] a') ∧ Keep w [] [] w' ∧ (∀ (j : Nat) (x : Nt), j < T.length → (T.map (·.1))[j]? = some x → isN kd op x = false)) ?_ ?_
  · skip
    refine wp_loop (fun a' w' => ∃ k : Nat, k ≤ T.length ∧ FrL 31 [(7, .int .i64 (k : Int)), (6, .int .i64 0), (2, .int .i64 op), (1, .int .u8 (kd : Int)), (0, .slice a T.length c)] a' ∧ Keep w [] [] w' ∧ (∀ (j : Nat) (x : Nt), j < k → (T.map (·.1))[j]? = some x → isN kd op x = false)) (fun a' _ => muI (T.length) 7 a') ⟨0, Nat.zero_le _, F, HK, fun j x h => absurd h (Nat.not_lt_zero _)⟩ ?_
    clear F a9 HK w9
    rintro a9 w9 ⟨k, hk_k, F, HK, h0⟩
    rw [muI_at F 7 k rfl]
    have H0 := Lib.hid h0
    clear h0
    refine wp_seq ?_
    refine wp_seq ?_
    by_cases hlt_k : k < T.length
    · skip
      refine wp_region_lit ?_
      refine fr_mv F (wanted_free rfl) 8 rfl (by decide) 7 rfl rfl ?_
      clear F a9
      intro a9 F
      refine fr_mv F (wanted_free rfl) 9 rfl (by decide) 0 rfl rfl ?_
      clear F a9
      intro a9 F
      refine fr_ch F 1 [(10, .int .i64 (T.length : Int))] (by kernel_rfl) ?_
      clear F a9
      intro a9 F
      refine fr_do F (wanted_free rfl) 11 rfl (by decide) (.bool true) (by intro a' F'; have h8 := F'.at' 8 _ rfl; have h10 := F'.at' 10 _ rfl; go_simp) ?_
      clear F a9
      intro a9 F
      refine wpList_nil ?_
      show Code.wp _ _ _ _ _
      refine wp_cond_true (F.ev 11 rfl) ?_
      refine wp_skip ?_
      show Code.wp _ _ _ _ _
      replace F := F.cut [(7, .int .i64 (k : Int)), (6, .int .i64 0), (2, .int .i64 op), (1, .int .u8 (kd : Int)), (0, .slice a T.length c)] (by kernel_rfl)
      obtain ⟨x_k, hx⟩ : ∃ x, T[k]? = some x := ⟨_, List.getElem?_eq_getElem hlt_k⟩
      obtain ⟨hal, hn_q⟩ := HL.out k x_k hx
      obtain ⟨n, an, cn⟩ := x_k
      simp only at hn_q
      obtain ⟨q, hq_q⟩ : ∃ q, o0 + k * 35 = q := ⟨_, rfl⟩
      rw [hq_q] at hn_q
      have HQ_q := Lib.hid hq_q
      have HX_n := Lib.hid (show (T.map (·.1))[k]? = some n from by rw [List.getElem?_map, hx]; rfl)
      have HN := Lib.hid (fun w9 (h : Below w.heap.size w w9) => hn_q.low h)
      clear hn_q hq_q
      refine wp_seq ?_
      refine wp_block_end (fun a' w' => FrL 31 [(7, .int .i64 (k : Int)), (6, .int .i64 0), (2, .int .i64 op), (1, .int .u8 (kd : Int)), (0, .slice a T.length c)] a' ∧ Keep w [] [] w' ∧ isN kd op n = false) ?_ ?_
      · skip
        by_cases ha : n.kind = kd
        rotate_left
        · skip
          refine wp_seq ?_
          refine wp_region_lit ?_
          refine fr_ch F 2 [(15, .int .i64 (k : Int)), (14, .slice a T.length c)] (by kernel_rfl) ?_
          clear F a9
          intro a9 F
          refine fr_do F (wanted_free rfl) 16 rfl (by decide) (.pointer (some ⟨N, q, none⟩)) (by intro a' F'; have h14 := F'.at' 14 _ rfl; have h15 := F'.at' 15 _ rfl; subst hal; have hq := HQ_q.out; go_simp) ?_
          clear F a9
          intro a9 F
          refine fr_ch F 1 [(17, .pointer (some ⟨N, q, none⟩))] (by kernel_rfl) ?_
          clear F a9
          intro a9 F
          refine fr_do F (wanted_free rfl) 18 rfl (by decide) (.int .u8 (n.kind : Int)) (by intro a' F'; have h17 := F'.at' 17 _ rfl; have hc : w9.cell? ⟨N, q, none⟩ = some (.int .u8 (n.kind : Int)) := (HN.out _ HK.low).cell 0 _ rfl; go_simp) ?_
          clear F a9
          intro a9 F
          refine fr_mv F (wanted_free rfl) 19 rfl (by decide) 1 rfl rfl ?_
          clear F a9
          intro a9 F
          refine fr_do F (wanted_free rfl) 20 rfl (by decide) (.bool false) (by intro a' F'; have h18 := F'.at' 18 _ rfl; have h19 := F'.at' 19 _ rfl; go_simp <;> omega) ?_
          clear F a9
          intro a9 F
          refine fr_ch F 9 [(29, .bool false), (28, undef), (27, undef), (26, undef), (25, undef), (24, undef), (23, undef), (22, undef), (21, .bool false)] (by kernel_rfl) ?_
          clear F a9
          intro a9 F
          refine wpList_nil ?_
          show Code.wp _ _ _ _ _
          refine wp_cond_false (F.ev 29 rfl) ?_
          refine wp_skip ?_
          exact ⟨((((((FrL.nil F.size F.defers).add 0 _ (F.at' 0 _ rfl)).add 1 _ (F.at' 1 _ rfl)).add 2 _ (F.at' 2 _ rfl)).add 6 _ (F.at' 6 _ rfl)).add 7 _ (F.at' 7 _ rfl)), HK, (by unfold isN; simp only [decide_eq_false ha, Bool.true_and, Bool.and_true, Bool.false_and, Bool.and_false])⟩
        by_cases hb : n.op = op
        rotate_left
        · skip
          refine wp_seq ?_
          refine wp_region_lit ?_
          refine fr_mv F (wanted_free rfl) 14 rfl (by decide) 0 rfl rfl ?_
          clear F a9
          intro a9 F
          refine fr_mv F (wanted_free rfl) 15 rfl (by decide) 7 rfl rfl ?_
          clear F a9
          intro a9 F
          refine fr_do F (wanted_free rfl) 16 rfl (by decide) (.pointer (some ⟨N, q, none⟩)) (by intro a' F'; have h14 := F'.at' 14 _ rfl; have h15 := F'.at' 15 _ rfl; subst hal; have hq := HQ_q.out; go_simp) ?_
          clear F a9
          intro a9 F
          refine fr_ch F 1 [(17, .pointer (some ⟨N, q, none⟩))] (by kernel_rfl) ?_
          clear F a9
          intro a9 F
          refine fr_do F (wanted_free rfl) 18 rfl (by decide) (.int .u8 (n.kind : Int)) (by intro a' F'; have h17 := F'.at' 17 _ rfl; have hc : w9.cell? ⟨N, q, none⟩ = some (.int .u8 (n.kind : Int)) := (HN.out _ HK.low).cell 0 _ rfl; go_simp) ?_
          clear F a9
          intro a9 F
          refine fr_mv F (wanted_free rfl) 19 rfl (by decide) 1 rfl rfl ?_
          clear F a9
          intro a9 F
          refine fr_do F (wanted_free rfl) 20 rfl (by decide) (.bool true) (by intro a' F'; have h18 := F'.at' 18 _ rfl; have h19 := F'.at' 19 _ rfl; go_simp) ?_
          clear F a9
          intro a9 F
          refine fr_ch F 1 [(21, .bool true)] (by kernel_rfl) ?_
          clear F a9
          intro a9 F
          refine fr_mv F (by rw [wanted_at F rfl (t := 21) (b := true) (by kernel_rfl) rfl]; rfl) 22 rfl (by decide) 0 rfl rfl ?_
          clear F a9
          intro a9 F
          refine fr_mv F (by rw [wanted_at F rfl (t := 21) (b := true) (by kernel_rfl) rfl]; rfl) 23 rfl (by decide) 7 rfl rfl ?_
          clear F a9
          intro a9 F
          refine fr_do F (by rw [wanted_at F rfl (t := 21) (b := true) (by kernel_rfl) rfl]; rfl) 24 rfl (by decide) (.pointer (some ⟨N, q, none⟩)) (by intro a' F'; have h22 := F'.at' 22 _ rfl; have h23 := F'.at' 23 _ rfl; subst hal; have hq := HQ_q.out; go_simp) ?_
          clear F a9
          intro a9 F
          refine fr_ch F 1 [(25, .pointer (some ⟨N, q + 1, none⟩))] (by kernel_rfl) ?_
          clear F a9
          intro a9 F
          refine fr_do F (by rw [wanted_at F rfl (t := 21) (b := true) (by kernel_rfl) rfl]; rfl) 26 rfl (by decide) (.int .i64 n.op) (by intro a' F'; have h25 := F'.at' 25 _ rfl; have hc : w9.cell? ⟨N, q + 1, none⟩ = some (.int .i64 n.op) := (HN.out _ HK.low).cell 1 _ rfl; go_simp) ?_
          clear F a9
          intro a9 F
          refine fr_mv F (by rw [wanted_at F rfl (t := 21) (b := true) (by kernel_rfl) rfl]; rfl) 27 rfl (by decide) 2 rfl rfl ?_
          clear F a9
          intro a9 F
          refine fr_do F (by rw [wanted_at F rfl (t := 21) (b := true) (by kernel_rfl) rfl]; rfl) 28 rfl (by decide) (.bool false) (by intro a' F'; have h26 := F'.at' 26 _ rfl; have h27 := F'.at' 27 _ rfl; go_simp) ?_
          clear F a9
          intro a9 F
          refine fr_ch F 1 [(29, .bool false)] (by kernel_rfl) ?_
          clear F a9
          intro a9 F
          refine wpList_nil ?_
          show Code.wp _ _ _ _ _
          refine wp_cond_false (F.ev 29 rfl) ?_
          refine wp_skip ?_
          exact ⟨((((((FrL.nil F.size F.defers).add 0 _ (F.at' 0 _ rfl)).add 1 _ (F.at' 1 _ rfl)).add 2 _ (F.at' 2 _ rfl)).add 6 _ (F.at' 6 _ rfl)).add 7 _ (F.at' 7 _ rfl)), HK, (by unfold isN; simp only [decide_eq_true ha, decide_eq_false hb, Bool.true_and, Bool.and_true, Bool.false_and, Bool.and_false])⟩
        refine wp_seq ?_
        refine wp_region_lit ?_
        refine fr_mv F (wanted_free rfl) 14 rfl (by decide) 0 rfl rfl ?_
        clear F a9
        intro a9 F
        refine fr_mv F (wanted_free rfl) 15 rfl (by decide) 7 rfl rfl ?_
        clear F a9
        intro a9 F
        refine fr_do F (wanted_free rfl) 16 rfl (by decide) (.pointer (some ⟨N, q, none⟩)) (by intro a' F'; have h14 := F'.at' 14 _ rfl; have h15 := F'.at' 15 _ rfl; subst hal; have hq := HQ_q.out; go_simp) ?_
        clear F a9
        intro a9 F
        refine fr_ch F 1 [(17, .pointer (some ⟨N, q, none⟩))] (by kernel_rfl) ?_
        clear F a9
        intro a9 F
        refine fr_do F (wanted_free rfl) 18 rfl (by decide) (.int .u8 (n.kind : Int)) (by intro a' F'; have h17 := F'.at' 17 _ rfl; have hc : w9.cell? ⟨N, q, none⟩ = some (.int .u8 (n.kind : Int)) := (HN.out _ HK.low).cell 0 _ rfl; go_simp) ?_
        clear F a9
        intro a9 F
        refine fr_mv F (wanted_free rfl) 19 rfl (by decide) 1 rfl rfl ?_
        clear F a9
        intro a9 F
        refine fr_do F (wanted_free rfl) 20 rfl (by decide) (.bool true) (by intro a' F'; have h18 := F'.at' 18 _ rfl; have h19 := F'.at' 19 _ rfl; go_simp) ?_
        clear F a9
        intro a9 F
        refine fr_ch F 1 [(21, .bool true)] (by kernel_rfl) ?_
        clear F a9
        intro a9 F
        refine fr_mv F (by rw [wanted_at F rfl (t := 21) (b := true) (by kernel_rfl) rfl]; rfl) 22 rfl (by decide) 0 rfl rfl ?_
        clear F a9
        intro a9 F
        refine fr_mv F (by rw [wanted_at F rfl (t := 21) (b := true) (by kernel_rfl) rfl]; rfl) 23 rfl (by decide) 7 rfl rfl ?_
        clear F a9
        intro a9 F
        refine fr_do F (by rw [wanted_at F rfl (t := 21) (b := true) (by kernel_rfl) rfl]; rfl) 24 rfl (by decide) (.pointer (some ⟨N, q, none⟩)) (by intro a' F'; have h22 := F'.at' 22 _ rfl; have h23 := F'.at' 23 _ rfl; subst hal; have hq := HQ_q.out; go_simp) ?_
        clear F a9
        intro a9 F
        refine fr_ch F 1 [(25, .pointer (some ⟨N, q + 1, none⟩))] (by kernel_rfl) ?_
        clear F a9
        intro a9 F
        refine fr_do F (by rw [wanted_at F rfl (t := 21) (b := true) (by kernel_rfl) rfl]; rfl) 26 rfl (by decide) (.int .i64 n.op) (by intro a' F'; have h25 := F'.at' 25 _ rfl; have hc : w9.cell? ⟨N, q + 1, none⟩ = some (.int .i64 n.op) := (HN.out _ HK.low).cell 1 _ rfl; go_simp) ?_
        clear F a9
        intro a9 F
        refine fr_mv F (by rw [wanted_at F rfl (t := 21) (b := true) (by kernel_rfl) rfl]; rfl) 27 rfl (by decide) 2 rfl rfl ?_
        clear F a9
        intro a9 F
        refine fr_do F (by rw [wanted_at F rfl (t := 21) (b := true) (by kernel_rfl) rfl]; rfl) 28 rfl (by decide) (.bool true) (by intro a' F'; have h26 := F'.at' 26 _ rfl; have h27 := F'.at' 27 _ rfl; go_simp) ?_
        clear F a9
        intro a9 F
        refine fr_ch F 1 [(29, .bool true)] (by kernel_rfl) ?_
        clear F a9
        intro a9 F
        refine wpList_nil ?_
        show Code.wp _ _ _ _ _
        refine wp_cond_true (F.ev 29 rfl) ?_
        refine wp_seq ?_
        refine wp_region_lit ?_
        refine fr_mv F (wanted_free rfl) 30 rfl (by decide) 7 rfl rfl ?_
        clear F a9
        intro a9 F
        refine fr_as F (wanted_free rfl) 6 rfl (by decide) 30 rfl rfl ?_
        clear F a9
        intro a9 F
        refine wpList_nil ?_
        show Code.wp _ _ _ _ _
        refine wp_ret ?_
        exact fr_ret1 F rfl _ rfl (FIN.out _ _ (idx_some H0.out HX_n.out (by unfold isN; simp only [decide_eq_true ha, decide_eq_true hb, Bool.true_and, Bool.and_true, Bool.false_and, Bool.and_false])).symm HK.low)
      · clear F a9 HK
        rintro a9 w8 ⟨F, HK, hbn⟩
        clear w9
        rename World => w9
        show Code.wp _ _ _ _ _
        refine wp_region_lit ?_
        refine fr_mv F (wanted_free rfl) 12 rfl (by decide) 7 rfl rfl ?_
        clear F a9
        intro a9 F
        refine fr_do F (wanted_free rfl) 13 rfl (by decide) (.int .i64 ((k + 1 : Nat) : Int)) (by intro a' F'; have h12 := F'.at' 12 _ rfl; go_simp <;> (rw [IntKind.wrap_i64]; omega)) ?_
        clear F a9
        intro a9 F
        refine fr_ch F 1 [(7, .int .i64 ((k + 1 : Nat) : Int))] (by kernel_rfl) ?_
        clear F a9
        intro a9 F
        refine wpList_nil ?_
        replace F := F.cut [(7, .int .i64 ((k + 1 : Nat) : Int)), (6, .int .i64 0), (2, .int .i64 op), (1, .int .u8 (kd : Int)), (0, .slice a T.length c)] (by kernel_rfl)
        refine ⟨⟨k + 1, by omega, F, HK, fun j x hj hjx => by
            rcases Nat.lt_succ_iff_lt_or_eq.1 hj with h | h
            · exact H0.out j x h hjx
            · subst h
              rw [HX_n.out] at hjx
              injection hjx with hjx
              rw [← hjx]; exact hbn⟩, ?_⟩
        rw [muI_at F 7 (k + 1) rfl]
        omega
    · have hk2_k : k = T.length := by omega
      subst hk2_k
      refine wp_region_lit ?_
      refine fr_mv F (wanted_free rfl) 8 rfl (by decide) 7 rfl rfl ?_
      clear F a9
      intro a9 F
      refine fr_ch F 2 [(10, .int .i64 (T.length : Int))] (by kernel_rfl) ?_
      clear F a9
      intro a9 F
      refine fr_do F (wanted_free rfl) 11 rfl (by decide) (.bool false) (by intro a' F'; have h8 := F'.at' 8 _ rfl; have h10 := F'.at' 10 _ rfl; go_simp) ?_
      clear F a9
      intro a9 F
      refine wpList_nil ?_
      show Code.wp _ _ _ _ _
      refine wp_cond_false (F.ev 11 rfl) ?_
      refine wp_exit ?_
      exact then_exit (then_exit (exit_in ⟨⟨T.length, ((((((FrL.nil F.size F.defers).add 0 _ (F.at' 0 _ rfl)).add 1 _ (F.at' 1 _ rfl)).add 2 _ (F.at' 2 _ rfl)).add 6 _ (F.at' 6 _ rfl)).add 7 _ (F.at' 7 _ rfl))⟩, HK, H0.out⟩))
  · clear F a9 HK
    rintro a9 w8 ⟨⟨kk, F⟩, HK, h0⟩
    clear w9
    rename World => w9
    show Code.wp _ _ _ _ _
    refine wp_seq ?_
    refine wp_region_lit ?_
    refine fr_ch F 1 [(6, .int .i64 (-1))] (by kernel_rfl) ?_
    clear F a9
    intro a9 F
    refine wpList_nil ?_
    show Code.wp _ _ _ _ _
    refine wp_ret ?_
    exact fr_ret1 F rfl _ rfl (FIN.out _ _ (idx_none (fun j x hj => h0 j x (by rw [List.length_map] at hj; exact hj))).symm HK.low)
set_option maxRecDepth 100000 in
set_option maxHeartbeats 4000000 in
theorem ref26_Row {w : World} (hE : Env w) (T : List NtE) (a : Option Addr) (c : Nat) (hc : CellsA w a (ntCells T)) (hlen : T.length ≤ 1000000) : Calls Tryd.prog 15 #[.slice a T.length c] w fun e w' => ∃ v, e = .returned v ∧ w'.ownsRow w.heap.size 3 1 v (opsL (T.map (·.1))).length (intsI (opsL (T.map (·.1)))) ∧ Below w.heap.size w w' := by
  obtain ⟨RR, hRR⟩ : ∃ RR : Ending → World → Prop, RR = fun e w' => ∃ v, e = .returned v ∧ w'.ownsRow w.heap.size 3 1 v (opsL (T.map (·.1))).length (intsI (opsL (T.map (·.1)))) ∧ Below w.heap.size w w' := ⟨_, rfl⟩
  have FIN := Lib.hid (show ∀ v w', w'.ownsRow w.heap.size 3 1 v (opsL (T.map (·.1))).length (intsI (opsL (T.map (·.1)))) → Below w.heap.size w w' → RR (.returned v) w' from fun v w' h1 h2 => by rw [hRR]; exact ⟨v, rfl, h1, h2⟩)
  rw [← hRR]
  obtain ⟨N, o0, hlog⟩ := log_at hc
  have HL := Lib.hid hlog
  have HC := Lib.hid hc
  obtain ⟨w9, hw9⟩ : ∃ w9, w9 = w := ⟨_, rfl⟩
  have HK : Keep w [] [] w9 := by rw [hw9]; exact Keep.begin hE _ (by intro r hr; cases hr)
  suffices hgo : Calls Tryd.prog 15 #[.slice a T.length c] w9 RR by rw [hw9] at hgo; exact hgo
  clear hw9 hRR hE hc hlog
  go_enter Tryd.func15, Tryd.ntmps15
  refine wp_forget (n := 26) (L := [(0, .slice a T.length c)]) (FrL.add (FrL.nil ?_ ?_) _ _ ?_) ?_
  iterate 3 rfl
  intro a9 F
  refine wp_seq ?_
  refine wp_region_lit ?_
  refine fr_ch F 1 [(2, .slice none 0 0)] (by kernel_rfl) ?_
  clear F a9
  intro a9 F
  refine wpList_nil ?_
  show Code.wp _ _ _ _ _
  refine wp_seq ?_
  refine wp_region_lit ?_
  refine fr_ch F 1 [(3, .slice none 0 0)] (by kernel_rfl) ?_
  clear F a9
  intro a9 F
  refine wpList_nil ?_
  show Code.wp _ _ _ _ _
  refine wp_seq ?_
  refine wp_seq ?_
  refine wp_region_lit ?_
  refine fr_ch F 1 [(4, .int .i64 0)] (by kernel_rfl) ?_
  clear F a9
  intro a9 F
  refine wpList_nil ?_
  show Code.wp _ _ _ _ _
  replace F := F.cut [(4, .int .i64 ((0 : Nat) : Int)), (3, .slice none 0 0), (0, .slice a T.length c)] (by kernel_rfl)
  refine wp_block_end (fun a' w' => ∃ v, (∃ kk : Nat, FrL 26 [(4, .int .i64 (kk : Int)), (3, v), (0, .slice a T.length c)] a') ∧ w'.ownsRow w.heap.size 3 1 v (opsL ((T.map (·.1)).take (T.length))).length (intsI (opsL ((T.map (·.1)).take (T.length)))) ∧ Keep w [] [] w') ?_ ?_
  · skip
    refine wp_loop (fun a' w' => ∃ k : Nat, k ≤ T.length ∧ ∃ v, FrL 26 [(4, .int .i64 (k : Int)), (3, v), (0, .slice a T.length c)] a' ∧ w'.ownsRow w.heap.size 3 1 v (opsL ((T.map (·.1)).take (k))).length (intsI (opsL ((T.map (·.1)).take (k)))) ∧ Keep w [] [] w') (fun a' _ => muI (T.length) 4 a') ⟨0, Nat.zero_le _, .slice none 0 0, F, World.ownsRow_nil _ _ _ _, HK⟩ ?_
    clear F a9 HK w9
    rintro a9 w9 ⟨k, hk_k, v, F, HO, HK⟩
    rw [muI_at F 4 k rfl]
    refine wp_seq ?_
    refine wp_seq ?_
    by_cases hlt_k : k < T.length
    · skip
      refine wp_region_lit ?_
      refine fr_mv F (wanted_free rfl) 5 rfl (by decide) 4 rfl rfl ?_
      clear F a9
      intro a9 F
      refine fr_mv F (wanted_free rfl) 6 rfl (by decide) 0 rfl rfl ?_
      clear F a9
      intro a9 F
      refine fr_ch F 1 [(7, .int .i64 (T.length : Int))] (by kernel_rfl) ?_
      clear F a9
      intro a9 F
      refine fr_do F (wanted_free rfl) 8 rfl (by decide) (.bool true) (by intro a' F'; have h5 := F'.at' 5 _ rfl; have h7 := F'.at' 7 _ rfl; go_simp) ?_
      clear F a9
      intro a9 F
      refine wpList_nil ?_
      show Code.wp _ _ _ _ _
      refine wp_cond_true (F.ev 8 rfl) ?_
      refine wp_skip ?_
      show Code.wp _ _ _ _ _
      replace F := F.cut [(4, .int .i64 (k : Int)), (3, v), (0, .slice a T.length c)] (by kernel_rfl)
      obtain ⟨x_k, hx⟩ : ∃ x, T[k]? = some x := ⟨_, List.getElem?_eq_getElem hlt_k⟩
      obtain ⟨hal, hn_q⟩ := HL.out k x_k hx
      obtain ⟨n, an, cn⟩ := x_k
      simp only at hn_q
      obtain ⟨q, hq_q⟩ : ∃ q, o0 + k * 35 = q := ⟨_, rfl⟩
      rw [hq_q] at hn_q
      have HQ_q := Lib.hid hq_q
      have HX_n := Lib.hid (show (T.map (·.1))[k]? = some n from by rw [List.getElem?_map, hx]; rfl)
      have HN := Lib.hid (fun w9 (h : Below w.heap.size w w9) => hn_q.low h)
      clear hn_q hq_q
      have htk : (T.map (·.1)).take (k + 1) = (T.map (·.1)).take k ++ [n] := by
        rw [List.take_add_one, HX_n.out]; rfl
      have hsn := opsL_snoc ((T.map (·.1)).take k) n
      rw [← htk] at hsn
      have hln := opsL_len ((T.map (·.1)).take k)
      have hln2 : ((T.map (·.1)).take k).length ≤ T.length := by rw [List.length_take, List.length_map]; exact Nat.min_le_right _ _
      refine wp_seq ?_
      refine wp_block_end (fun a' w' => ∃ v, FrL 26 [(4, .int .i64 (k : Int)), (3, v), (0, .slice a T.length c)] a' ∧ w'.ownsRow w.heap.size 3 1 v (opsL ((T.map (·.1)).take (k + 1))).length (intsI (opsL ((T.map (·.1)).take (k + 1)))) ∧ Keep w [] [] w') ?_ ?_
      · skip
        by_cases hkd : n.kind = 2
        · skip
          refine wp_seq ?_
          refine wp_region_lit ?_
          refine fr_ch F 2 [(12, .int .i64 (k : Int)), (11, .slice a T.length c)] (by kernel_rfl) ?_
          clear F a9
          intro a9 F
          refine fr_do F (wanted_free rfl) 13 rfl (by decide) (.pointer (some ⟨N, q, none⟩)) (by intro a' F'; have h11 := F'.at' 11 _ rfl; have h12 := F'.at' 12 _ rfl; subst hal; have hq := HQ_q.out; go_simp) ?_
          clear F a9
          intro a9 F
          refine fr_ch F 1 [(14, .pointer (some ⟨N, q, none⟩))] (by kernel_rfl) ?_
          clear F a9
          intro a9 F
          refine fr_do F (wanted_free rfl) 15 rfl (by decide) (.int .u8 (n.kind : Int)) (by intro a' F'; have h14 := F'.at' 14 _ rfl; have hc : w9.cell? ⟨N, q, none⟩ = some (.int .u8 (n.kind : Int)) := (HN.out _ HK.low).cell 0 _ rfl; go_simp) ?_
          clear F a9
          intro a9 F
          refine fr_do F (wanted_free rfl) 16 rfl (by decide) (.bool true) (by intro a' F'; have h15 := F'.at' 15 _ rfl; go_simp) ?_
          clear F a9
          intro a9 F
          refine wpList_nil ?_
          show Code.wp _ _ _ _ _
          refine wp_cond_true (F.ev 16 rfl) ?_
          replace F := F.cut [(4, .int .i64 (k : Int)), (3, v), (0, .slice a T.length c)] (by kernel_rfl)
          refine wp_region_lit ?_
          refine fr_ch F 3 [(19, .int .i64 (k : Int)), (18, .slice a T.length c), (17, v)] (by kernel_rfl) ?_
          clear F a9
          intro a9 F
          refine fr_do F (wanted_free rfl) 20 rfl (by decide) (.pointer (some ⟨N, q, none⟩)) (by intro a' F'; have h18 := F'.at' 18 _ rfl; have h19 := F'.at' 19 _ rfl; subst hal; have hq := HQ_q.out; go_simp) ?_
          clear F a9
          intro a9 F
          refine fr_ch F 1 [(21, .pointer (some ⟨N, q + 1, none⟩))] (by kernel_rfl) ?_
          clear F a9
          intro a9 F
          refine fr_do F (wanted_free rfl) 22 rfl (by decide) (.int .i64 n.op) (by intro a' F'; have h21 := F'.at' 21 _ rfl; have hc : w9.cell? ⟨N, q + 1, none⟩ = some (.int .i64 n.op) := (HN.out _ HK.low).cell 1 _ rfl; go_simp) ?_
          clear F a9
          intro a9 F
          obtain ⟨i0, hi, hz0, hz1, hz2⟩ := info_parts infoIn
          refine fr_doW F (wanted_free rfl) 23 rfl (by decide) (.slice (some ⟨w9.heap.size, 0, none⟩) 1 1) (w9.alloc (.cells [Value.int .i64 n.op].toArray 3)) (fun a' F' => run_int1 37 3 _ rfl n.op (F'.ev 22 rfl) i0 _ Tryd.underlying37 hi hz0 (by rw [hz1]; decide) (by rw [hz1]; decide) (by rw [hz1]; kernel_rfl)) ?_
          clear F a9
          intro a9 F
          have hb8 : Below w9.heap.size w9 (w9.alloc (.cells [Value.int .i64 n.op].toArray 3)) := (Below.refl _ _).alloc (Nat.le_refl _) _
          have hnr : CellsA (w9.alloc (.cells [Value.int .i64 n.op].toArray 3)) (some ⟨w9.heap.size, 0, none⟩) (intsI [n.op]) := cells_new
          replace HK := HK.below hb8
          replace HO := own_only HO (Only.of_below hb8 (fun _ => False)) (fun _ _ h => h)
          obtain ⟨Z, hZ⟩ : ∃ Z, w9.heap.size = Z := ⟨_, rfl⟩
          rw [hZ] at hnr F
          clear hb8 hZ
          generalize w9.alloc (.cells [Value.int .i64 n.op].toArray 3) = w8 at *
          clear w9
          rename World => w9
          refine fr_appendP F rfl 24 rfl (by decide) (.tmp 17) (.tmp 23) 37 rfl w.heap.size 3 i0 _ 1 8 Tryd.underlying37 hi hz0 hz1 hz2 rfl (by decide) v (opsL ((T.map (·.1)).take (k))).length _ (F.ev 17 rfl) HO (some ⟨Z, 0, none⟩) 1 1 (fun h => by cases h) (intsI [n.op]) (F.ev 23 rfl) rfl hnr (intsI_one _) (by unfold maxLen; omega) (by omega) HK.low.size ?_
          intro v8 w8 hown hgr
          clear hi hz0 hz1 hz2 i0 hnr
          have HK2 := HK.grownBoxM HO (Nat.le_refl _) hgr (by intro z hz; cases hz)
          clear HK HO hgr
          have HK := HK2
          clear HK2
          clear w9
          rename World => w9
          clear F a9
          intro a9 F
          replace HK : Keep w [] [] w9 := HK
          refine fr_as F (wanted_free rfl) 3 rfl (by decide) 24 rfl rfl ?_
          clear F a9
          intro a9 F
          refine wpList_nil ?_
          rw [if_pos hkd] at hsn
          have hown2 : w9.ownsRow w.heap.size 3 1 v8 (opsL ((T.map (·.1)).take (k + 1))).length (intsI (opsL ((T.map (·.1)).take (k + 1)))) := by
            rw [hsn, List.length_append]
            unfold intsI
            rw [List.map_append]
            exact hown
          exact ⟨v8, ((((FrL.nil F.size F.defers).add 0 _ (F.at' 0 _ rfl)).add 3 _ (F.at' 3 _ rfl)).add 4 _ (F.at' 4 _ rfl)), hown2, HK⟩
        · skip
          refine wp_seq ?_
          refine wp_region_lit ?_
          refine fr_mv F (wanted_free rfl) 11 rfl (by decide) 0 rfl rfl ?_
          clear F a9
          intro a9 F
          refine fr_mv F (wanted_free rfl) 12 rfl (by decide) 4 rfl rfl ?_
          clear F a9
          intro a9 F
          refine fr_do F (wanted_free rfl) 13 rfl (by decide) (.pointer (some ⟨N, q, none⟩)) (by intro a' F'; have h11 := F'.at' 11 _ rfl; have h12 := F'.at' 12 _ rfl; subst hal; have hq := HQ_q.out; go_simp) ?_
          clear F a9
          intro a9 F
          refine fr_ch F 1 [(14, .pointer (some ⟨N, q, none⟩))] (by kernel_rfl) ?_
          clear F a9
          intro a9 F
          refine fr_do F (wanted_free rfl) 15 rfl (by decide) (.int .u8 (n.kind : Int)) (by intro a' F'; have h14 := F'.at' 14 _ rfl; have hc : w9.cell? ⟨N, q, none⟩ = some (.int .u8 (n.kind : Int)) := (HN.out _ HK.low).cell 0 _ rfl; go_simp) ?_
          clear F a9
          intro a9 F
          refine fr_do F (wanted_free rfl) 16 rfl (by decide) (.bool false) (by intro a' F'; have h15 := F'.at' 15 _ rfl; go_simp <;> omega) ?_
          clear F a9
          intro a9 F
          refine wpList_nil ?_
          show Code.wp _ _ _ _ _
          refine wp_cond_false (F.ev 16 rfl) ?_
          refine wp_skip ?_
          rw [if_neg hkd, List.append_nil] at hsn
          rw [← hsn] at HO
          exact ⟨v, ((((FrL.nil F.size F.defers).add 0 _ (F.at' 0 _ rfl)).add 3 _ (F.at' 3 _ rfl)).add 4 _ (F.at' 4 _ rfl)), HO, HK⟩
      · clear F a9 HK HO
        rintro a9 w8 ⟨v, F, HO, HK⟩
        clear w9
        rename World => w9
        show Code.wp _ _ _ _ _
        refine wp_region_lit ?_
        refine fr_mv F (wanted_free rfl) 9 rfl (by decide) 4 rfl rfl ?_
        clear F a9
        intro a9 F
        refine fr_do F (wanted_free rfl) 10 rfl (by decide) (.int .i64 ((k + 1 : Nat) : Int)) (by intro a' F'; have h9 := F'.at' 9 _ rfl; go_simp <;> (rw [IntKind.wrap_i64]; omega)) ?_
        clear F a9
        intro a9 F
        refine fr_ch F 1 [(4, .int .i64 ((k + 1 : Nat) : Int))] (by kernel_rfl) ?_
        clear F a9
        intro a9 F
        refine wpList_nil ?_
        replace F := F.cut [(4, .int .i64 ((k + 1 : Nat) : Int)), (3, v), (0, .slice a T.length c)] (by kernel_rfl)
        refine ⟨⟨k + 1, by omega, v, F, HO, HK⟩, ?_⟩
        rw [muI_at F 4 (k + 1) rfl]
        omega
    · have hk2_k : k = T.length := by omega
      subst hk2_k
      refine wp_region_lit ?_
      refine fr_mv F (wanted_free rfl) 5 rfl (by decide) 4 rfl rfl ?_
      clear F a9
      intro a9 F
      refine fr_ch F 2 [(7, .int .i64 (T.length : Int))] (by kernel_rfl) ?_
      clear F a9
      intro a9 F
      refine fr_do F (wanted_free rfl) 8 rfl (by decide) (.bool false) (by intro a' F'; have h5 := F'.at' 5 _ rfl; have h7 := F'.at' 7 _ rfl; go_simp) ?_
      clear F a9
      intro a9 F
      refine wpList_nil ?_
      show Code.wp _ _ _ _ _
      refine wp_cond_false (F.ev 8 rfl) ?_
      refine wp_exit ?_
      exact then_exit (then_exit (exit_in ⟨v, ⟨T.length, ((((FrL.nil F.size F.defers).add 0 _ (F.at' 0 _ rfl)).add 3 _ (F.at' 3 _ rfl)).add 4 _ (F.at' 4 _ rfl))⟩, HO, HK⟩))
  · clear F a9 HK
    rintro a9 w8 ⟨v, ⟨kk, F⟩, HO, HK⟩
    clear w9
    rename World => w9
    show Code.wp _ _ _ _ _
    refine wp_seq ?_
    refine wp_region_lit ?_
    refine fr_mv F (wanted_free rfl) 25 rfl (by decide) 3 rfl rfl ?_
    clear F a9
    intro a9 F
    refine fr_as F (wanted_free rfl) 2 rfl (by decide) 25 rfl rfl ?_
    clear F a9
    intro a9 F
    refine wpList_nil ?_
    show Code.wp _ _ _ _ _
    rw [List.take_of_length_le (by rw [List.length_map]; exact Nat.le_refl _)] at HO
    refine wp_ret ?_
    exact fr_ret1 F rfl _ rfl (FIN.out _ _ HO HK.low)
set_option maxRecDepth 100000 in
set_option maxHeartbeats 4000000 in
theorem ref26_Ahead {w : World} (hE : Env w) (x y : Int) (T : List NtE) (a : Option Addr) (c : Nat) (hc : CellsA w a (ntCells T)) (hlen : T.length ≤ 1000000) : Calls Tryd.prog 17 #[.slice a T.length c, .int .i64 x, .int .i64 y] w fun e w' => e = .returned (.bool (aheadL (T.map (·.1)) x y)) ∧ Below w.heap.size w w' := by
  obtain ⟨RR, hRR⟩ : ∃ RR : Ending → World → Prop, RR = fun e w' => e = .returned (.bool (aheadL (T.map (·.1)) x y)) ∧ Below w.heap.size w w' := ⟨_, rfl⟩
  have FIN := Lib.hid (show ∀ b w', b = aheadL (T.map (·.1)) x y → Below w.heap.size w w' → RR (.returned (.bool b)) w' from fun b w' h1 hb => by rw [hRR, h1]; exact ⟨rfl, hb⟩)
  rw [← hRR]
  obtain ⟨N, o0, hlog⟩ := log_at hc
  have HL := Lib.hid hlog
  have HC := Lib.hid hc
  obtain ⟨w9, hw9⟩ : ∃ w9, w9 = w := ⟨_, rfl⟩
  have HK : Keep w [] [] w9 := by rw [hw9]; exact Keep.begin hE _ (by intro r hr; cases hr)
  suffices hgo : Calls Tryd.prog 17 #[.slice a T.length c, .int .i64 x, .int .i64 y] w9 RR by rw [hw9] at hgo; exact hgo
  clear hw9 hRR hE hc hlog
  go_enter Tryd.func17, Tryd.ntmps17
  refine wp_forget (n := 22) (L := [(2, .int .i64 y), (1, .int .i64 x), (0, .slice a T.length c)]) (FrL.add (FrL.add (FrL.add (FrL.nil ?_ ?_) _ _ ?_) _ _ ?_) _ _ ?_) ?_
  iterate 5 rfl
  intro a9 F
  refine wp_seq ?_
  refine wp_region_lit ?_
  refine fr_ch F 1 [(6, .bool false)] (by kernel_rfl) ?_
  clear F a9
  intro a9 F
  refine wpList_nil ?_
  show Code.wp _ _ _ _ _
  unfold aheadL at FIN
  obtain ⟨i1, hi1⟩ : ∃ i1, idxN 3 x (T.map (·.1)) = i1 := ⟨_, rfl⟩
  obtain ⟨i2, hi2⟩ : ∃ i2, idxN 1 y (T.map (·.1)) = i2 := ⟨_, rfl⟩
  rw [hi1, hi2] at FIN
  refine wp_seq ?_
  refine wp_region_lit ?_
  refine fr_ch F 2 [(10, .int .i64 x), (9, .slice a T.length c)] (by kernel_rfl) ?_
  clear F a9
  intro a9 F
  refine fr_call F (wanted_free rfl) 11 rfl (by decide) 39 #[.slice a T.length c, .int .u8 3, .int .i64 x] (by intro a' F'; have h9 := F'.at' 9 _ rfl; have h10 := F'.at' 10 _ rfl; go_simp) (by have h := ref26_find HK.env 3 x T a c (HC.out.below HK.low) hlen; rw [hi1] at h; exact h) ?_
  rintro e9 w8 ⟨rfl, hb8⟩
  replace HK := HK.below hb8
  clear hb8
  clear w9
  rename World => w9
  refine ⟨_, rfl, ?_⟩
  clear F a9
  intro a9 F
  refine fr_as F (wanted_free rfl) 7 rfl (by decide) 11 rfl rfl ?_
  clear F a9
  intro a9 F
  refine wpList_nil ?_
  show Code.wp _ _ _ _ _
  refine wp_seq ?_
  refine wp_region_lit ?_
  refine fr_mv F (wanted_free rfl) 12 rfl (by decide) 0 rfl rfl ?_
  clear F a9
  intro a9 F
  refine fr_mv F (wanted_free rfl) 13 rfl (by decide) 2 rfl rfl ?_
  clear F a9
  intro a9 F
  refine fr_call F (wanted_free rfl) 14 rfl (by decide) 39 #[.slice a T.length c, .int .u8 1, .int .i64 y] (by intro a' F'; have h12 := F'.at' 12 _ rfl; have h13 := F'.at' 13 _ rfl; go_simp) (by have h := ref26_find HK.env 1 y T a c (HC.out.below HK.low) hlen; rw [hi2] at h; exact h) ?_
  rintro e9 w8 ⟨rfl, hb8⟩
  replace HK := HK.below hb8
  clear hb8
  clear w9
  rename World => w9
  refine ⟨_, rfl, ?_⟩
  clear F a9
  intro a9 F
  refine fr_as F (wanted_free rfl) 8 rfl (by decide) 14 rfl rfl ?_
  clear F a9
  intro a9 F
  refine wpList_nil ?_
  show Code.wp _ _ _ _ _
  replace F := F.cut [(8, .int .i64 i2), (7, .int .i64 i1), (6, .bool false)] (by kernel_rfl)
  by_cases ha : 0 ≤ i1
  rotate_left
  · skip
    refine wp_seq ?_
    refine wp_region_lit ?_
    refine fr_ch F 1 [(15, .int .i64 i1)] (by kernel_rfl) ?_
    clear F a9
    intro a9 F
    refine fr_do F (wanted_free rfl) 16 rfl (by decide) (.bool false) (by intro a' F'; have h15 := F'.at' 15 _ rfl; go_simp) ?_
    clear F a9
    intro a9 F
    refine fr_ch F 6 [(6, .bool false), (21, .bool false), (20, undef), (19, undef), (18, undef), (17, .bool false)] (by kernel_rfl) ?_
    clear F a9
    intro a9 F
    refine wpList_nil ?_
    show Code.wp _ _ _ _ _
    refine wp_ret ?_
    exact fr_ret1 F rfl _ rfl (FIN.out _ _ (by simp only [decide_eq_false ha, Bool.true_and, Bool.and_true, Bool.false_and, Bool.and_false]) HK.low)
  by_cases hb : i1 < i2
  rotate_left
  · skip
    refine wp_seq ?_
    refine wp_region_lit ?_
    refine fr_mv F (wanted_free rfl) 15 rfl (by decide) 7 rfl rfl ?_
    clear F a9
    intro a9 F
    refine fr_do F (wanted_free rfl) 16 rfl (by decide) (.bool true) (by intro a' F'; have h15 := F'.at' 15 _ rfl; go_simp) ?_
    clear F a9
    intro a9 F
    refine fr_ch F 1 [(17, .bool true)] (by kernel_rfl) ?_
    clear F a9
    intro a9 F
    refine fr_mv F (by rw [wanted_at F rfl (t := 17) (b := true) (by kernel_rfl) rfl]; rfl) 18 rfl (by decide) 8 rfl rfl ?_
    clear F a9
    intro a9 F
    refine fr_mv F (by rw [wanted_at F rfl (t := 17) (b := true) (by kernel_rfl) rfl]; rfl) 19 rfl (by decide) 7 rfl rfl ?_
    clear F a9
    intro a9 F
    refine fr_do F (by rw [wanted_at F rfl (t := 17) (b := true) (by kernel_rfl) rfl]; rfl) 20 rfl (by decide) (.bool false) (by intro a' F'; have h18 := F'.at' 18 _ rfl; have h19 := F'.at' 19 _ rfl; go_simp) ?_
    clear F a9
    intro a9 F
    refine fr_ch F 2 [(6, .bool false), (21, .bool false)] (by kernel_rfl) ?_
    clear F a9
    intro a9 F
    refine wpList_nil ?_
    show Code.wp _ _ _ _ _
    refine wp_ret ?_
    exact fr_ret1 F rfl _ rfl (FIN.out _ _ (by simp only [decide_eq_true ha, decide_eq_false hb, Bool.true_and, Bool.and_true, Bool.false_and, Bool.and_false]) HK.low)
  refine wp_seq ?_
  refine wp_region_lit ?_
  refine fr_mv F (wanted_free rfl) 15 rfl (by decide) 7 rfl rfl ?_
  clear F a9
  intro a9 F
  refine fr_do F (wanted_free rfl) 16 rfl (by decide) (.bool true) (by intro a' F'; have h15 := F'.at' 15 _ rfl; go_simp) ?_
  clear F a9
  intro a9 F
  refine fr_ch F 1 [(17, .bool true)] (by kernel_rfl) ?_
  clear F a9
  intro a9 F
  refine fr_mv F (by rw [wanted_at F rfl (t := 17) (b := true) (by kernel_rfl) rfl]; rfl) 18 rfl (by decide) 8 rfl rfl ?_
  clear F a9
  intro a9 F
  refine fr_mv F (by rw [wanted_at F rfl (t := 17) (b := true) (by kernel_rfl) rfl]; rfl) 19 rfl (by decide) 7 rfl rfl ?_
  clear F a9
  intro a9 F
  refine fr_do F (by rw [wanted_at F rfl (t := 17) (b := true) (by kernel_rfl) rfl]; rfl) 20 rfl (by decide) (.bool true) (by intro a' F'; have h18 := F'.at' 18 _ rfl; have h19 := F'.at' 19 _ rfl; go_simp) ?_
  clear F a9
  intro a9 F
  refine fr_ch F 2 [(6, .bool true), (21, .bool true)] (by kernel_rfl) ?_
  clear F a9
  intro a9 F
  refine wpList_nil ?_
  show Code.wp _ _ _ _ _
  refine wp_ret ?_
  exact fr_ret1 F rfl _ rfl (FIN.out _ _ (by simp only [decide_eq_true ha, decide_eq_true hb, Bool.true_and, Bool.and_true, Bool.false_and, Bool.and_false]) HK.low)
set_option maxRecDepth 100000 in
set_option maxHeartbeats 4000000 in
theorem law26_OrderTells (a : Option Addr) (c : Nat) (T : List NtE) (x y : Int) (w : World) (hE : Env w) (_hz : a = none → c = 0) (hlc : T.length ≤ c) (hlen : T.length ≤ 9223372036854775807) (hc : CellsA w a (ntCells T)) (ha : ∀ x ∈ T, NtArg w x) (_hx : Whole x) (_hy : Whole y) : Calls Tryd.prog 6 #[.slice a T.length c, .int .i64 x, .int .i64 y] w fun e w' => e = .returned (.bool true) ∧ Below w.heap.size w w' := by
  obtain ⟨RR, hRR⟩ : ∃ RR : Ending → World → Prop, RR = fun e w' => e = .returned (.bool true) ∧ Below w.heap.size w w' := ⟨_, rfl⟩
  have FIN := Lib.hid (show ∀ w', Below w.heap.size w w' → RR (.returned (.bool true)) w' from fun w' hb => by rw [hRR]; exact ⟨rfl, hb⟩)
  rw [← hRR]
  have HC := Lib.hid hc
  have HA := Lib.hid ha
  have HLC := Lib.hid (And.intro hlc hlen)
  obtain ⟨w9, hw9⟩ : ∃ w9, w9 = w := ⟨_, rfl⟩
  have HK : Keep w [] [] w9 := by rw [hw9]; exact Keep.begin hE _ (by intro r hr; cases hr)
  suffices hgo : Calls Tryd.prog 6 #[.slice a T.length c, .int .i64 x, .int .i64 y] w9 RR by rw [hw9] at hgo; exact hgo
  clear hw9 hRR hE hc ha
  go_enter Tryd.func6, Tryd.ntmps6
  refine wp_forget (n := 40) (L := [(2, .int .i64 y), (1, .int .i64 x), (0, .slice a T.length c)]) (FrL.add (FrL.add (FrL.add (FrL.nil ?_ ?_) _ _ ?_) _ _ ?_) _ _ ?_) ?_
  iterate 5 rfl
  intro a9 F
  refine wp_seq ?_
  refine wp_region_lit ?_
  refine fr_ch F 1 [(6, .bool false)] (by kernel_rfl) ?_
  clear F a9
  intro a9 F
  refine wpList_nil ?_
  show Code.wp _ _ _ _ _
  refine wp_seq ?_
  cases hb : greatNs (T.map (·.1))
  rotate_left
  · skip
    refine wp_seq ?_
    refine wp_region_lit ?_
    refine fr_ch F 1 [(7, .slice a T.length c)] (by kernel_rfl) ?_
    clear F a9
    intro a9 F
    refine fr_call F (wanted_free rfl) 8 rfl (by decide) 9 #[.slice a T.length c] (by intro a' F'; have h7 := F'.at' 7 _ rfl; go_simp) (by have h := law26_Great HK.env T a c (HC.out.below HK.low) (fun x hx => (HA.out x hx).row.below HK.low) HLC.out.1 HLC.out.2; rw [hb] at h; exact h) ?_
    rintro e9 w8 ⟨rfl, hb8⟩
    replace HK := HK.below hb8
    clear hb8
    clear w9
    rename World => w9
    refine ⟨_, rfl, ?_⟩
    clear F a9
    intro a9 F
    refine wpList_nil ?_
    show Code.wp _ _ _ _ _
    refine wp_cond_true (F.ev 8 rfl) ?_
    refine wp_seq ?_
    refine wp_region_lit ?_
    refine fr_call F (wanted_free rfl) 9 rfl (by decide) 10 #[] (by intro a' F'; go_simp) (law26_awake HK.env) ?_
    rintro e9 w8 ⟨rfl, hb8⟩
    replace HK := HK.below hb8
    clear hb8
    clear w9
    rename World => w9
    refine ⟨_, rfl, ?_⟩
    clear F a9
    intro a9 F
    refine fr_as F (wanted_free rfl) 6 rfl (by decide) 9 rfl rfl ?_
    clear F a9
    intro a9 F
    refine wpList_nil ?_
    show Code.wp _ _ _ _ _
    refine wp_ret ?_
    exact fr_ret1 F rfl _ rfl (FIN.out _ HK.low)
  refine wp_seq ?_
  refine wp_region_lit ?_
  refine fr_mv F (wanted_free rfl) 7 rfl (by decide) 0 rfl rfl ?_
  clear F a9
  intro a9 F
  refine fr_call F (wanted_free rfl) 8 rfl (by decide) 9 #[.slice a T.length c] (by intro a' F'; have h7 := F'.at' 7 _ rfl; go_simp) (by have h := law26_Great HK.env T a c (HC.out.below HK.low) (fun x hx => (HA.out x hx).row.below HK.low) HLC.out.1 HLC.out.2; rw [hb] at h; exact h) ?_
  rintro e9 w8 ⟨rfl, hb8⟩
  replace HK := HK.below hb8
  clear hb8
  clear w9
  rename World => w9
  refine ⟨_, rfl, ?_⟩
  clear F a9
  intro a9 F
  refine wpList_nil ?_
  show Code.wp _ _ _ _ _
  refine wp_cond_false (F.ev 8 rfl) ?_
  refine wp_skip ?_
  show Code.wp _ _ _ _ _
  replace F := F.cut [(6, .bool false), (2, .int .i64 y), (1, .int .i64 x), (0, .slice a T.length c)] (by kernel_rfl)
  obtain ⟨hgd, hfew⟩ := goods HA.out hb
  have HG := Lib.hid hgd
  have HF := Lib.hid hfew
  clear hgd hfew
  have hol := opsL_len (T.map (·.1))
  rw [List.length_map] at hol
  have HOL := Lib.hid hol
  clear hol
  obtain ⟨OO, hOO⟩ : ∃ OO, opsL (T.map (·.1)) = OO := ⟨_, rfl⟩
  have HOO := Lib.hid hOO
  obtain ⟨b1, hb1⟩ : ∃ b1, aheadL (T.map (·.1)) x y = b1 := ⟨_, rfl⟩
  obtain ⟨b2, hb2⟩ : ∃ b2, aheadL (T.map (·.1)) y x = b2 := ⟨_, rfl⟩
  have HB1 := Lib.hid hb1
  have HB2 := Lib.hid hb2
  rw [hOO] at HOL
  clear hOO hb1 hb2
  refine wp_seq ?_
  refine wp_region_lit ?_
  refine fr_ch F 1 [(10, .slice a T.length c)] (by kernel_rfl) ?_
  clear F a9
  intro a9 F
  refine fr_call F (wanted_free rfl) 11 rfl (by decide) 14 #[.slice a T.length c] (by intro a' F'; have h10 := F'.at' 10 _ rfl; go_simp) (order_Row HK.env T a c (HC.out.below HK.low) (by have := HF.out; omega)) ?_
  rintro e9 w8 ⟨v1, rfl, hor, hb8⟩
  rw [HOO.out] at hor
  have HR1 := own_base hor HK.size
  clear hor
  replace HK := HK.below hb8
  clear hb8
  clear w9
  rename World => w9
  refine ⟨_, rfl, ?_⟩
  clear F a9
  intro a9 F
  refine fr_mv F (wanted_free rfl) 12 rfl (by decide) 0 rfl rfl ?_
  clear F a9
  intro a9 F
  refine fr_call F (wanted_free rfl) 13 rfl (by decide) 15 #[.slice a T.length c] (by intro a' F'; have h12 := F'.at' 12 _ rfl; go_simp) (ref26_Row HK.env T a c (HC.out.below HK.low) (by have := HF.out; omega)) ?_
  rintro e9 w8 ⟨v2, rfl, hor, hb8⟩
  rw [HOO.out] at hor
  have HR2 := own_base hor HK.size
  clear hor
  replace HK := HK.below hb8
  replace HR1 := own_only HR1 (Only.of_below hb8 (fun _ => False)) (fun _ _ h => h)
  clear hb8
  clear w9
  rename World => w9
  refine ⟨_, rfl, ?_⟩
  clear F a9
  intro a9 F
  obtain ⟨a1, c1, hv1, _, hc1⟩ := own_form HR1
  subst hv1
  obtain ⟨a2, c2, hv2, _, hc2⟩ := own_form HR2
  subst hv2
  clear HR1 HR2
  refine fr_call F (wanted_free rfl) 14 rfl (by decide) 13 #[.slice a1 OO.length c1, .slice a2 OO.length c2] (by intro a' F'; have h11 := F'.at' 11 _ rfl; have h13 := F'.at' 13 _ rfl; go_simp) (same_Ints HK.env a1 a2 c1 c2 OO (by have := HF.out; have := HOL.out; omega) hc1 hc2) ?_
  rintro e9 w8 ⟨rfl, hb8⟩
  clear hc1 hc2
  replace HK := HK.below hb8
  clear hb8
  clear w9
  rename World => w9
  refine ⟨_, rfl, ?_⟩
  clear F a9
  intro a9 F
  refine fr_mv F (wanted_free rfl) 15 rfl (by decide) 14 rfl rfl ?_
  clear F a9
  intro a9 F
  refine fr_mv F (by rw [wanted_at F rfl (t := 15) (b := true) (by kernel_rfl) rfl]; rfl) 16 rfl (by decide) 0 rfl rfl ?_
  clear F a9
  intro a9 F
  refine fr_mv F (by rw [wanted_at F rfl (t := 15) (b := true) (by kernel_rfl) rfl]; rfl) 17 rfl (by decide) 1 rfl rfl ?_
  clear F a9
  intro a9 F
  refine fr_mv F (by rw [wanted_at F rfl (t := 15) (b := true) (by kernel_rfl) rfl]; rfl) 18 rfl (by decide) 2 rfl rfl ?_
  clear F a9
  intro a9 F
  refine fr_call F (by rw [wanted_at F rfl (t := 15) (b := true) (by kernel_rfl) rfl]; rfl) 19 rfl (by decide) 16 #[.slice a T.length c, .int .i64 x, .int .i64 y] (by intro a' F'; have h16 := F'.at' 16 _ rfl; have h17 := F'.at' 17 _ rfl; have h18 := F'.at' 18 _ rfl; go_simp) (by have h := order_Ahead HK.env x y T a c (HC.out.below HK.low) (by have := HF.out; omega); rw [HB1.out] at h; exact h) ?_
  rintro e9 w8 ⟨rfl, hb8⟩
  replace HK := HK.below hb8
  clear hb8
  clear w9
  rename World => w9
  refine ⟨_, rfl, ?_⟩
  clear F a9
  intro a9 F
  refine fr_mv F (by rw [wanted_at F rfl (t := 15) (b := true) (by kernel_rfl) rfl]; rfl) 20 rfl (by decide) 0 rfl rfl ?_
  clear F a9
  intro a9 F
  refine fr_mv F (by rw [wanted_at F rfl (t := 15) (b := true) (by kernel_rfl) rfl]; rfl) 21 rfl (by decide) 1 rfl rfl ?_
  clear F a9
  intro a9 F
  refine fr_mv F (by rw [wanted_at F rfl (t := 15) (b := true) (by kernel_rfl) rfl]; rfl) 22 rfl (by decide) 2 rfl rfl ?_
  clear F a9
  intro a9 F
  refine fr_call F (by rw [wanted_at F rfl (t := 15) (b := true) (by kernel_rfl) rfl]; rfl) 23 rfl (by decide) 17 #[.slice a T.length c, .int .i64 x, .int .i64 y] (by intro a' F'; have h20 := F'.at' 20 _ rfl; have h21 := F'.at' 21 _ rfl; have h22 := F'.at' 22 _ rfl; go_simp) (by have h := ref26_Ahead HK.env x y T a c (HC.out.below HK.low) (by have := HF.out; omega); rw [HB1.out] at h; exact h) ?_
  rintro e9 w8 ⟨rfl, hb8⟩
  replace HK := HK.below hb8
  clear hb8
  clear w9
  rename World => w9
  refine ⟨_, rfl, ?_⟩
  clear F a9
  intro a9 F
  refine fr_do F (by rw [wanted_at F rfl (t := 15) (b := true) (by kernel_rfl) rfl]; rfl) 24 rfl (by decide) (.bool true) (by intro a' F'; have h19 := F'.at' 19 _ rfl; have h23 := F'.at' 23 _ rfl; go_simp; try (cases b1 <;> rfl); try (cases b2 <;> rfl)) ?_
  clear F a9
  intro a9 F
  refine fr_ch F 2 [(26, .bool true), (25, .bool true)] (by kernel_rfl) ?_
  clear F a9
  intro a9 F
  refine fr_mv F (by rw [wanted_at F rfl (t := 26) (b := true) (by kernel_rfl) rfl]; rfl) 27 rfl (by decide) 0 rfl rfl ?_
  clear F a9
  intro a9 F
  refine fr_mv F (by rw [wanted_at F rfl (t := 26) (b := true) (by kernel_rfl) rfl]; rfl) 28 rfl (by decide) 2 rfl rfl ?_
  clear F a9
  intro a9 F
  refine fr_mv F (by rw [wanted_at F rfl (t := 26) (b := true) (by kernel_rfl) rfl]; rfl) 29 rfl (by decide) 1 rfl rfl ?_
  clear F a9
  intro a9 F
  refine fr_call F (by rw [wanted_at F rfl (t := 26) (b := true) (by kernel_rfl) rfl]; rfl) 30 rfl (by decide) 16 #[.slice a T.length c, .int .i64 y, .int .i64 x] (by intro a' F'; have h27 := F'.at' 27 _ rfl; have h28 := F'.at' 28 _ rfl; have h29 := F'.at' 29 _ rfl; go_simp) (by have h := order_Ahead HK.env y x T a c (HC.out.below HK.low) (by have := HF.out; omega); rw [HB2.out] at h; exact h) ?_
  rintro e9 w8 ⟨rfl, hb8⟩
  replace HK := HK.below hb8
  clear hb8
  clear w9
  rename World => w9
  refine ⟨_, rfl, ?_⟩
  clear F a9
  intro a9 F
  refine fr_mv F (by rw [wanted_at F rfl (t := 26) (b := true) (by kernel_rfl) rfl]; rfl) 31 rfl (by decide) 0 rfl rfl ?_
  clear F a9
  intro a9 F
  refine fr_mv F (by rw [wanted_at F rfl (t := 26) (b := true) (by kernel_rfl) rfl]; rfl) 32 rfl (by decide) 2 rfl rfl ?_
  clear F a9
  intro a9 F
  refine fr_mv F (by rw [wanted_at F rfl (t := 26) (b := true) (by kernel_rfl) rfl]; rfl) 33 rfl (by decide) 1 rfl rfl ?_
  clear F a9
  intro a9 F
  refine fr_call F (by rw [wanted_at F rfl (t := 26) (b := true) (by kernel_rfl) rfl]; rfl) 34 rfl (by decide) 17 #[.slice a T.length c, .int .i64 y, .int .i64 x] (by intro a' F'; have h31 := F'.at' 31 _ rfl; have h32 := F'.at' 32 _ rfl; have h33 := F'.at' 33 _ rfl; go_simp) (by have h := ref26_Ahead HK.env y x T a c (HC.out.below HK.low) (by have := HF.out; omega); rw [HB2.out] at h; exact h) ?_
  rintro e9 w8 ⟨rfl, hb8⟩
  replace HK := HK.below hb8
  clear hb8
  clear w9
  rename World => w9
  refine ⟨_, rfl, ?_⟩
  clear F a9
  intro a9 F
  refine fr_do F (by rw [wanted_at F rfl (t := 26) (b := true) (by kernel_rfl) rfl]; rfl) 35 rfl (by decide) (.bool true) (by intro a' F'; have h30 := F'.at' 30 _ rfl; have h34 := F'.at' 34 _ rfl; go_simp; try (cases b1 <;> rfl); try (cases b2 <;> rfl)) ?_
  clear F a9
  intro a9 F
  refine fr_ch F 2 [(37, .bool true), (36, .bool true)] (by kernel_rfl) ?_
  clear F a9
  intro a9 F
  refine fr_call F (by rw [wanted_at F rfl (t := 37) (b := true) (by kernel_rfl) rfl]; rfl) 38 rfl (by decide) 10 #[] (by intro a' F'; go_simp) (law26_awake HK.env) ?_
  rintro e9 w8 ⟨rfl, hb8⟩
  replace HK := HK.below hb8
  clear hb8
  clear w9
  rename World => w9
  refine ⟨_, rfl, ?_⟩
  clear F a9
  intro a9 F
  refine fr_ch F 2 [(6, .bool true), (39, .bool true)] (by kernel_rfl) ?_
  clear F a9
  intro a9 F
  refine wpList_nil ?_
  show Code.wp _ _ _ _ _
  refine wp_ret ?_
  exact fr_ret1 F rfl _ rfl (FIN.out _ HK.low)
end Go.Proofs.YtmppkgonkkffhaaDoor
