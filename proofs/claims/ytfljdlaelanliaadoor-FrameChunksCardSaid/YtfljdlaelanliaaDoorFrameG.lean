/- The walk of law06's Great. Conditions: the texts in their cells. -/
import Derived.Test.YtfljdlaelanliaaDoorFrameE
namespace Go.Proofs.YtfljdlaelanliaaDoor
open Go.RowKit
def sumZ (L : List ByteArray) : Nat := (L.map (·.size)).sum
/-- Are there more pieces than statements go through? -/
def greatZ (L : List ByteArray) : Bool := decide (20000 < sumZ L) || decide (200 < L.length)
theorem sumZ_snoc {L : List ByteArray} {k : Nat} {x : ByteArray} (h : L[k]? = some x) : sumZ (L.take (k + 1)) = sumZ (L.take k) + x.size := by
  have : L.take (k + 1) = L.take k ++ [x] := by rw [List.take_add_one, h]; rfl
  unfold sumZ
  rw [this, List.map_append, List.sum_append]
  simp
theorem sumZ_take (L : List ByteArray) (k : Nat) : sumZ (L.take k) ≤ sumZ L := by
  have h : sumZ L = sumZ (L.take k) + sumZ (L.drop k) := by
    unfold sumZ
    rw [← List.sum_append, ← List.map_append, List.take_append_drop]
  omega
set_option maxRecDepth 100000 in
set_option maxHeartbeats 4000000 in
theorem law06_Great (a : Option Addr) (c : Nat) (L : List ByteArray) (w : World) (ha : CellsA w a (L.map Value.string)) (hn : L.length ≤ 9223372036854775807) : Calls Tryd.prog 26 #[.slice a L.length c] w fun e w' => e = .returned (.bool (greatZ L)) ∧ w = w' := by
  have HRA := Lib.hid ha
  obtain ⟨RR, hRR⟩ : ∃ RR : Ending → World → Prop, RR = fun e w' => e = .returned (.bool (greatZ L)) ∧ w = w' := ⟨_, rfl⟩
  have FIN := Lib.hid (show ∀ b, b = greatZ L → RR (.returned (.bool b)) w from by rintro b rfl; rw [hRR]; exact ⟨rfl, rfl⟩)
  rw [← hRR]
  clear hRR ha
  rename World => w9
  go_enter Tryd.func26, Tryd.ntmps26
  refine wp_forget (n := 28) (L := [(0, .slice a L.length c)]) (FrL.add (FrL.nil ?_ ?_) _ _ ?_) ?_
  iterate 3 rfl
  intro a9 F
  refine wp_seq ?_
  refine wp_region_lit ?_
  refine fr_ch F 1 [(2, .bool false)] (by kernel_rfl) ?_
  clear F a9
  intro a9 F
  refine wpList_nil ?_
  show Code.wp _ _ _ _ _
  refine wp_seq ?_
  refine wp_region_lit ?_
  refine fr_ch F 1 [(3, .int .i64 20000)] (by kernel_rfl) ?_
  clear F a9
  intro a9 F
  refine wpList_nil ?_
  show Code.wp _ _ _ _ _
  refine wp_seq ?_
  refine wp_seq ?_
  refine wp_region_lit ?_
  refine fr_ch F 1 [(4, .int .i64 0)] (by kernel_rfl) ?_
  clear F a9
  intro a9 F
  refine wpList_nil ?_
  show Code.wp _ _ _ _ _
  replace F := F.cut [(4, .int .i64 0), (3, .int .i64 20000), (0, .slice a L.length c)] (by kernel_rfl)
  refine wp_block_end (fun a' w' => FrL 28 [(0, .slice a L.length c)] a' ∧ w' = w9 ∧ sumZ L ≤ 20000) ?_ ?_
  · skip
    refine wp_loop (fun a' w' => ∃ (k lf : Nat), FrL 28 [(4, .int .i64 (k : Int)), (3, .int .i64 (lf : Int)), (0, .slice a L.length c)] a' ∧ w' = w9 ∧ k ≤ L.length ∧ lf + sumZ (L.take k) = 20000) (fun a' _ => muI L.length 4 a') ⟨0, 20000, F, rfl, Nat.zero_le _, rfl⟩ ?_
    clear F a9
    rintro a9 w8 ⟨k, lf, F, rfl, hk, hs⟩
    rw [muI_at F 4 k rfl]
    refine wp_seq ?_
    refine wp_seq ?_
    by_cases hlt : k < L.length
    · skip
      refine wp_region_lit ?_
      refine fr_ch F 3 [(7, .int .i64 (L.length : Int)), (6, .slice a L.length c), (5, .int .i64 (k : Int))] (by kernel_rfl) ?_
      clear F a9
      intro a9 F
      refine fr_do F (wanted_free rfl) 8 rfl (by decide) (.bool true) (by intro a' F'; have h5 := F'.at' 5 _ rfl; have h7 := F'.at' 7 _ rfl; go_simp) ?_
      clear F a9
      intro a9 F
      refine wpList_nil ?_
      show Code.wp _ _ _ _ _
      refine wp_cond_true (F.ev 8 rfl) ?_
      refine wp_skip ?_
      show Code.wp _ _ _ _ _
      replace F := F.cut [(4, .int .i64 (k : Int)), (3, .int .i64 (lf : Int)), (0, .slice a L.length c)] (by kernel_rfl)
      obtain ⟨x, hx⟩ : ∃ x, L[k]? = some x := ⟨_, List.getElem?_eq_getElem hlt⟩
      obtain ⟨bb, oo, hal, hc0⟩ := HRA.out k (.string x) (by rw [List.getElem?_map, hx]; rfl)
      have HC := Lib.hid hc0
      have hsn := sumZ_snoc hx
      have hst := sumZ_take L (k + 1)
      clear hc0 hx
      refine wp_seq ?_
      refine wp_block_end (fun a' w' => ∃ lf : Nat, FrL 28 [(4, .int .i64 (k : Int)), (3, .int .i64 (lf : Int)), (0, .slice a L.length c)] a' ∧ w' = w8 ∧ lf + sumZ (L.take (k + 1)) = 20000) ?_ ?_
      · skip
        by_cases hgt : lf < x.size
        · skip
          refine wp_seq ?_
          refine wp_seq ?_
          refine wp_region_lit ?_
          refine fr_ch F 2 [(12, .int .i64 (k : Int)), (11, .slice a L.length c)] (by kernel_rfl) ?_
          clear F a9
          intro a9 F
          refine fr_do F (wanted_free rfl) 13 rfl (by decide) (.pointer (some ⟨bb, oo + k, none⟩)) (by intro a' F'; have h11 := F'.at' 11 _ rfl; have h12 := F'.at' 12 _ rfl; go_simp) ?_
          clear F a9
          intro a9 F
          refine fr_do F (wanted_free rfl) 14 rfl (by decide) (.string x) (by intro a' F'; have h13 := F'.at' 13 _ rfl; have hc := HC.out; go_simp) ?_
          clear F a9
          intro a9 F
          refine fr_ch F 2 [(16, .int .i64 (lf : Int)), (15, .int .i64 (x.size : Int))] (by kernel_rfl) ?_
          clear F a9
          intro a9 F
          refine fr_do F (wanted_free rfl) 17 rfl (by decide) (.bool true) (by intro a' F'; have h15 := F'.at' 15 _ rfl; have h16 := F'.at' 16 _ rfl; go_simp) ?_
          clear F a9
          intro a9 F
          refine wpList_nil ?_
          show Code.wp _ _ _ _ _
          refine wp_cond_true (F.ev 17 rfl) ?_
          refine wp_seq ?_
          refine wp_region_lit ?_
          refine fr_ch F 1 [(2, .bool true)] (by kernel_rfl) ?_
          clear F a9
          intro a9 F
          refine wpList_nil ?_
          show Code.wp _ _ _ _ _
          refine wp_ret ?_
          exact fr_ret1 F rfl _ rfl (FIN.out _ (by unfold greatZ; rw [decide_eq_true (by omega : 20000 < sumZ L)]; rfl))
        · skip
          refine wp_seq ?_
          refine wp_seq ?_
          refine wp_region_lit ?_
          refine fr_ch F 2 [(12, .int .i64 (k : Int)), (11, .slice a L.length c)] (by kernel_rfl) ?_
          clear F a9
          intro a9 F
          refine fr_do F (wanted_free rfl) 13 rfl (by decide) (.pointer (some ⟨bb, oo + k, none⟩)) (by intro a' F'; have h11 := F'.at' 11 _ rfl; have h12 := F'.at' 12 _ rfl; go_simp) ?_
          clear F a9
          intro a9 F
          refine fr_do F (wanted_free rfl) 14 rfl (by decide) (.string x) (by intro a' F'; have h13 := F'.at' 13 _ rfl; have hc := HC.out; go_simp) ?_
          clear F a9
          intro a9 F
          refine fr_ch F 2 [(16, .int .i64 (lf : Int)), (15, .int .i64 (x.size : Int))] (by kernel_rfl) ?_
          clear F a9
          intro a9 F
          refine fr_do F (wanted_free rfl) 17 rfl (by decide) (.bool false) (by intro a' F'; have h15 := F'.at' 15 _ rfl; have h16 := F'.at' 16 _ rfl; go_simp) ?_
          clear F a9
          intro a9 F
          refine wpList_nil ?_
          show Code.wp _ _ _ _ _
          refine wp_cond_false (F.ev 17 rfl) ?_
          refine wp_skip ?_
          show Code.wp _ _ _ _ _
          replace F := F.cut [(4, .int .i64 (k : Int)), (3, .int .i64 (lf : Int)), (0, .slice a L.length c)] (by kernel_rfl)
          refine wp_region_lit ?_
          refine fr_ch F 3 [(20, .int .i64 (k : Int)), (19, .slice a L.length c), (18, .int .i64 (lf : Int))] (by kernel_rfl) ?_
          clear F a9
          intro a9 F
          refine fr_do F (wanted_free rfl) 21 rfl (by decide) (.pointer (some ⟨bb, oo + k, none⟩)) (by intro a' F'; have h19 := F'.at' 19 _ rfl; have h20 := F'.at' 20 _ rfl; go_simp) ?_
          clear F a9
          intro a9 F
          refine fr_do F (wanted_free rfl) 22 rfl (by decide) (.string x) (by intro a' F'; have h21 := F'.at' 21 _ rfl; have hc := HC.out; go_simp) ?_
          clear F a9
          intro a9 F
          refine fr_ch F 1 [(23, .int .i64 (x.size : Int))] (by kernel_rfl) ?_
          clear F a9
          intro a9 F
          refine fr_do F (wanted_free rfl) 24 rfl (by decide) (.int .i64 ((lf - x.size : Nat) : Int)) (by intro a' F'; have h18 := F'.at' 18 _ rfl; have h23 := F'.at' 23 _ rfl; go_simp <;> (rw [IntKind.wrap_i64]; omega)) ?_
          clear F a9
          intro a9 F
          refine fr_ch F 1 [(3, .int .i64 ((lf - x.size : Nat) : Int))] (by kernel_rfl) ?_
          clear F a9
          intro a9 F
          refine wpList_nil ?_
          exact ⟨lf - x.size, ((((FrL.nil F.size F.defers).add 0 _ (F.at' 0 _ rfl)).add 3 _ (F.at' 3 _ rfl)).add 4 _ (F.at' 4 _ rfl)), rfl, by omega⟩
      · clear F a9
        rintro a9 w7 ⟨lf, F, rfl, hs2⟩
        show Code.wp _ _ _ _ _
        refine wp_region_lit ?_
        refine fr_ch F 1 [(9, .int .i64 (k : Int))] (by kernel_rfl) ?_
        clear F a9
        intro a9 F
        refine fr_do F (wanted_free rfl) 10 rfl (by decide) (.int .i64 ((k + 1 : Nat) : Int)) (by intro a' F'; have h9 := F'.at' 9 _ rfl; go_simp <;> (rw [IntKind.wrap_i64]; omega)) ?_
        clear F a9
        intro a9 F
        refine fr_ch F 1 [(4, .int .i64 ((k + 1 : Nat) : Int))] (by kernel_rfl) ?_
        clear F a9
        intro a9 F
        refine wpList_nil ?_
        replace F := F.cut [(4, .int .i64 ((k + 1 : Nat) : Int)), (3, .int .i64 (lf : Int)), (0, .slice a L.length c)] (by kernel_rfl)
        refine ⟨⟨k + 1, lf, F, rfl, by omega, hs2⟩, ?_⟩
        rw [muI_at F 4 (k + 1) rfl]
        omega
    · have hk2 : k = L.length := by omega
      subst hk2
      refine wp_region_lit ?_
      refine fr_ch F 3 [(7, .int .i64 (L.length : Int)), (5, .int .i64 (L.length : Int))] (by kernel_rfl) ?_
      clear F a9
      intro a9 F
      refine fr_do F (wanted_free rfl) 8 rfl (by decide) (.bool false) (by intro a' F'; have h5 := F'.at' 5 _ rfl; have h7 := F'.at' 7 _ rfl; go_simp) ?_
      clear F a9
      intro a9 F
      refine wpList_nil ?_
      show Code.wp _ _ _ _ _
      rw [List.take_length] at hs
      refine wp_cond_false (F.ev 8 rfl) ?_
      refine wp_exit ?_
      exact then_exit (then_exit (exit_in ⟨((FrL.nil F.size F.defers).add 0 _ (F.at' 0 _ rfl)), rfl, by omega⟩))
  · clear F a9
    rintro a9 w8 ⟨F, rfl, hs⟩
    show Code.wp _ _ _ _ _
    refine wp_seq ?_
    refine wp_region_lit ?_
    refine fr_ch F 2 [(26, .int .i64 (L.length : Int)), (25, .slice a L.length c)] (by kernel_rfl) ?_
    clear F a9
    intro a9 F
    refine fr_do F (wanted_free rfl) 27 rfl (by decide) (.bool (decide (200 < L.length))) (by intro a' F'; have h26 := F'.at' 26 _ rfl; go_simp <;> omega) ?_
    clear F a9
    intro a9 F
    refine fr_ch F 1 [(2, .bool (decide (200 < L.length)))] (by kernel_rfl) ?_
    clear F a9
    intro a9 F
    refine wpList_nil ?_
    show Code.wp _ _ _ _ _
    refine wp_ret ?_
    exact fr_ret1 F rfl _ rfl (FIN.out _ (by unfold greatZ; rw [decide_eq_false (by omega : ¬ 20000 < sumZ L)]; rfl))
end Go.Proofs.YtfljdlaelanliaaDoor
