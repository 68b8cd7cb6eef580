/- Small functions of law03: rest, topic, filter, awake. Conditions: the decoder's tables lie as Go lays them; a machine's bounds on the packet's sizes; its list in its cells. -/
import Derived.Test.YtfljdlaelanliaaDoorPacketCopy
import Derived.Test.YtfljdlaelanliaaDoorJoinB
namespace Go.Proofs.YtfljdlaelanliaaDoor
open Go.RowKit

set_option maxRecDepth 100000 in
set_option maxHeartbeats 1000000 in
theorem law03_rest (p : Pk) (a : Option Addr) (c : Nat) (n : Int) (w : World) (hE : Env w) (hp : PkOk p) (ha : CellsA w a (subCells p.subs)) : Calls Tryd.prog 10 #[.agg (pkV p a c), .int .i64 n] w fun e w' => e = .returned (.bool (decide (restP p = n))) ∧ Below w.heap.size w w' := by
  have HK := Lib.hid ((Keep.begin hE [(a, subCells p.subs)] (by intro r hr; simp at hr; subst hr; exact ha)).alloc' (pkV p a c) 27 w.heap.size rfl)
  have HR := Lib.hid (fun w1 hE ha => packet_Rest p a c w1 hE hp ha)
  have HRT := Lib.hid (fun w1 hE ha => packet_Right p a c w1 hE hp ha)
  generalize restP p = r at *
  clear hp ha hE
  have FIN := Lib.hid (show ∀ (b : Bool) (w' : World), decide (r = n) = b → Below w.heap.size w w' → Ending.returned (.bool b) = .returned (.bool (decide (r = n))) ∧ Below w.heap.size w w' from by rintro b w' rfl h; exact ⟨rfl, h⟩)
  by_cases h : r = n
  · have HX := Lib.hid (show decide (r = n) = true by simp [h])
    subst h
    obtain ⟨b, hb⟩ : ∃ b, decide (0 ≤ r) = b := ⟨_, rfl⟩
    rw [hb] at HRT
    cases b
    all_goals
      go_enter Tryd.func10, Tryd.ntmps10
      go_wp2_with (first
        | ((with_reducible show wpList _ _ _ (⟨_, .load 27 _, _, _, _, _⟩ :: _) _ _); refine wpList_load_box rfl 27 _ rfl _ rfl 27 _ (by (first | exact HK.out.at 0 rfl)) _ Tryd.underlying27 rfl (pk_size _ _ _) ?_)
        | ((with_reducible show wpList _ _ _ (⟨some 10, _, _, _, _, _⟩ :: _) _ _); refine wpList_load_boxG (by kernel_rfl) 27 _ rfl _ rfl 27 _ (by (first | exact HK.out.at 0 rfl)) _ Tryd.underlying27 rfl (pk_size _ _ _) ?_)
        | (go_at_call 34; refine Calls.mono (HR.out _ HK.out.env (HK.out.rowAt 0 rfl)) ?_; rintro e w1 ⟨rfl, hb1⟩; replace HK := Lib.hid (HK.out.below hb1); clear hb1)
        | (go_at_call 35; refine Calls.mono (HRT.out _ HK.out.env (HK.out.rowAt 0 rfl)) ?_; rintro e w1 ⟨rfl, hb1⟩; replace HK := Lib.hid (HK.out.below hb1); clear hb1))
      go_ret
      exact FIN.out _ _ HX.out HK.out.low
  · have HX := Lib.hid (show decide (r = n) = false by simp [h])
    have hne : (r == n) = false := beq_eq_false_iff_ne.2 h
    clear h
    go_enter Tryd.func10, Tryd.ntmps10
    go_wp2_with (first
      | ((with_reducible show wpList _ _ _ (⟨_, .load 27 _, _, _, _, _⟩ :: _) _ _); refine wpList_load_box rfl 27 _ rfl _ rfl 27 _ (by (first | exact HK.out.at 0 rfl)) _ Tryd.underlying27 rfl (pk_size _ _ _) ?_)
      | (go_at_call 34; refine Calls.mono (HR.out _ HK.out.env (HK.out.rowAt 0 rfl)) ?_; rintro e w1 ⟨rfl, hb1⟩; replace HK := Lib.hid (HK.out.below hb1); clear hb1))
    go_ret
    exact FIN.out _ _ HX.out HK.out.low

theorem cells_nil (w : World) (a : Option Addr) : CellsA w a (subCells []) := CellsA.nil _ _

def aP : Pk := { Pk.zero with ty := 3, topic := b1 [97, 47, 98], payload := b1 [104, 105], qos := 1 }
def aQ : Pk := { Pk.zero with ty := 3, topic := b1 [97, 47, 98], payload := b1 [104, 105], qos := 1, id := 7 }
def aS : Pk := { Pk.zero with ty := 8, id := 1, subs := [(b1 [97, 47, 43], 0)] }
def aC : Pk := { Pk.zero with ty := 1, level := 4, client := b1 [99] }
theorem aP_ok : PkOk aP := by constructor <;> first | decide | (intro x hx; cases hx)
theorem aQ_ok : PkOk aQ := by constructor <;> first | decide | (intro x hx; cases hx)
theorem aC_ok : PkOk aC := by constructor <;> first | decide | (intro x hx; cases hx)
theorem aS_ok : PkOk aS := by constructor <;> first | decide | (intro x hx; simp [aS] at hx; subst hx; decide)
theorem kC : decide (restP aC = 13) = true := by kernel_rfl
theorem kP : decide (restP aP = -1) = true := by kernel_rfl
theorem kQ : decide (restP aQ = 9) = true := by kernel_rfl
theorem kS : decide (restP aS = 8) = true := by kernel_rfl
theorem kSS : decide (aS = aS) = true := by simp
theorem kPQ : decide (aP = aQ) = false := by
  rw [decide_eq_false_iff_not]
  intro h
  have := congrArg Pk.id h
  simp [aP, aQ, Pk.zero] at this
theorem aPQ (a : Option Addr) (c : Nat) : (pkV aP a c).setIfInBounds 4 (.int .u16 7) = pkV aQ a c := rfl

set_option maxRecDepth 100000 in
set_option maxHeartbeats 4000000 in
theorem law03_awake (w : World) (hE : Env w) : Calls Tryd.prog 11 #[] w fun e w' => e = .returned (.bool true) ∧ Below w.heap.size w w' := by
  have rC := fun w1 hE ha => law03_rest aC none 0 13 w1 hE aC_ok ha
  have rP := fun w1 hE ha => law03_rest aP none 0 (-1) w1 hE aP_ok ha
  have rQ := fun w1 hE ha => law03_rest aQ none 0 9 w1 hE aQ_ok ha
  have rS := fun w1 a c hE ha => law03_rest aS a c 8 w1 hE aS_ok ha
  have sS := fun w1 a a' c c' hE ha hb => packet_Same aS aS a a' c c' w1 hE aS_ok aS_ok ha hb
  have sP := fun w1 hE ha hb => packet_Same aP aQ none none 0 0 w1 hE aP_ok aQ_ok ha hb
  have cS := fun w1 a c hE hc ha => packet_Copy aS a c w1 hE aS_ok hc ha
  rw [kC] at rC
  rw [kP] at rP
  rw [kQ] at rQ
  rw [kS] at rS
  rw [kSS] at sS
  rw [kPQ] at sP
  have RC := Lib.hid rC
  have RP := Lib.hid rP
  have RQ := Lib.hid rQ
  have RS := Lib.hid rS
  have SS := Lib.hid sS
  have SP := Lib.hid sP
  have CS := Lib.hid cS
  have HK := Lib.hid (Keep.begin hE [] (by intro r hr; cases hr))
  clear rC rP rQ rS sS sP cS hE
  go_enter Tryd.func11, Tryd.ntmps11
  go_wp2_with (first
    | ((with_reducible show wpList _ _ _ (⟨some 4, _, _, _, _, _⟩ :: _) _ _); refine wpList_build_to (o := ⟨some 4, _, _, _, _, _⟩) rfl 27 _ rfl (pkV aP none 0) (by kernel_rfl) ?_)
    | ((with_reducible show wpList _ _ _ (⟨some 1, .alloc 27, _, _, _, _⟩ :: _) _ _); obtain ⟨i0, z0, hi0, hz0, hs0, hc0⟩ := infoPkt; refine wpList_new rfl 27 rfl _ rfl rfl _ _ rfl rfl i0 z0 hi0 hz0 (pkV aP none 0) hs0 hc0 (pk_one _ _ _) rfl rfl ?_; replace HK := Lib.hid (HK.out.alloc (pkV aP none 0) 27); clear i0 z0 hi0 hz0 hs0 hc0; generalize hgw : World.alloc _ _ = w1 at HK ⊢; clear hgw)
    | ((with_reducible show wpList _ _ _ (⟨_, .load 27 _, _, _, _, _⟩ :: _) _ _); refine wpList_load_box rfl 27 _ rfl _ rfl 27 _ (by (first | exact HK.out.at 0 rfl | exact HK.out.at 1 rfl | exact HK.out.at 2 rfl)) _ Tryd.underlying27 rfl (pk_size _ _ _) ?_)
    | ((with_reducible show wpList _ _ _ (⟨some 2, .alloc 27, _, _, _, _⟩ :: _) _ _); obtain ⟨i0, z0, hi0, hz0, hs0, hc0⟩ := infoPkt; refine wpList_new rfl 27 rfl _ rfl rfl _ _ rfl rfl i0 z0 hi0 hz0 (pkV aP none 0) hs0 hc0 (pk_one _ _ _) rfl rfl ?_; replace HK := Lib.hid (HK.out.alloc (pkV aP none 0) 27); clear i0 z0 hi0 hz0 hs0 hc0; generalize hgw : World.alloc _ _ = w2 at HK ⊢; clear hgw; have hX := (HK.out.at 0 rfl).cells; have hF := (HK.out.at 0 rfl).frozen)
    | ((with_reducible show wpList _ _ _ (⟨some 8, .buildSlice _ _ _, _, _, _, _⟩ :: _) _ _); clear hX hF; replace HK := Lib.hid (HK.out.set (i := 0) rfl 4 _ (aPQ none 0)); generalize hgw : World.setCell _ _ _ = w3 at HK ⊢; clear hgw; refine Great.wpList_buildSliceTo rfl 25 31 1 _ rfl _ rfl _ rfl Tryd.underlying25 (List.toArray (subCells [(b1 [97, 47, 43], 0)])) (by kernel_rfl) ?_; replace HK := Lib.hid (HK.out.allocRow (subCells [(b1 [97, 47, 43], 0)]) 31); generalize hgw : World.alloc _ _ = w4 at HK ⊢; clear hgw)
    | ((with_reducible show wpList _ _ _ (⟨some 9, _, _, _, _, _⟩ :: _) _ _); refine wpList_build_to (o := ⟨some 9, _, _, _, _, _⟩) rfl 27 _ rfl (pkV aS (some ⟨w3.heap.size, 0, none⟩) 1) (by kernel_rfl) ?_)
    | ((with_reducible show wpList _ _ _ (⟨some 3, .alloc 27, _, _, _, _⟩ :: _) _ _); obtain ⟨i0, z0, hi0, hz0, hs0, hc0⟩ := infoPkt; refine wpList_new rfl 27 rfl _ rfl rfl _ _ rfl rfl i0 z0 hi0 hz0 (pkV aS (some ⟨w3.heap.size, 0, none⟩) 1) hs0 hc0 (pk_one _ _ _) rfl rfl ?_; replace HK := Lib.hid (HK.out.alloc (pkV aS (some ⟨w3.heap.size, 0, none⟩) 1) 27); clear i0 z0 hi0 hz0 hs0 hc0; generalize hgw : World.alloc _ _ = w5 at HK ⊢; clear hgw))
  refine wp_region_noPanic ?_
  refine wp_region_held_drew (S := fun w' => Keep w [(w4.heap.size, pkV aS (some ⟨w3.heap.size, 0, none⟩) 1, 27), (w1.heap.size, pkV aQ none 0, 27), (w.heap.size, pkV aP none 0, 27)] [(some ⟨w3.heap.size, 0, none⟩, subCells [(b1 [97, 47, 43], 0)])] w') (by kernel_rfl) ?_ (fun hHeld => ?_)
  · (first | exact HK.out | exact HK.out.drew | exact HK.out.drewN _)
  replace HK := Lib.hid hHeld
  refine wpAnyH_take (i := 0) (oi := ⟨some 10, _, _, _, _, _⟩) (v := .agg (pkV aC none 0)) rfl (by kernel_rfl) (by kernel_rfl) (by kernel_rfl) (fun _ _ _ h => h) (yields_build (by kernel_rfl) 27 _ rfl _ (by kernel_rfl)) (by assumption) ?_
  try simp only [Act.put, List.setIfInBounds_toArray, List.set_cons_zero, List.set_cons_succ]
  refine wpAnyH_ready (rs := [1]) (by kernel_rfl) (by simp) ?_
  refine AllReadyH.cons (o := ⟨some 11, _, _, _, _, _⟩) rfl (fun K hK => ?_) AllReadyH.nil
  go_simp
  (go_at_call 10; refine Calls.mono (RC.out _ HK.out.env (cells_nil _ _)) ?_; rintro e w9 ⟨rfl, hb1⟩; replace HK := Lib.hid (HK.out.below hb1); clear hb1; go_simp)
  refine hK.out _ _ ?_ (fun hHeld => ?_)
  · (first | exact HK.out | exact HK.out.drew | exact HK.out.drewN _)
  clear hK K hHeld
  have hHeld := HK.out
  try simp only [Act.put, List.setIfInBounds_toArray, List.set_cons_zero, List.set_cons_succ]
  refine wpAnyH_take (i := 2) (oi := ⟨some 12, _, _, _, _, _⟩) (v := ?_) rfl (by kernel_rfl) (by kernel_rfl) (by kernel_rfl) (fun _ _ _ h => h) (Or.inl ⟨by rfl, ?_⟩) (by assumption) ?_
  rotate_left
  · (intro w hSw; (try dsimp only at hSw); go_simp; try with_reducible rfl)
  try simp only [Act.put, List.setIfInBounds_toArray, List.set_cons_zero, List.set_cons_succ]
  refine wpAnyH_take (i := 3) (oi := ⟨some 13, _, _, _, _, _⟩) (v := .agg _) rfl (by kernel_rfl) (by kernel_rfl) (by kernel_rfl) (fun _ _ _ h => h) (yields_load_box (by kernel_rfl) 27 _ rfl _ rfl 27 _ _ (fun w h => Keep.at h 2 rfl) Tryd.underlying27 rfl (pk_size _ _ _)) (by assumption) ?_
  try simp only [Act.put, List.setIfInBounds_toArray, List.set_cons_zero, List.set_cons_succ]
  refine wpAnyH_ready (rs := [4]) (by kernel_rfl) (by simp) ?_
  refine AllReadyH.cons (o := ⟨some 14, _, _, _, _, _⟩) rfl (fun K hK => ?_) AllReadyH.nil
  go_simp
  (go_at_call 10; refine Calls.mono (RP.out _ HK.out.env (cells_nil _ _)) ?_; rintro e w9 ⟨rfl, hb1⟩; replace HK := Lib.hid (HK.out.below hb1); clear hb1; go_simp)
  refine hK.out _ _ ?_ (fun hHeld => ?_)
  · (first | exact HK.out | exact HK.out.drew | exact HK.out.drewN _)
  clear hK K hHeld
  have hHeld := HK.out
  try simp only [Act.put, List.setIfInBounds_toArray, List.set_cons_zero, List.set_cons_succ]
  refine wpAnyH_take (i := 5) (oi := ⟨some 15, _, _, _, _, _⟩) (v := ?_) rfl (by kernel_rfl) (by kernel_rfl) (by kernel_rfl) (fun _ _ _ h => h) (Or.inl ⟨by rfl, ?_⟩) (by assumption) ?_
  rotate_left
  · (intro w hSw; (try dsimp only at hSw); go_simp; try with_reducible rfl)
  try simp only [Act.put, List.setIfInBounds_toArray, List.set_cons_zero, List.set_cons_succ]
  refine wpAnyH_take (i := 6) (oi := ⟨some 16, _, _, _, _, _⟩) (v := ?_) rfl (by kernel_rfl) (by kernel_rfl) (by kernel_rfl) (fun _ _ _ h => h) (Or.inl ⟨by rfl, ?_⟩) (by assumption) ?_
  rotate_left
  · (intro w hSw; (try dsimp only at hSw); go_simp; try with_reducible rfl)
  try simp only [Act.put, List.setIfInBounds_toArray, List.set_cons_zero, List.set_cons_succ]
  refine wpAnyH_take (i := 7) (oi := ⟨some 17, _, _, _, _, _⟩) (v := .agg _) rfl (by kernel_rfl) (by kernel_rfl) (by kernel_rfl) (fun _ _ _ h => h) (yields_load_box (by kernel_rfl) 27 _ rfl _ rfl 27 _ _ (fun w h => Keep.at h 1 rfl) Tryd.underlying27 rfl (pk_size _ _ _)) (by assumption) ?_
  try simp only [Act.put, List.setIfInBounds_toArray, List.set_cons_zero, List.set_cons_succ]
  refine wpAnyH_ready (rs := [8]) (by kernel_rfl) (by simp) ?_
  refine AllReadyH.cons (o := ⟨some 18, _, _, _, _, _⟩) rfl (fun K hK => ?_) AllReadyH.nil
  go_simp
  (go_at_call 10; refine Calls.mono (RQ.out _ HK.out.env (cells_nil _ _)) ?_; rintro e w9 ⟨rfl, hb1⟩; replace HK := Lib.hid (HK.out.below hb1); clear hb1; go_simp)
  refine hK.out _ _ ?_ (fun hHeld => ?_)
  · (first | exact HK.out | exact HK.out.drew | exact HK.out.drewN _)
  clear hK K hHeld
  have hHeld := HK.out
  try simp only [Act.put, List.setIfInBounds_toArray, List.set_cons_zero, List.set_cons_succ]
  refine wpAnyH_take (i := 9) (oi := ⟨some 19, _, _, _, _, _⟩) (v := ?_) rfl (by kernel_rfl) (by kernel_rfl) (by kernel_rfl) (fun _ _ _ h => h) (Or.inl ⟨by rfl, ?_⟩) (by assumption) ?_
  rotate_left
  · (intro w hSw; (try dsimp only at hSw); go_simp; try with_reducible rfl)
  try simp only [Act.put, List.setIfInBounds_toArray, List.set_cons_zero, List.set_cons_succ]
  refine wpAnyH_take (i := 10) (oi := ⟨some 20, _, _, _, _, _⟩) (v := ?_) rfl (by kernel_rfl) (by kernel_rfl) (by kernel_rfl) (fun _ _ _ h => h) (Or.inl ⟨by rfl, ?_⟩) (by assumption) ?_
  rotate_left
  · (intro w hSw; (try dsimp only at hSw); go_simp; try with_reducible rfl)
  try simp only [Act.put, List.setIfInBounds_toArray, List.set_cons_zero, List.set_cons_succ]
  refine wpAnyH_take (i := 11) (oi := ⟨some 21, _, _, _, _, _⟩) (v := .agg _) rfl (by kernel_rfl) (by kernel_rfl) (by kernel_rfl) (fun _ _ _ h => h) (yields_load_box (by kernel_rfl) 27 _ rfl _ rfl 27 _ _ (fun w h => Keep.at h 0 rfl) Tryd.underlying27 rfl (pk_size _ _ _)) (by assumption) ?_
  try simp only [Act.put, List.setIfInBounds_toArray, List.set_cons_zero, List.set_cons_succ]
  refine wpAnyH_ready (rs := [12]) (by kernel_rfl) (by simp) ?_
  refine AllReadyH.cons (o := ⟨some 22, _, _, _, _, _⟩) rfl (fun K hK => ?_) AllReadyH.nil
  go_simp
  (go_at_call 10; refine Calls.mono (RS.out _ _ _ HK.out.env (HK.out.rowAt 0 rfl)) ?_; rintro e w9 ⟨rfl, hb1⟩; replace HK := Lib.hid (HK.out.below hb1); clear hb1; go_simp)
  refine hK.out _ _ ?_ (fun hHeld => ?_)
  · (first | exact HK.out | exact HK.out.drew | exact HK.out.drewN _)
  clear hK K hHeld
  have hHeld := HK.out
  try simp only [Act.put, List.setIfInBounds_toArray, List.set_cons_zero, List.set_cons_succ]
  refine wpAnyH_take (i := 13) (oi := ⟨some 23, _, _, _, _, _⟩) (v := ?_) rfl (by kernel_rfl) (by kernel_rfl) (by kernel_rfl) (fun _ _ _ h => h) (Or.inl ⟨by rfl, ?_⟩) (by assumption) ?_
  rotate_left
  · (intro w hSw; (try dsimp only at hSw); go_simp; try with_reducible rfl)
  try simp only [Act.put, List.setIfInBounds_toArray, List.set_cons_zero, List.set_cons_succ]
  refine wpAnyH_take (i := 14) (oi := ⟨some 24, _, _, _, _, _⟩) (v := ?_) rfl (by kernel_rfl) (by kernel_rfl) (by kernel_rfl) (fun _ _ _ h => h) (Or.inl ⟨by rfl, ?_⟩) (by assumption) ?_
  rotate_left
  · (intro w hSw; (try dsimp only at hSw); go_simp; try with_reducible rfl)
  try simp only [Act.put, List.setIfInBounds_toArray, List.set_cons_zero, List.set_cons_succ]
  refine wpAnyH_take (i := 15) (oi := ⟨some 25, _, _, _, _, _⟩) (v := .agg _) rfl (by kernel_rfl) (by kernel_rfl) (by kernel_rfl) (fun _ _ _ h => h) (yields_load_box (by kernel_rfl) 27 _ rfl _ rfl 27 _ _ (fun w h => Keep.at h 0 rfl) Tryd.underlying27 rfl (pk_size _ _ _)) (by assumption) ?_
  try simp only [Act.put, List.setIfInBounds_toArray, List.set_cons_zero, List.set_cons_succ]
  refine wpAnyH_take (i := 16) (oi := ⟨some 26, _, _, _, _, _⟩) (v := .agg _) rfl (by kernel_rfl) (by kernel_rfl) (by kernel_rfl) (fun _ _ _ h => h) (yields_load_box (by kernel_rfl) 27 _ rfl _ rfl 27 _ _ (fun w h => Keep.at h 0 rfl) Tryd.underlying27 rfl (pk_size _ _ _)) (by assumption) ?_
  try simp only [Act.put, List.setIfInBounds_toArray, List.set_cons_zero, List.set_cons_succ]
  refine wpAnyH_ready (rs := [17]) (by kernel_rfl) (by simp) ?_
  refine AllReadyH.cons (o := ⟨some 27, _, _, _, _, _⟩) rfl (fun K hK => ?_) AllReadyH.nil
  go_simp
  (go_at_call 33; refine Calls.mono (CS.out _ _ _ HK.out.env (by intro h; cases h) (HK.out.rowAt 0 rfl)) ?_; rintro e w9 ⟨a9, c9, rfl, hown, hb1⟩; replace HK := Lib.hid (HK.out.below hb1); clear hb1; have HCP := Lib.hid (own_cells hown); clear hown; go_simp)
  refine hK.out _ _ ?_ (fun hHeld => ?_)
  · (first | exact HK.out | exact HK.out.drew | exact HK.out.drewN _)
  clear hK K hHeld
  have hHeld := HK.out
  try simp only [Act.put, List.setIfInBounds_toArray, List.set_cons_zero, List.set_cons_succ]
  refine wpAnyH_ready (rs := [18]) (by kernel_rfl) (by simp) ?_
  refine AllReadyH.cons (o := ⟨some 28, _, _, _, _, _⟩) rfl (fun K hK => ?_) AllReadyH.nil
  go_simp
  (go_at_call 36; refine Calls.mono (SS.out _ _ _ _ _ HK.out.env (HK.out.rowAt 0 rfl) HCP.out) ?_; rintro e w9 ⟨rfl, hb1⟩; replace HK := Lib.hid (HK.out.below hb1); clear hb1; go_simp)
  refine hK.out _ _ ?_ (fun hHeld => ?_)
  · (first | exact HK.out | exact HK.out.drew | exact HK.out.drewN _)
  clear hK K hHeld
  have hHeld := HK.out
  try simp only [Act.put, List.setIfInBounds_toArray, List.set_cons_zero, List.set_cons_succ]
  refine wpAnyH_take (i := 19) (oi := ⟨some 29, _, _, _, _, _⟩) (v := ?_) rfl (by kernel_rfl) (by kernel_rfl) (by kernel_rfl) (fun _ _ _ h => h) (Or.inl ⟨by rfl, ?_⟩) (by assumption) ?_
  rotate_left
  · (intro w hSw; (try dsimp only at hSw); go_simp; try with_reducible rfl)
  try simp only [Act.put, List.setIfInBounds_toArray, List.set_cons_zero, List.set_cons_succ]
  refine wpAnyH_take (i := 20) (oi := ⟨some 30, _, _, _, _, _⟩) (v := ?_) rfl (by kernel_rfl) (by kernel_rfl) (by kernel_rfl) (fun _ _ _ h => h) (Or.inl ⟨by rfl, ?_⟩) (by assumption) ?_
  rotate_left
  · (intro w hSw; (try dsimp only at hSw); go_simp; try with_reducible rfl)
  try simp only [Act.put, List.setIfInBounds_toArray, List.set_cons_zero, List.set_cons_succ]
  refine wpAnyH_take (i := 21) (oi := ⟨some 31, _, _, _, _, _⟩) (v := .agg _) rfl (by kernel_rfl) (by kernel_rfl) (by kernel_rfl) (fun _ _ _ h => h) (yields_load_box (by kernel_rfl) 27 _ rfl _ rfl 27 _ _ (fun w h => Keep.at h 2 rfl) Tryd.underlying27 rfl (pk_size _ _ _)) (by assumption) ?_
  try simp only [Act.put, List.setIfInBounds_toArray, List.set_cons_zero, List.set_cons_succ]
  refine wpAnyH_take (i := 22) (oi := ⟨some 32, _, _, _, _, _⟩) (v := .agg _) rfl (by kernel_rfl) (by kernel_rfl) (by kernel_rfl) (fun _ _ _ h => h) (yields_load_box (by kernel_rfl) 27 _ rfl _ rfl 27 _ _ (fun w h => Keep.at h 1 rfl) Tryd.underlying27 rfl (pk_size _ _ _)) (by assumption) ?_
  try simp only [Act.put, List.setIfInBounds_toArray, List.set_cons_zero, List.set_cons_succ]
  refine wpAnyH_ready (rs := [23]) (by kernel_rfl) (by simp) ?_
  refine AllReadyH.cons (o := ⟨some 33, _, _, _, _, _⟩) rfl (fun K hK => ?_) AllReadyH.nil
  go_simp
  (go_at_call 36; refine Calls.mono (SP.out _ HK.out.env (cells_nil _ _) (cells_nil _ _)) ?_; rintro e w9 ⟨rfl, hb1⟩; replace HK := Lib.hid (HK.out.below hb1); clear hb1; go_simp)
  refine hK.out _ _ ?_ (fun hHeld => ?_)
  · (first | exact HK.out | exact HK.out.drew | exact HK.out.drewN _)
  clear hK K hHeld
  have hHeld := HK.out
  try simp only [Act.put, List.setIfInBounds_toArray, List.set_cons_zero, List.set_cons_succ]
  refine wpAnyH_take (i := 24) (oi := ⟨some 34, _, _, _, _, _⟩) (v := ?_) rfl (by kernel_rfl) (by kernel_rfl) (by kernel_rfl) (fun _ _ _ h => h) (Or.inl ⟨by rfl, ?_⟩) (by assumption) ?_
  rotate_left
  · (intro w hSw; (try dsimp only at hSw); go_simp; try with_reducible rfl)
  try simp only [Act.put, List.setIfInBounds_toArray, List.set_cons_zero, List.set_cons_succ]
  refine wpAnyH_take (i := 25) (oi := ⟨some 35, _, _, _, _, _⟩) (v := ?_) rfl (by kernel_rfl) (by kernel_rfl) (by kernel_rfl) (fun _ _ _ h => h) (Or.inl ⟨by rfl, ?_⟩) (by assumption) ?_
  rotate_left
  · (intro w hSw; (try dsimp only at hSw); go_simp; try with_reducible rfl)
  try simp only [Act.put, List.setIfInBounds_toArray, List.set_cons_zero, List.set_cons_succ]
  refine wpAnyH_take (i := 26) (oi := ⟨some 0, _, _, _, _, _⟩) (v := ?_) rfl (by kernel_rfl) (by kernel_rfl) (by kernel_rfl) (fun _ _ _ h => h) (Or.inl ⟨by rfl, ?_⟩) (by assumption) ?_
  rotate_left
  · (intro w hSw; (try dsimp only at hSw); go_simp; try with_reducible rfl)
  try simp only [Act.put, List.setIfInBounds_toArray, List.set_cons_zero]
  refine wpAnyH_done (by kernel_rfl) ?_ _
  refine NoPanic.normal ?_
  go_wp2_with fail
  go_ret
  exact ⟨rfl, HK.out.low⟩
end Go.Proofs.YtfljdlaelanliaaDoor
