/- The walk of PacketRight. Conditions: the decoder's tables lie as Go lays them; the packet's list in its cells. -/
import Derived.Test.YtkphaihbdmjogaaDoorRefRight
import Derived.Test.YtkphaihbdmjogaaDoorLaw03Great
import Derived.Test.YtkphaihbdmjogaaDoorCardPk
namespace Go.Proofs.YtkphaihbdmjogaaDoor
open Go.RowKit
set_option maxRecDepth 100000 in
set_option maxHeartbeats 4000000 in
theorem law03_PacketRight (p : Pk) (a : Option Addr) (c : Nat) (w : World) (hE : Env w) (hq : PkArg w p a c) : Calls Tryd.prog 4 #[.agg (pkV p a c)] w fun e w' => e = .returned (.bool true) ∧ Below w.heap.size w w' := by
  have ht := hq.ty
  have ha := hq.row
  clear hq
  have HK := Lib.hid ((Keep.begin hE [(a, subCells p.subs)] (by intro r hr; simp at hr; subst hr; exact ha)).alloc' (pkV p a c) 27 w.heap.size rfl)
  have hG := fun w1 ha => law03_Great p a c w1 ha
  clear hE ha
  obtain ⟨g, hg⟩ : ∃ g, greatB p = g := ⟨_, rfl⟩
  rw [hg] at hG
  have HG := Lib.hid hG
  clear hG
  cases g
  · have hp := (small_of hg).ok ht
    have h1 := fun w1 hE ha => packet_Right p a c w1 hE hp ha
    have h2 := fun w1 hE ha => ref03_Right p a c w1 hE hp ha
    have h3 := fun w1 hE ha => packet_Rest p a c w1 hE hp ha
    have h4 := fun w1 hE ha => ref03_Rest p a c w1 hE hp ha
    rw [(right_rest p hp).1] at h2
    generalize decide (0 ≤ restP p) = e at *
    generalize restP p = n at *
    have H1 := Lib.hid h1
    have H2 := Lib.hid h2
    have H3 := Lib.hid h3
    have H4 := Lib.hid h4
    clear h1 h2 h3 h4 hp ht hg
    go_enter Tryd.func4, Tryd.ntmps4
    go_upto_region 3 with (first
        | ((with_reducible show wpList _ _ _ (⟨some 3, _, _, _, _, _⟩ :: _) _ _); refine wpList_load_box rfl 27 _ rfl _ rfl 27 _ (HK.out.at 0 rfl) _ Tryd.underlying27 rfl (pk_size _ _ _) ?_)
        | (go_at_call 17; refine Calls.mono (HG.out _ (HK.out.rowAt 0 rfl)) ?_; rintro e w1 ⟨rfl, hb1⟩; replace HK := Lib.hid (HK.out.below hb1); clear hb1))
    refine wp_region_noPanic ?_
    refine wp_region_held_drew (S := fun w' => Keep w [(w.heap.size, pkV p a c, 27)] [(a, subCells p.subs)] w') (by kernel_rfl) ?_ (fun hHeld => ?_)
    · (first | exact HK.out | exact HK.out.drew | exact HK.out.drewN _)
    replace HK := Lib.hid hHeld
    refine wpAnyH_take (i := 0) (oi := ⟨some 6, _, _, _, _, _⟩) (v := .agg _) rfl (by kernel_rfl) (by kernel_rfl) (by kernel_rfl) (fun _ _ _ h => h) (yields_load_box (by kernel_rfl) 27 _ rfl _ rfl 27 _ _ (fun w h => Keep.at h 0 rfl) Tryd.underlying27 rfl (pk_size _ _ _)) (by assumption) ?_
    try simp only [Act.put, List.setIfInBounds_toArray, List.set_cons_zero, List.set_cons_succ]
    refine wpAnyH_take (i := 2) (oi := ⟨some 8, _, _, _, _, _⟩) (v := .agg _) rfl (by kernel_rfl) (by kernel_rfl) (by kernel_rfl) (fun _ _ _ h => h) (yields_load_box (by kernel_rfl) 27 _ rfl _ rfl 27 _ _ (fun w h => Keep.at h 0 rfl) Tryd.underlying27 rfl (pk_size _ _ _)) (by assumption) ?_
    try simp only [Act.put, List.setIfInBounds_toArray, List.set_cons_zero, List.set_cons_succ]
    refine wpAnyH_ready (rs := [1]) (by kernel_rfl) (by simp) ?_
    refine AllReadyH.cons (o := ⟨some 7, _, _, _, _, _⟩) rfl (fun K hK => ?_) AllReadyH.nil
    go_simp
    (go_at_call 18; refine Calls.mono (H1.out _ HK.out.env (HK.out.rowAt 0 rfl)) ?_; rintro e w9 ⟨rfl, hb1⟩; replace HK := Lib.hid (HK.out.below hb1); clear hb1; go_simp)
    refine hK.out _ _ ?_ (fun hHeld => ?_)
    · (first | exact HK.out | exact HK.out.drew | exact HK.out.drewN _)
    clear hK K hHeld
    have hHeld := HK.out
    try simp only [Act.put, List.setIfInBounds_toArray, List.set_cons_zero, List.set_cons_succ]
    refine wpAnyH_ready (rs := [3]) (by kernel_rfl) (by simp) ?_
    refine AllReadyH.cons (o := ⟨some 9, _, _, _, _, _⟩) rfl (fun K hK => ?_) AllReadyH.nil
    go_simp
    (go_at_call 19; refine Calls.mono (H2.out _ HK.out.env (HK.out.rowAt 0 rfl)) ?_; rintro e w9 ⟨rfl, hb1⟩; replace HK := Lib.hid (HK.out.below hb1); clear hb1; go_simp)
    refine hK.out _ _ ?_ (fun hHeld => ?_)
    · (first | exact HK.out | exact HK.out.drew | exact HK.out.drewN _)
    clear hK K hHeld
    have hHeld := HK.out
    try simp only [Act.put, List.setIfInBounds_toArray, List.set_cons_zero, List.set_cons_succ]
    refine wpAnyH_take (i := 4) (oi := ⟨some 10, _, _, _, _, _⟩) (v := ?_) rfl (by kernel_rfl) (by kernel_rfl) (by kernel_rfl) (fun _ _ _ h => h) (Or.inl ⟨by rfl, ?_⟩) (by assumption) ?_
    rotate_left
    · (intro w hSw; (try dsimp only at hSw); go_simp; try with_reducible rfl)
    try simp only [Act.put, List.setIfInBounds_toArray, List.set_cons_zero, List.set_cons_succ]
    refine wpAnyH_take (i := 5) (oi := ⟨some 11, _, _, _, _, _⟩) (v := ?_) rfl (by kernel_rfl) (by kernel_rfl) (by kernel_rfl) (fun _ _ _ h => h) (Or.inl ⟨by rfl, ?_⟩) (by assumption) ?_
    rotate_left
    · (intro w hSw; (try dsimp only at hSw); go_simp; try with_reducible rfl)
    try simp only [Act.put, List.setIfInBounds_toArray, List.set_cons_zero, List.set_cons_succ]
    refine wpAnyH_take (i := 6) (oi := ⟨some 12, _, _, _, _, _⟩) (v := .agg _) rfl (by kernel_rfl) (by kernel_rfl) (by kernel_rfl) (fun _ _ _ h => h) (yields_load_box (by kernel_rfl) 27 _ rfl _ rfl 27 _ _ (fun w h => Keep.at h 0 rfl) Tryd.underlying27 rfl (pk_size _ _ _)) (by assumption) ?_
    try simp only [Act.put, List.setIfInBounds_toArray, List.set_cons_zero, List.set_cons_succ]
    refine wpAnyH_take (i := 8) (oi := ⟨some 14, _, _, _, _, _⟩) (v := .agg _) rfl (by kernel_rfl) (by kernel_rfl) (by kernel_rfl) (fun _ _ _ h => h) (yields_load_box (by kernel_rfl) 27 _ rfl _ rfl 27 _ _ (fun w h => Keep.at h 0 rfl) Tryd.underlying27 rfl (pk_size _ _ _)) (by assumption) ?_
    try simp only [Act.put, List.setIfInBounds_toArray, List.set_cons_zero, List.set_cons_succ]
    refine wpAnyH_ready (rs := [7]) (by kernel_rfl) (by simp) ?_
    refine AllReadyH.cons (o := ⟨some 13, _, _, _, _, _⟩) rfl (fun K hK => ?_) AllReadyH.nil
    go_simp
    (go_at_call 20; refine Calls.mono (H3.out _ HK.out.env (HK.out.rowAt 0 rfl)) ?_; rintro e w9 ⟨rfl, hb1⟩; replace HK := Lib.hid (HK.out.below hb1); clear hb1; go_simp)
    refine hK.out _ _ ?_ (fun hHeld => ?_)
    · (first | exact HK.out | exact HK.out.drew | exact HK.out.drewN _)
    clear hK K hHeld
    have hHeld := HK.out
    try simp only [Act.put, List.setIfInBounds_toArray, List.set_cons_zero, List.set_cons_succ]
    refine wpAnyH_ready (rs := [9]) (by kernel_rfl) (by simp) ?_
    refine AllReadyH.cons (o := ⟨some 15, _, _, _, _, _⟩) rfl (fun K hK => ?_) AllReadyH.nil
    go_simp
    (go_at_call 21; refine Calls.mono (H4.out _ HK.out.env (HK.out.rowAt 0 rfl)) ?_; rintro e w9 ⟨rfl, hb1⟩; replace HK := Lib.hid (HK.out.below hb1); clear hb1; go_simp)
    refine hK.out _ _ ?_ (fun hHeld => ?_)
    · (first | exact HK.out | exact HK.out.drew | exact HK.out.drewN _)
    clear hK K hHeld
    have hHeld := HK.out
    try simp only [Act.put, List.setIfInBounds_toArray, List.set_cons_zero, List.set_cons_succ]
    refine wpAnyH_take (i := 10) (oi := ⟨some 16, _, _, _, _, _⟩) (v := ?_) rfl (by kernel_rfl) (by kernel_rfl) (by kernel_rfl) (fun _ _ _ h => h) (Or.inl ⟨by rfl, ?_⟩) (by assumption) ?_
    rotate_left
    · (intro w hSw; (try dsimp only at hSw); go_simp; try with_reducible rfl)
    try simp only [Act.put, List.setIfInBounds_toArray, List.set_cons_zero, List.set_cons_succ]
    refine wpAnyH_take (i := 11) (oi := ⟨some 17, _, _, _, _, _⟩) (v := ?_) rfl (by kernel_rfl) (by kernel_rfl) (by kernel_rfl) (fun _ _ _ h => h) (Or.inl ⟨by rfl, ?_⟩) (by assumption) ?_
    rotate_left
    · (intro w hSw; (try dsimp only at hSw); go_simp; try with_reducible rfl)
    try simp only [Act.put, List.setIfInBounds_toArray, List.set_cons_zero, List.set_cons_succ]
    refine wpAnyH_take (i := 12) (oi := ⟨some 18, _, _, _, _, _⟩) (v := ?_) rfl (by kernel_rfl) (by kernel_rfl) (by kernel_rfl) (fun _ _ _ h => h) (Or.inl ⟨by rfl, ?_⟩) (by assumption) ?_
    rotate_left
    · (intro w hSw; (try dsimp only at hSw); go_simp; try with_reducible rfl)
    try simp only [Act.put, List.setIfInBounds_toArray, List.set_cons_zero, List.set_cons_succ]
    refine wpAnyH_ready (rs := [13]) (by kernel_rfl) (by simp) ?_
    refine AllReadyH.cons (o := ⟨some 19, _, _, _, _, _⟩) rfl (fun K hK => ?_) AllReadyH.nil
    go_simp
    (go_at_call 16; refine Calls.mono (law03_awake _ HK.out.env) ?_; rintro e w9 ⟨rfl, hb1⟩; replace HK := Lib.hid (HK.out.below hb1); clear hb1; go_simp)
    refine hK.out _ _ ?_ (fun hHeld => ?_)
    · (first | exact HK.out | exact HK.out.drew | exact HK.out.drewN _)
    clear hK K hHeld
    have hHeld := HK.out
    try simp only [Act.put, List.setIfInBounds_toArray, List.set_cons_zero, List.set_cons_succ]
    refine wpAnyH_take (i := 14) (oi := ⟨some 20, _, _, _, _, _⟩) (v := ?_) rfl (by kernel_rfl) (by kernel_rfl) (by kernel_rfl) (fun _ _ _ h => h) (Or.inl ⟨by rfl, ?_⟩) (by assumption) ?_
    rotate_left
    · (intro w hSw; (try dsimp only at hSw); go_simp; try with_reducible rfl)
    try simp only [Act.put, List.setIfInBounds_toArray, List.set_cons_zero, List.set_cons_succ]
    refine wpAnyH_take (i := 15) (oi := ⟨some 2, _, _, _, _, _⟩) (v := ?_) rfl (by kernel_rfl) (by kernel_rfl) (by kernel_rfl) (fun _ _ _ h => h) (Or.inl ⟨by rfl, ?_⟩) (by assumption) ?_
    rotate_left
    · (intro w hSw; (try dsimp only at hSw); go_simp; try with_reducible rfl)
    try simp only [Act.put, List.setIfInBounds_toArray, List.set_cons_zero, List.set_cons_succ]
    refine wpAnyH_done (by kernel_rfl) ?_ _
    refine NoPanic.normal ?_

    go_wp2_with fail
    go_ret
    exact ⟨rfl, HK.out.low⟩
  · go_enter Tryd.func4, Tryd.ntmps4
    go_wp2_with (first
        | ((with_reducible show wpList _ _ _ (⟨some 3, _, _, _, _, _⟩ :: _) _ _); refine wpList_load_box rfl 27 _ rfl _ rfl 27 _ (HK.out.at 0 rfl) _ Tryd.underlying27 rfl (pk_size _ _ _) ?_)
        | (go_at_call 17; refine Calls.mono (HG.out _ (HK.out.rowAt 0 rfl)) ?_; rintro e w1 ⟨rfl, hb1⟩; replace HK := Lib.hid (HK.out.below hb1); clear hb1)
        | (go_at_call 16; refine Calls.mono (law03_awake _ HK.out.env) ?_; rintro e w1 ⟨rfl, hb1⟩; replace HK := Lib.hid (HK.out.below hb1); clear hb1))
    go_ret
    exact ⟨rfl, HK.out.low⟩
end Go.Proofs.YtkphaihbdmjogaaDoor
