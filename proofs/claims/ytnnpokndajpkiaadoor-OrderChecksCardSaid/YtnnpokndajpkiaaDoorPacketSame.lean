import Derived.Test.YtnnpokndajpkiaaDoorPacketBare
import Derived.Test.YtnnpokndajpkiaaDoorJoinB
import Derived.Test.YtnnpokndajpkiaaDoorJoinC
namespace Go.Proofs.YtnnpokndajpkiaaDoor
open Go.RowKit
theorem same_bare (p q : Pk) : decide (p = q) = (decide (p.bare = q.bare) && decide (p.subs = q.subs)) := by
  rw [Bool.eq_iff_iff, Bool.and_eq_true, decide_eq_true_eq, decide_eq_true_eq, decide_eq_true_eq]; constructor
  · rintro rfl; exact ⟨rfl, rfl⟩
  · rintro ⟨h1, h2⟩
    have e : ∀ r : Pk, r = { r.bare with subs := r.subs } := fun r => rfl
    rw [e p, e q, h1, h2]
theorem drop_same' (A B : List Sb) (k : Nat) (x y : Sb) (hx : A[k]? = some x) (hy : B[k]? = some y) : decide (A.drop k = B.drop k) = (decide (x = y) && decide (A.drop (k + 1) = B.drop (k + 1))) := by
  obtain ⟨h2, h3⟩ := List.getElem?_eq_some_iff.1 hx; obtain ⟨h4, h5⟩ := List.getElem?_eq_some_iff.1 hy; simp only [List.drop_eq_getElem_cons h2, h3, List.drop_eq_getElem_cons h4, h5, List.cons.injEq, Bool.decide_and]
set_option maxRecDepth 100000 in
set_option maxHeartbeats 4000000 in
theorem packet_Same (p q : Pk) (a a' : Option Addr) (c c' : Nat) (w : World) (hE : Env w) (hp : PkOk p) (hq : PkOk q) (ha : CellsA w a (subCells p.subs)) (hb : CellsA w a' (subCells q.subs)) :
    Calls Tryd.prog 49 #[.agg (pkV p a c), .agg (pkV q a' c')] w fun e w' => e = .returned (.bool (decide (p = q))) ∧ Below w.heap.size w w' := by
  have HK := Lib.hid (((Keep.begin hE [(a, subCells p.subs), (a', subCells q.subs)] (by intro r hr; simp at hr; rcases hr with rfl | rfl; exact ha; exact hb)).alloc' (pkV p a c) 40 w.heap.size rfl).alloc' (pkV q a' c') 40 (w.heap.size + 1) (by simp)); have hfe := fun w => (flat_eq p q hp hq w).2
  have FIN := Lib.hid (show ∀ (b : Bool) (w' : World), decide (p = q) = b → Below w.heap.size w w' → Ending.returned (.bool b) = .returned (.bool (decide (p = q))) ∧ Below w.heap.size w w' from by rintro b w' rfl h; exact ⟨rfl, h⟩); have hfew := hp.few; clear hp hq hE ha hb; obtain ⟨k0, k1, k2, k3, k4, k5, k6, k7, k8, k9, k10, k11, k12, k13, k14, k15, k16, k17, k18, k19, k20, k21, k22, k23⟩ := pk_at p a c; obtain ⟨m0, m1, m2, m3, m4, m5, m6, m7, m8, m9, m10, m11, m12, m13, m14, m15, m16, m17, m18, m19, m20, m21, m22, m23⟩ := pk_at q a' c'; obtain ⟨bb, hbb⟩ : ∃ b, decide (p.bare = q.bare) = b := ⟨_, rfl⟩
  rw [hbb] at hfe; cases bb
  · have HX := Lib.hid (show decide (p = q) = false by rw [same_bare, hbb]; rfl)
    clear hbb; go_enter Tryd.func49, Tryd.ntmps49
    go_wp2_with fail
    refine wp_region_noPanic ?_; refine wp_region_held_drew (S := fun w' => Keep w [(w.heap.size + 1, pkV q a' c', 40), (w.heap.size, pkV p a c, 40)] [(a, subCells p.subs), (a', subCells q.subs)] w') (by kernel_rfl) ?_ (fun hHeld => ?_)
    · (first | exact HK.out | exact HK.out.drew | exact HK.out.drewN _)
    replace HK := Lib.hid hHeld; refine wpAnyH_take (i := 0) (oi := ⟨some 7, _, _, _, _, _⟩) (v := .agg _) rfl (by kernel_rfl) (by kernel_rfl) (by kernel_rfl) (fun _ _ _ h => h) (yields_load_box (by kernel_rfl) 40 _ rfl _ rfl 40 _ _ (fun w h => Keep.at h 1 rfl) Tryd.underlying40 rfl (pk_size _ _ _)) (by assumption) ?_; try simp only [Act.put, List.setIfInBounds_toArray, List.set_cons_zero, List.set_cons_succ]
    refine wpAnyH_take (i := 2) (oi := ⟨some 9, _, _, _, _, _⟩) (v := .agg _) rfl (by kernel_rfl) (by kernel_rfl) (by kernel_rfl) (fun _ _ _ h => h) (yields_load_box (by kernel_rfl) 40 _ rfl _ rfl 40 _ _ (fun w h => Keep.at h 0 rfl) Tryd.underlying40 rfl (pk_size _ _ _)) (by assumption) ?_; try simp only [Act.put, List.setIfInBounds_toArray, List.set_cons_zero, List.set_cons_succ]
    refine wpAnyH_ready (rs := [1]) (by kernel_rfl) (by simp) ?_; refine AllReadyH.cons (o := ⟨some 8, _, _, _, _, _⟩) rfl (fun K hK => ?_) AllReadyH.nil; go_simp
    (go_at_call 69; refine Calls.mono (packet_plain p a c _) ?_; rintro e w9 ⟨rfl, hb1⟩; replace HK := Lib.hid (HK.out.below hb1); clear hb1; go_simp)
    refine hK.out _ _ ?_ (fun hHeld => ?_)
    · (first | exact HK.out | exact HK.out.drew | exact HK.out.drewN _)
    clear hK K hHeld; have hHeld := HK.out; try simp only [Act.put, List.setIfInBounds_toArray, List.set_cons_zero, List.set_cons_succ]
    refine wpAnyH_ready (rs := [3]) (by kernel_rfl) (by simp) ?_; refine AllReadyH.cons (o := ⟨some 10, _, _, _, _, _⟩) rfl (fun K hK => ?_) AllReadyH.nil; go_simp
    (go_at_call 69; refine Calls.mono (packet_plain q a' c' _) ?_; rintro e w9 ⟨rfl, hb1⟩; replace HK := Lib.hid (HK.out.below hb1); clear hb1; go_simp)
    refine hK.out _ _ ?_ (fun hHeld => ?_)
    · (first | exact HK.out | exact HK.out.drew | exact HK.out.drewN _)
    clear hK K hHeld; have hHeld := HK.out; try simp only [Act.put, List.setIfInBounds_toArray, List.set_cons_zero, List.set_cons_succ]
    refine wpAnyH_take (i := 4) (oi := ⟨some 11, _, _, _, _, _⟩) (v := ?_) rfl (by kernel_rfl) (by kernel_rfl) (by kernel_rfl) (fun _ _ _ h => h) (Or.inl ⟨by rfl, ?_⟩) (by assumption) ?_; rotate_left
    · (intro w hSw; (try dsimp only at hSw); have hX0 := (Keep.at hSw 0 rfl).cells; have hX1 := (Keep.at hSw 1 rfl).cells; go_simp; try with_reducible rfl)
    try simp only [Act.put, List.setIfInBounds_toArray, List.set_cons_zero, List.set_cons_succ]
    refine wpAnyH_take (i := 5) (oi := ⟨some 12, _, _, _, _, _⟩) (v := ?_) rfl (by kernel_rfl) (by kernel_rfl) (by kernel_rfl) (fun _ _ _ h => h) (Or.inl ⟨by rfl, ?_⟩) (by assumption) ?_; rotate_left
    · (intro w hSw; (try dsimp only at hSw); have hX0 := (Keep.at hSw 0 rfl).cells; have hX1 := (Keep.at hSw 1 rfl).cells; go_simp; try with_reducible rfl)
    try simp only [Act.put, List.setIfInBounds_toArray, List.set_cons_zero, List.set_cons_succ]
    refine wpAnyH_take (i := 6) (oi := ⟨some 13, _, _, _, _, _⟩) (v := undef) rfl (by kernel_rfl) (by kernel_rfl) (by kernel_rfl) (fun _ _ _ h => h) (Or.inr ⟨by kernel_rfl, rfl⟩) (by assumption) ?_; try simp only [Act.put, List.setIfInBounds_toArray, List.set_cons_zero, List.set_cons_succ]
    refine wpAnyH_take (i := 7) (oi := ⟨some 14, _, _, _, _, _⟩) (v := undef) rfl (by kernel_rfl) (by kernel_rfl) (by kernel_rfl) (fun _ _ _ h => h) (Or.inr ⟨by kernel_rfl, rfl⟩) (by assumption) ?_; try simp only [Act.put, List.setIfInBounds_toArray, List.set_cons_zero, List.set_cons_succ]
    refine wpAnyH_take (i := 8) (oi := ⟨some 15, _, _, _, _, _⟩) (v := undef) rfl (by kernel_rfl) (by kernel_rfl) (by kernel_rfl) (fun _ _ _ h => h) (Or.inr ⟨by kernel_rfl, rfl⟩) (by assumption) ?_; try simp only [Act.put, List.setIfInBounds_toArray, List.set_cons_zero, List.set_cons_succ]
    refine wpAnyH_take (i := 9) (oi := ⟨some 16, _, _, _, _, _⟩) (v := undef) rfl (by kernel_rfl) (by kernel_rfl) (by kernel_rfl) (fun _ _ _ h => h) (Or.inr ⟨by kernel_rfl, rfl⟩) (by assumption) ?_; try simp only [Act.put, List.setIfInBounds_toArray, List.set_cons_zero, List.set_cons_succ]
    refine wpAnyH_take (i := 10) (oi := ⟨some 17, _, _, _, _, _⟩) (v := undef) rfl (by kernel_rfl) (by kernel_rfl) (by kernel_rfl) (fun _ _ _ h => h) (Or.inr ⟨by kernel_rfl, rfl⟩) (by assumption) ?_; try simp only [Act.put, List.setIfInBounds_toArray, List.set_cons_zero, List.set_cons_succ]
    refine wpAnyH_take (i := 11) (oi := ⟨some 18, _, _, _, _, _⟩) (v := undef) rfl (by kernel_rfl) (by kernel_rfl) (by kernel_rfl) (fun _ _ _ h => h) (Or.inr ⟨by kernel_rfl, rfl⟩) (by assumption) ?_; try simp only [Act.put, List.setIfInBounds_toArray, List.set_cons_zero, List.set_cons_succ]
    refine wpAnyH_take (i := 12) (oi := ⟨some 19, _, _, _, _, _⟩) (v := undef) rfl (by kernel_rfl) (by kernel_rfl) (by kernel_rfl) (fun _ _ _ h => h) (Or.inr ⟨by kernel_rfl, rfl⟩) (by assumption) ?_; try simp only [Act.put, List.setIfInBounds_toArray, List.set_cons_zero, List.set_cons_succ]
    refine wpAnyH_take (i := 13) (oi := ⟨some 20, _, _, _, _, _⟩) (v := ?_) rfl (by kernel_rfl) (by kernel_rfl) (by kernel_rfl) (fun _ _ _ h => h) (Or.inl ⟨by rfl, ?_⟩) (by assumption) ?_; rotate_left
    · (intro w hSw; (try dsimp only at hSw); have hX0 := (Keep.at hSw 0 rfl).cells; have hX1 := (Keep.at hSw 1 rfl).cells; go_simp; try with_reducible rfl)
    try simp only [Act.put, List.setIfInBounds_toArray, List.set_cons_zero, List.set_cons_succ]
    refine wpAnyH_done (by kernel_rfl) ?_ _; refine NoPanic.normal ?_; go_wp2_with fail
    go_ret
    exact FIN.out _ _ HX.out HK.out.low
  · have HX := Lib.hid (show decide (p = q) = decide (p.subs = q.subs) by rw [same_bare, hbb]; rfl)
    clear hbb; by_cases hl : p.subs.length = q.subs.length
    · have hl' : ((p.subs.length : Int) != (q.subs.length : Int)) = false := by rw [hl]; simp
      have HL := Lib.hid hl; clear hl; go_enter Tryd.func49, Tryd.ntmps49
      go_wp2_with fail
      refine wp_region_noPanic ?_; refine wp_region_held_drew (S := fun w' => Keep w [(w.heap.size + 1, pkV q a' c', 40), (w.heap.size, pkV p a c, 40)] [(a, subCells p.subs), (a', subCells q.subs)] w') (by kernel_rfl) ?_ (fun hHeld => ?_)
      · (first | exact HK.out | exact HK.out.drew | exact HK.out.drewN _)
      replace HK := Lib.hid hHeld; refine wpAnyH_take (i := 0) (oi := ⟨some 7, _, _, _, _, _⟩) (v := .agg _) rfl (by kernel_rfl) (by kernel_rfl) (by kernel_rfl) (fun _ _ _ h => h) (yields_load_box (by kernel_rfl) 40 _ rfl _ rfl 40 _ _ (fun w h => Keep.at h 1 rfl) Tryd.underlying40 rfl (pk_size _ _ _)) (by assumption) ?_; try simp only [Act.put, List.setIfInBounds_toArray, List.set_cons_zero, List.set_cons_succ]
      refine wpAnyH_take (i := 2) (oi := ⟨some 9, _, _, _, _, _⟩) (v := .agg _) rfl (by kernel_rfl) (by kernel_rfl) (by kernel_rfl) (fun _ _ _ h => h) (yields_load_box (by kernel_rfl) 40 _ rfl _ rfl 40 _ _ (fun w h => Keep.at h 0 rfl) Tryd.underlying40 rfl (pk_size _ _ _)) (by assumption) ?_; try simp only [Act.put, List.setIfInBounds_toArray, List.set_cons_zero, List.set_cons_succ]
      refine wpAnyH_ready (rs := [1]) (by kernel_rfl) (by simp) ?_; refine AllReadyH.cons (o := ⟨some 8, _, _, _, _, _⟩) rfl (fun K hK => ?_) AllReadyH.nil; go_simp
      (go_at_call 69; refine Calls.mono (packet_plain p a c _) ?_; rintro e w9 ⟨rfl, hb1⟩; replace HK := Lib.hid (HK.out.below hb1); clear hb1; go_simp)
      refine hK.out _ _ ?_ (fun hHeld => ?_)
      · (first | exact HK.out | exact HK.out.drew | exact HK.out.drewN _)
      clear hK K hHeld; have hHeld := HK.out; try simp only [Act.put, List.setIfInBounds_toArray, List.set_cons_zero, List.set_cons_succ]
      refine wpAnyH_ready (rs := [3]) (by kernel_rfl) (by simp) ?_; refine AllReadyH.cons (o := ⟨some 10, _, _, _, _, _⟩) rfl (fun K hK => ?_) AllReadyH.nil; go_simp
      (go_at_call 69; refine Calls.mono (packet_plain q a' c' _) ?_; rintro e w9 ⟨rfl, hb1⟩; replace HK := Lib.hid (HK.out.below hb1); clear hb1; go_simp)
      refine hK.out _ _ ?_ (fun hHeld => ?_)
      · (first | exact HK.out | exact HK.out.drew | exact HK.out.drewN _)
      clear hK K hHeld; have hHeld := HK.out; try simp only [Act.put, List.setIfInBounds_toArray, List.set_cons_zero, List.set_cons_succ]
      refine wpAnyH_take (i := 4) (oi := ⟨some 11, _, _, _, _, _⟩) (v := ?_) rfl (by kernel_rfl) (by kernel_rfl) (by kernel_rfl) (fun _ _ _ h => h) (Or.inl ⟨by rfl, ?_⟩) (by assumption) ?_; rotate_left
      · (intro w hSw; (try dsimp only at hSw); have hX0 := (Keep.at hSw 0 rfl).cells; have hX1 := (Keep.at hSw 1 rfl).cells; go_simp; try with_reducible rfl)
      try simp only [Act.put, List.setIfInBounds_toArray, List.set_cons_zero, List.set_cons_succ]
      refine wpAnyH_take (i := 5) (oi := ⟨some 12, _, _, _, _, _⟩) (v := ?_) rfl (by kernel_rfl) (by kernel_rfl) (by kernel_rfl) (fun _ _ _ h => h) (Or.inl ⟨by rfl, ?_⟩) (by assumption) ?_; rotate_left
      · (intro w hSw; (try dsimp only at hSw); have hX0 := (Keep.at hSw 0 rfl).cells; have hX1 := (Keep.at hSw 1 rfl).cells; go_simp; try with_reducible rfl)
      try simp only [Act.put, List.setIfInBounds_toArray, List.set_cons_zero, List.set_cons_succ]
      refine wpAnyH_take (i := 6) (oi := ⟨some 13, _, _, _, _, _⟩) (v := ?_) rfl (by kernel_rfl) (by kernel_rfl) (by kernel_rfl) (fun _ _ _ h => h) (Or.inl ⟨by rfl, ?_⟩) (by assumption) ?_; rotate_left
      · (intro w hSw; (try dsimp only at hSw); have hX0 := (Keep.at hSw 0 rfl).cells; have hX1 := (Keep.at hSw 1 rfl).cells; go_simp; try with_reducible rfl)
      try simp only [Act.put, List.setIfInBounds_toArray, List.set_cons_zero, List.set_cons_succ]
      refine wpAnyH_take (i := 7) (oi := ⟨some 14, _, _, _, _, _⟩) (v := ?_) rfl (by kernel_rfl) (by kernel_rfl) (by kernel_rfl) (fun _ _ _ h => h) (Or.inl ⟨by rfl, ?_⟩) (by assumption) ?_; rotate_left
      · (intro w hSw; (try dsimp only at hSw); have hX0 := (Keep.at hSw 0 rfl).cells; have hX1 := (Keep.at hSw 1 rfl).cells; go_simp; try with_reducible rfl)
      try simp only [Act.put, List.setIfInBounds_toArray, List.set_cons_zero, List.set_cons_succ]
      refine wpAnyH_take (i := 8) (oi := ⟨some 15, _, _, _, _, _⟩) (v := ?_) rfl (by kernel_rfl) (by kernel_rfl) (by kernel_rfl) (fun _ _ _ h => h) (Or.inl ⟨by rfl, ?_⟩) (by assumption) ?_; rotate_left
      · (intro w hSw; (try dsimp only at hSw); have hX0 := (Keep.at hSw 0 rfl).cells; have hX1 := (Keep.at hSw 1 rfl).cells; go_simp; try with_reducible rfl)
      try simp only [Act.put, List.setIfInBounds_toArray, List.set_cons_zero, List.set_cons_succ]
      refine wpAnyH_take (i := 9) (oi := ⟨some 16, _, _, _, _, _⟩) (v := ?_) rfl (by kernel_rfl) (by kernel_rfl) (by kernel_rfl) (fun _ _ _ h => h) (Or.inl ⟨by rfl, ?_⟩) (by assumption) ?_; rotate_left
      · (intro w hSw; (try dsimp only at hSw); have hX0 := (Keep.at hSw 0 rfl).cells; have hX1 := (Keep.at hSw 1 rfl).cells; go_simp; try with_reducible rfl)
      try simp only [Act.put, List.setIfInBounds_toArray, List.set_cons_zero, List.set_cons_succ]
      refine wpAnyH_take (i := 10) (oi := ⟨some 17, _, _, _, _, _⟩) (v := ?_) rfl (by kernel_rfl) (by kernel_rfl) (by kernel_rfl) (fun _ _ _ h => h) (Or.inl ⟨by rfl, ?_⟩) (by assumption) ?_; rotate_left
      · (intro w hSw; (try dsimp only at hSw); have hX0 := (Keep.at hSw 0 rfl).cells; have hX1 := (Keep.at hSw 1 rfl).cells; go_simp; try with_reducible rfl)
      try simp only [Act.put, List.setIfInBounds_toArray, List.set_cons_zero, List.set_cons_succ]
      refine wpAnyH_take (i := 11) (oi := ⟨some 18, _, _, _, _, _⟩) (v := ?_) rfl (by kernel_rfl) (by kernel_rfl) (by kernel_rfl) (fun _ _ _ h => h) (Or.inl ⟨by rfl, ?_⟩) (by assumption) ?_; rotate_left
      · (intro w hSw; (try dsimp only at hSw); have hX0 := (Keep.at hSw 0 rfl).cells; have hX1 := (Keep.at hSw 1 rfl).cells; go_simp; try with_reducible rfl)
      try simp only [Act.put, List.setIfInBounds_toArray, List.set_cons_zero, List.set_cons_succ]
      refine wpAnyH_take (i := 12) (oi := ⟨some 19, _, _, _, _, _⟩) (v := ?_) rfl (by kernel_rfl) (by kernel_rfl) (by kernel_rfl) (fun _ _ _ h => h) (Or.inl ⟨by rfl, ?_⟩) (by assumption) ?_; rotate_left
      · (intro w hSw; (try dsimp only at hSw); have hX0 := (Keep.at hSw 0 rfl).cells; have hX1 := (Keep.at hSw 1 rfl).cells; go_simp; try with_reducible rfl)
      try simp only [Act.put, List.setIfInBounds_toArray, List.set_cons_zero, List.set_cons_succ]
      refine wpAnyH_take (i := 13) (oi := ⟨some 20, _, _, _, _, _⟩) (v := ?_) rfl (by kernel_rfl) (by kernel_rfl) (by kernel_rfl) (fun _ _ _ h => h) (Or.inl ⟨by rfl, ?_⟩) (by assumption) ?_; rotate_left
      · (intro w hSw; (try dsimp only at hSw); have hX0 := (Keep.at hSw 0 rfl).cells; have hX1 := (Keep.at hSw 1 rfl).cells; go_simp; try with_reducible rfl)
      try simp only [Act.put, List.setIfInBounds_toArray, List.set_cons_zero, List.set_cons_succ]
      refine wpAnyH_done (by kernel_rfl) ?_ _; refine NoPanic.normal ?_; have hX0 := (HK.out.at 0 rfl).cells; have hX1 := (HK.out.at 1 rfl).cells; clear k0 k1 k2 k3 k4 k5 k6 k7 k8 k9 k10 k11 k12 k13 k14 k15 k16 k17 k18 k19 k20 k21 k23 m0 m1 m2 m3 m4 m5 m6 m7 m8 m9 m10 m11 m12 m13 m14 m15 m16 m17 m18 m19 m20 m21 m23 hfe; go_wp2_with fail
      clear hX0 hX1; go_loopw [24] (fun i wr => ∃ k : Nat, k ≤ p.subs.length ∧ i = .int .i64 k ∧ Hid (decide (p.subs.drop k = q.subs.drop k) = decide (p.subs = q.subs)) ∧ Hid (Keep w [(w.heap.size + 1, pkV q a' c', 40), (w.heap.size, pkV p a c, 40)] [(a, subCells p.subs), (a', subCells q.subs)] wr)) (fun i _ => p.subs.length - (intOf i).toNat)
      case atStart => exact ⟨0, by omega, rfl, rfl, HK⟩
      case round =>
        clear HK hHeld; obtain ⟨k, hk, rfl, HP, HK⟩ := hrel; have hX0 := (HK.out.at 0 rfl).cells; have hX1 := (HK.out.at 1 rfl).cells; have hL0 := HK.out.lt (x := (w.heap.size + 1, pkV q a' c', 40)) (by simp); dsimp only at hL0
        by_cases hlt : k < p.subs.length
        · have hlt2 : k < q.subs.length := by have := HL.out; omega
          obtain ⟨x, hx⟩ : ∃ x, p.subs[k]? = some x := ⟨_, List.getElem?_eq_getElem hlt⟩
          obtain ⟨y, hy⟩ : ∃ y, q.subs[k]? = some y := ⟨_, List.getElem?_eq_getElem hlt2⟩
          have ca := HK.out.rowAt 0 rfl; have cb := HK.out.rowAt 1 rfl; obtain ⟨ba, oa, ha1, hc1, hc2⟩ := ca.sub hx; obtain ⟨bb, ob, hb1, hc3, hc4⟩ := cb.sub hy; subst ha1 hb1; clear ca cb; have hbl := World.block_lt_of_cell? _ _ hc3; dsimp only at hbl
          have HS := Lib.hid (drop_same' p.subs q.subs k x y hx hy); clear hx hy; obtain ⟨x1, x2⟩ := x; obtain ⟨y1, y2⟩ := y; dsimp only at *
          have hS3 : ∀ v, decide ((x1, x2) = (y1, y2)) = v → (decide (p.subs = q.subs)) = (v && decide (p.subs.drop (k + 1) = q.subs.drop (k + 1))) := by
            rintro v rfl; rw [← HP.out]; exact HS.out
          have hS4 := fun (v : Bool) h => Lib.hid (hS3 v h)
          clear HS hS3; have hfin : (x1.toList == y1.toList) = false ∨ ((x1.toList == y1.toList) = true ∧ ((x2 : Int) == (y2 : Int)) = false) → decide ((x1, x2) = (y1, y2)) = false := by
            intro hh; rw [decide_eq_false_iff_not]; intro h; injection h with h h'
            rcases hh with h1 | ⟨_, h1⟩
            · rw [h, beq_self_eq_true] at h1; cases h1
            · rw [h', beq_self_eq_true] at h1; cases h1
          have HF := Lib.hid hfin; clear hfin; cases h1 : (x1.toList == y1.toList)
          · have HZ := hS4 false (HF.out (Or.inl h1))
            clear hS4; go_wp2_with fail
            go_quiet (fail)
            generalize hw2 : World.drewN _ _ = w7; have hq : Below wr.heap.size wr w7 := Below.then ((Below.refl _ _).alloc (Nat.le_refl _) _) (below_draws hw2)
            replace HK := Lib.hid (HK.out.below hq); clear hw2 hq; go_wp2_with fail
            go_ret
            exact FIN.out _ _ (HX.out.trans (by rw [HZ.out]; rfl)) HK.out.low
          · cases h2 : ((x2 : Int) == (y2 : Int))
            · have HZ := hS4 false (HF.out (Or.inr ⟨h1, h2⟩))
              clear hS4; go_wp2_with fail
              go_quiet (fail)
              generalize hw2 : World.drewN _ _ = w7; have hq : Below wr.heap.size wr w7 := Below.then ((Below.refl _ _).alloc (Nat.le_refl _) _) (below_draws hw2)
              replace HK := Lib.hid (HK.out.below hq); clear hw2 hq; go_wp2_with fail
              go_ret
              exact FIN.out _ _ (HX.out.trans (by rw [HZ.out]; rfl)) HK.out.low
            · have HZ := hS4 true (by
                rw [decide_eq_true_eq, Prod.mk.injEq]; rw [Lib.toList_data, Lib.toList_data, beq_iff_eq] at h1; rw [beq_iff_eq] at h2; exact ⟨bl_inj h1, by omega⟩)
              clear hS4; go_wp2_with fail
              go_quiet (fail)
              generalize hw2 : World.drewN _ _ = w7; have hq : Below wr.heap.size wr w7 := Below.then ((Below.refl _ _).alloc (Nat.le_refl _) _) (below_draws hw2)
              replace HK := Lib.hid (HK.out.below hq); clear hw2 hq; go_wp2_with fail
              go_roundw
              case rel => exact ⟨k + 1, by omega, by first | rfl | go_num, by rw [Hid, HZ.out]; rfl, HK⟩
              case measure => simp [intOf]; omega
        · have : k = p.subs.length := by omega
          subst this; have HZ := Lib.hid (show decide (p.subs = q.subs) = true by
            rw [← HP.out, List.drop_eq_nil_of_le (Nat.le_refl _), List.drop_eq_nil_of_le (by have := HL.out; omega)]; rfl)
          go_wp2_with fail
          go_ret
          exact FIN.out _ _ (HX.out.trans HZ.out) HK.out.low
    · have hl' : ((p.subs.length : Int) != (q.subs.length : Int)) = true := by rw [bne_iff_ne]; omega
      have HY := Lib.hid (show decide (p.subs = q.subs) = false by rw [decide_eq_false_iff_not]; intro h; exact hl (by rw [h])); clear hl; go_enter Tryd.func49, Tryd.ntmps49
      go_wp2_with fail
      refine wp_region_noPanic ?_; refine wp_region_held_drew (S := fun w' => Keep w [(w.heap.size + 1, pkV q a' c', 40), (w.heap.size, pkV p a c, 40)] [(a, subCells p.subs), (a', subCells q.subs)] w') (by kernel_rfl) ?_ (fun hHeld => ?_)
      · (first | exact HK.out | exact HK.out.drew | exact HK.out.drewN _)
      replace HK := Lib.hid hHeld; refine wpAnyH_take (i := 0) (oi := ⟨some 7, _, _, _, _, _⟩) (v := .agg _) rfl (by kernel_rfl) (by kernel_rfl) (by kernel_rfl) (fun _ _ _ h => h) (yields_load_box (by kernel_rfl) 40 _ rfl _ rfl 40 _ _ (fun w h => Keep.at h 1 rfl) Tryd.underlying40 rfl (pk_size _ _ _)) (by assumption) ?_; try simp only [Act.put, List.setIfInBounds_toArray, List.set_cons_zero, List.set_cons_succ]
      refine wpAnyH_take (i := 2) (oi := ⟨some 9, _, _, _, _, _⟩) (v := .agg _) rfl (by kernel_rfl) (by kernel_rfl) (by kernel_rfl) (fun _ _ _ h => h) (yields_load_box (by kernel_rfl) 40 _ rfl _ rfl 40 _ _ (fun w h => Keep.at h 0 rfl) Tryd.underlying40 rfl (pk_size _ _ _)) (by assumption) ?_; try simp only [Act.put, List.setIfInBounds_toArray, List.set_cons_zero, List.set_cons_succ]
      refine wpAnyH_ready (rs := [1]) (by kernel_rfl) (by simp) ?_; refine AllReadyH.cons (o := ⟨some 8, _, _, _, _, _⟩) rfl (fun K hK => ?_) AllReadyH.nil; go_simp
      (go_at_call 69; refine Calls.mono (packet_plain p a c _) ?_; rintro e w9 ⟨rfl, hb1⟩; replace HK := Lib.hid (HK.out.below hb1); clear hb1; go_simp)
      refine hK.out _ _ ?_ (fun hHeld => ?_)
      · (first | exact HK.out | exact HK.out.drew | exact HK.out.drewN _)
      clear hK K hHeld; have hHeld := HK.out; try simp only [Act.put, List.setIfInBounds_toArray, List.set_cons_zero, List.set_cons_succ]
      refine wpAnyH_ready (rs := [3]) (by kernel_rfl) (by simp) ?_; refine AllReadyH.cons (o := ⟨some 10, _, _, _, _, _⟩) rfl (fun K hK => ?_) AllReadyH.nil; go_simp
      (go_at_call 69; refine Calls.mono (packet_plain q a' c' _) ?_; rintro e w9 ⟨rfl, hb1⟩; replace HK := Lib.hid (HK.out.below hb1); clear hb1; go_simp)
      refine hK.out _ _ ?_ (fun hHeld => ?_)
      · (first | exact HK.out | exact HK.out.drew | exact HK.out.drewN _)
      clear hK K hHeld; have hHeld := HK.out; try simp only [Act.put, List.setIfInBounds_toArray, List.set_cons_zero, List.set_cons_succ]
      refine wpAnyH_take (i := 4) (oi := ⟨some 11, _, _, _, _, _⟩) (v := ?_) rfl (by kernel_rfl) (by kernel_rfl) (by kernel_rfl) (fun _ _ _ h => h) (Or.inl ⟨by rfl, ?_⟩) (by assumption) ?_; rotate_left
      · (intro w hSw; (try dsimp only at hSw); have hX0 := (Keep.at hSw 0 rfl).cells; have hX1 := (Keep.at hSw 1 rfl).cells; go_simp; try with_reducible rfl)
      try simp only [Act.put, List.setIfInBounds_toArray, List.set_cons_zero, List.set_cons_succ]
      refine wpAnyH_take (i := 5) (oi := ⟨some 12, _, _, _, _, _⟩) (v := ?_) rfl (by kernel_rfl) (by kernel_rfl) (by kernel_rfl) (fun _ _ _ h => h) (Or.inl ⟨by rfl, ?_⟩) (by assumption) ?_; rotate_left
      · (intro w hSw; (try dsimp only at hSw); have hX0 := (Keep.at hSw 0 rfl).cells; have hX1 := (Keep.at hSw 1 rfl).cells; go_simp; try with_reducible rfl)
      try simp only [Act.put, List.setIfInBounds_toArray, List.set_cons_zero, List.set_cons_succ]
      refine wpAnyH_take (i := 6) (oi := ⟨some 13, _, _, _, _, _⟩) (v := ?_) rfl (by kernel_rfl) (by kernel_rfl) (by kernel_rfl) (fun _ _ _ h => h) (Or.inl ⟨by rfl, ?_⟩) (by assumption) ?_; rotate_left
      · (intro w hSw; (try dsimp only at hSw); have hX0 := (Keep.at hSw 0 rfl).cells; have hX1 := (Keep.at hSw 1 rfl).cells; go_simp; try with_reducible rfl)
      try simp only [Act.put, List.setIfInBounds_toArray, List.set_cons_zero, List.set_cons_succ]
      refine wpAnyH_take (i := 7) (oi := ⟨some 14, _, _, _, _, _⟩) (v := ?_) rfl (by kernel_rfl) (by kernel_rfl) (by kernel_rfl) (fun _ _ _ h => h) (Or.inl ⟨by rfl, ?_⟩) (by assumption) ?_; rotate_left
      · (intro w hSw; (try dsimp only at hSw); have hX0 := (Keep.at hSw 0 rfl).cells; have hX1 := (Keep.at hSw 1 rfl).cells; go_simp; try with_reducible rfl)
      try simp only [Act.put, List.setIfInBounds_toArray, List.set_cons_zero, List.set_cons_succ]
      refine wpAnyH_take (i := 8) (oi := ⟨some 15, _, _, _, _, _⟩) (v := ?_) rfl (by kernel_rfl) (by kernel_rfl) (by kernel_rfl) (fun _ _ _ h => h) (Or.inl ⟨by rfl, ?_⟩) (by assumption) ?_; rotate_left
      · (intro w hSw; (try dsimp only at hSw); have hX0 := (Keep.at hSw 0 rfl).cells; have hX1 := (Keep.at hSw 1 rfl).cells; go_simp; try with_reducible rfl)
      try simp only [Act.put, List.setIfInBounds_toArray, List.set_cons_zero, List.set_cons_succ]
      refine wpAnyH_take (i := 9) (oi := ⟨some 16, _, _, _, _, _⟩) (v := ?_) rfl (by kernel_rfl) (by kernel_rfl) (by kernel_rfl) (fun _ _ _ h => h) (Or.inl ⟨by rfl, ?_⟩) (by assumption) ?_; rotate_left
      · (intro w hSw; (try dsimp only at hSw); have hX0 := (Keep.at hSw 0 rfl).cells; have hX1 := (Keep.at hSw 1 rfl).cells; go_simp; try with_reducible rfl)
      try simp only [Act.put, List.setIfInBounds_toArray, List.set_cons_zero, List.set_cons_succ]
      refine wpAnyH_take (i := 10) (oi := ⟨some 17, _, _, _, _, _⟩) (v := ?_) rfl (by kernel_rfl) (by kernel_rfl) (by kernel_rfl) (fun _ _ _ h => h) (Or.inl ⟨by rfl, ?_⟩) (by assumption) ?_; rotate_left
      · (intro w hSw; (try dsimp only at hSw); have hX0 := (Keep.at hSw 0 rfl).cells; have hX1 := (Keep.at hSw 1 rfl).cells; go_simp; try with_reducible rfl)
      try simp only [Act.put, List.setIfInBounds_toArray, List.set_cons_zero, List.set_cons_succ]
      refine wpAnyH_take (i := 11) (oi := ⟨some 18, _, _, _, _, _⟩) (v := ?_) rfl (by kernel_rfl) (by kernel_rfl) (by kernel_rfl) (fun _ _ _ h => h) (Or.inl ⟨by rfl, ?_⟩) (by assumption) ?_; rotate_left
      · (intro w hSw; (try dsimp only at hSw); have hX0 := (Keep.at hSw 0 rfl).cells; have hX1 := (Keep.at hSw 1 rfl).cells; go_simp; try with_reducible rfl)
      try simp only [Act.put, List.setIfInBounds_toArray, List.set_cons_zero, List.set_cons_succ]
      refine wpAnyH_take (i := 12) (oi := ⟨some 19, _, _, _, _, _⟩) (v := ?_) rfl (by kernel_rfl) (by kernel_rfl) (by kernel_rfl) (fun _ _ _ h => h) (Or.inl ⟨by rfl, ?_⟩) (by assumption) ?_; rotate_left
      · (intro w hSw; (try dsimp only at hSw); have hX0 := (Keep.at hSw 0 rfl).cells; have hX1 := (Keep.at hSw 1 rfl).cells; go_simp; try with_reducible rfl)
      try simp only [Act.put, List.setIfInBounds_toArray, List.set_cons_zero, List.set_cons_succ]
      refine wpAnyH_take (i := 13) (oi := ⟨some 20, _, _, _, _, _⟩) (v := ?_) rfl (by kernel_rfl) (by kernel_rfl) (by kernel_rfl) (fun _ _ _ h => h) (Or.inl ⟨by rfl, ?_⟩) (by assumption) ?_; rotate_left
      · (intro w hSw; (try dsimp only at hSw); have hX0 := (Keep.at hSw 0 rfl).cells; have hX1 := (Keep.at hSw 1 rfl).cells; go_simp; try with_reducible rfl)
      try simp only [Act.put, List.setIfInBounds_toArray, List.set_cons_zero, List.set_cons_succ]
      refine wpAnyH_done (by kernel_rfl) ?_ _; refine NoPanic.normal ?_; go_wp2_with fail
      go_ret
      exact FIN.out _ _ (HX.out.trans HY.out) HK.out.low
end Go.Proofs.YtnnpokndajpkiaaDoor
