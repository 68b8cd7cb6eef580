/- The walk of PacketSame: whether two packets are the same; a copy is the same, and stays so. Conditions: the decoder's tables lie as Go lays them; the packets' lists in their cells. -/
import Derived.Test.YtkphaihbdmjogaaDoorRefPacketSame
import Derived.Test.YtkphaihbdmjogaaDoorLaw03Great
import Derived.Test.YtkphaihbdmjogaaDoorCardPk
namespace Go.Proofs.YtkphaihbdmjogaaDoor
open Go.RowKit

theorem own_nil {w : World} {B n m c size : Nat} {e : TypeId} {a : Option Addr} {xs : List Value} (h : w.ownsRow B e size (.slice a n c) m xs) : a = none → c = 0 := by
  rintro rfl
  rcases h.2 with ⟨hv, _⟩ | ⟨g, cap, cur, hv, _⟩
  · injection hv
  · injection hv with h1 _ _
    cases h1
theorem own_apart {w w' : World} {B n m size size' : Nat} {e e' : TypeId} {x y : Value} {xs ys : List Value} (h : w.ownsRow B e size x n xs) (k : w'.ownsRow w.heap.size e' size' y m ys) : ∀ g', y.ownBlock = some g' → ∀ g, x.ownBlock = some g → ¬ g' = g := by
  intro g' hg' g hg he
  have h1 := (own_lt h hg).1
  have h2 := (own_lt k hg').2
  omega
theorem own_head {w : World} {B n c size : Nat} {e : TypeId} {a : Option Addr} {xs : List Value} (h : w.ownsRow B e size (.slice a n c) n xs) : 0 < n → ∃ g, a = some ⟨g, 0, none⟩ := by
  intro hn
  rcases h.2 with ⟨hv, h0⟩ | ⟨g, cap, cur, hv, _⟩
  · omega
  · injection hv with h1 _ _
    exact ⟨g, h1⟩
theorem own_set {w : World} {B n cap size g : Nat} {e : TypeId} {xs : List Value} (h : w.ownsRow B e size (.slice (some ⟨g, 0, none⟩) n cap) n xs) (j : Nat) (u : Value) : (w.setCell ⟨g, j, none⟩ u).ownsRow B e size (.slice (some ⟨g, 0, none⟩) n cap) n (xs.set j u) := by
  rcases h.2 with ⟨hv, _⟩ | ⟨g', cap', cur, hv, hb, hg, h3, h4, h5, h6⟩
  · simp at hv
  · simp only [Value.slice.injEq, Option.some.injEq, Addr.mk.injEq, and_true, true_and] at hv
    obtain ⟨rfl, rfl⟩ := hv
    refine ⟨by simpa using h.1, .inr ⟨g, cap, cur.setIfInBounds j u, rfl, hb, heap_setCell_same w g j cur e u hg, h3, h4, by simpa using h5, ?_⟩⟩
    rw [Array.toList_setIfInBounds, ← h6, List.take_set]
theorem Keep.other {w0 w w' : World} {L : List Box} (h : Keep w0 L [] w) {g : Nat} (k : Only (fun j => j = g) w w') (h1 : w0.heap.size ≤ g) (h2 : ∀ x ∈ L, ¬ g = x.1) : Keep w0 L [] w' :=
  ⟨h.env0, h.low.trans (k.below h.size (fun j e => by omega)), fun x hx => (h.box x hx).only k (fun e => h2 x hx e.symm), h.up, h.nod, fun r hr => (by cases hr), fun r hr => (by cases hr)⟩
theorem same_comm (p q : Pk) : decide (q = p) = decide (p = q) := by
  rw [Bool.eq_iff_iff, decide_eq_true_eq, decide_eq_true_eq]
  exact ⟨Eq.symm, Eq.symm⟩
set_option maxRecDepth 100000 in
set_option maxHeartbeats 4000000 in
theorem law03_PacketSame (p : Pk) (a : Option Addr) (c : Nat) (q : Pk) (a' : Option Addr) (c' : Nat) (like : Bool) (w : World) (hE : Env w) (hqp : PkArg w p a c) (hqq : PkArg w q a' c') :
    Calls Tryd.prog 5 #[.agg (pkV p a c), .agg (pkV q a' c'), .bool like] w fun e w' => e = .returned (.bool true) ∧ Below w.heap.size w w' := by
  have hnil := hqp.nil
  have HA := Lib.hid hqp.row
  have HB := Lib.hid hqq.row
  have HTP := Lib.hid hqp.ty
  have HTQ := Lib.hid hqq.ty
  have HK := Lib.hid (((Keep.begin hE [] (by intro r hr; cases hr)).alloc' (pkV p a c) 27 w.heap.size rfl).alloc' (pkV q a' c') 27 (w.heap.size + 1) (by simp))
  have hGP := fun w1 ha => law03_Great p a c w1 ha
  have hGQ := fun w1 ha => law03_Great q a' c' w1 ha
  clear hE hqp hqq
  obtain ⟨gp, hgp⟩ : ∃ g, greatB p = g := ⟨_, rfl⟩
  obtain ⟨gq, hgq⟩ : ∃ g, greatB q = g := ⟨_, rfl⟩
  rw [hgp] at hGP
  rw [hgq] at hGQ
  have HGP := Lib.hid hGP
  have HGQ := Lib.hid hGQ
  clear hGP hGQ
  cases gp
  rotate_left
  · clear hgp hgq
    go_enter Tryd.func5, Tryd.ntmps5
    go_wp2_with (first
      | ((with_reducible show wpList _ _ _ (⟨some 10, _, _, _, _, _⟩ :: _) _ _); refine wpList_load_box rfl 27 _ rfl _ rfl 27 _ (HK.out.at 1 rfl) _ Tryd.underlying27 rfl (pk_size _ _ _) ?_)
      | (go_at_call 17; (with_reducible refine Calls.mono (HGP.out _ (HA.out.below HK.out.low)) ?_); rintro e w1 ⟨rfl, hb1⟩; replace HK := Lib.hid (HK.out.below hb1); clear hb1)
      | (go_at_call 16; refine Calls.mono (law03_awake _ HK.out.env) ?_; rintro e w1 ⟨rfl, hb1⟩; replace HK := Lib.hid (HK.out.below hb1); clear hb1))
    go_ret
    exact ⟨rfl, HK.out.low⟩
  cases gq
  rotate_left
  · clear hgp hgq
    go_enter Tryd.func5, Tryd.ntmps5
    go_wp2_with (first
      | ((with_reducible show wpList _ _ _ (⟨some 10, _, _, _, _, _⟩ :: _) _ _); refine wpList_load_box rfl 27 _ rfl _ rfl 27 _ (HK.out.at 1 rfl) _ Tryd.underlying27 rfl (pk_size _ _ _) ?_)
      | ((with_reducible show wpList _ _ _ (⟨some 13, _, _, _, _, _⟩ :: _) _ _); refine wpList_load_boxG (by kernel_rfl) 27 _ rfl _ rfl 27 _ (by (first | exact HK.out.at 0 rfl | exact HK.out.at 1 rfl)) _ Tryd.underlying27 rfl (pk_size _ _ _) ?_)
      | (go_at_call 17; (with_reducible refine Calls.mono (HGP.out _ (HA.out.below HK.out.low)) ?_); rintro e w1 ⟨rfl, hb1⟩; replace HK := Lib.hid (HK.out.below hb1); clear hb1)
      | (go_at_call 17; (with_reducible refine Calls.mono (HGQ.out _ (HB.out.below HK.out.low)) ?_); rintro e w1 ⟨rfl, hb1⟩; replace HK := Lib.hid (HK.out.below hb1); clear hb1)
      | (go_at_call 16; refine Calls.mono (law03_awake _ HK.out.env) ?_; rintro e w1 ⟨rfl, hb1⟩; replace HK := Lib.hid (HK.out.below hb1); clear hb1))
    go_ret
    exact ⟨rfl, HK.out.low⟩
  have HPP := Lib.hid ((small_of hgp).ok HTP.out)
  have HQQ := Lib.hid ((small_of hgq).ok HTQ.out)
  have hfew := (small_of hgp).few
  clear hgp hgq
  have hs4 := fun w1 a2 c2 hE (h1 : CellsA w1 a2 (subCells p.subs)) (h2 : CellsA w1 a (subCells p.subs)) => ref03_Same p p a2 a c2 c w1 hE HPP.out HPP.out h1 h2
  have hs5 := fun w1 hE (h1 : CellsA w1 a (subCells p.subs)) (h2 : CellsA w1 a (subCells p.subs)) => packet_Same p p a a c c w1 hE HPP.out HPP.out h1 h2
  rw [show decide (p = p) = true by simp] at hs4 hs5
  have HS4 := Lib.hid hs4
  have HS5 := Lib.hid hs5
  clear hs4 hs5
  cases like
  · have hs1 := fun w1 hE h1 h2 => packet_Same p q a a' c c' w1 hE HPP.out HQQ.out h1 h2
    have hs2 := fun w1 hE h1 h2 => ref03_Same p q a a' c c' w1 hE HPP.out HQQ.out h1 h2
    have hs3 := fun w1 hE h1 h2 => packet_Same q p a' a c' c w1 hE HQQ.out HPP.out h1 h2
    rw [same_comm p q] at hs3
    generalize decide (p = q) = e at hs1 hs2 hs3
    have HS1 := Lib.hid hs1
    have HS2 := Lib.hid hs2
    have HS3 := Lib.hid hs3
    clear hs1 hs2 hs3
    cases e
    all_goals
      go_enter Tryd.func5, Tryd.ntmps5
      go_wp2_with (first
      | ((with_reducible show wpList _ _ _ (⟨some 10, _, _, _, _, _⟩ :: _) _ _); refine wpList_load_box rfl 27 _ rfl _ rfl 27 _ (HK.out.at 1 rfl) _ Tryd.underlying27 rfl (pk_size _ _ _) ?_)
      | ((with_reducible show wpList _ _ _ (⟨some 13, _, _, _, _, _⟩ :: _) _ _); refine wpList_load_boxG (by kernel_rfl) 27 _ rfl _ rfl 27 _ (by (first | exact HK.out.at 0 rfl | exact HK.out.at 1 rfl)) _ Tryd.underlying27 rfl (pk_size _ _ _) ?_)
      | (go_at_call 17; (with_reducible refine Calls.mono (HGP.out _ (HA.out.below HK.out.low)) ?_); rintro e w1 ⟨rfl, hb1⟩; replace HK := Lib.hid (HK.out.below hb1); clear hb1)
      | (go_at_call 17; (with_reducible refine Calls.mono (HGQ.out _ (HB.out.below HK.out.low)) ?_); rintro e w1 ⟨rfl, hb1⟩; replace HK := Lib.hid (HK.out.below hb1); clear hb1)
      | ((with_reducible show wpList _ _ _ (⟨some 20, _, _, _, _, _⟩ :: _) _ _); refine wpList_load_box rfl 27 _ rfl _ rfl 27 _ (HK.out.at 1 rfl) _ Tryd.underlying27 rfl (pk_size _ _ _) ?_)
      | (go_at_call 22; refine Calls.mono (ref03_Copy p a c _ HK.out.env HPP.out hnil (HA.out.below HK.out.low)) ?_; rintro e w4 ⟨a1, c1, rfl, hown, hb1⟩; have HOO := Lib.hid (own_base hown HK.out.size); clear hown; replace HK := Lib.hid (HK.out.below hb1); clear hb1)
      | ((with_reducible show wpList _ _ _ (⟨some 7, .alloc 27, _, _, _, _⟩ :: _) _ _); obtain ⟨i0, z0, hi0, hz0, hs0, hc0⟩ := infoPkt; refine wpList_new rfl 27 rfl _ rfl rfl _ _ rfl rfl i0 z0 hi0 hz0 (pkV p a1 c1) hs0 hc0 (pk_one _ _ _) rfl rfl ?_; replace HK := Lib.hid (HK.out.alloc (pkV p a1 c1) 27); clear i0 z0 hi0 hz0 hs0 hc0; replace HOO := Lib.hid (HOO.out.alloc (.cells (pkV p a1 c1) 27)); generalize hgw : World.alloc _ _ = w5 at HK HOO ⊢; clear hgw)
      | ((with_reducible show wpList _ _ _ (⟨some 22, _, _, _, _, _⟩ :: _) _ _); refine wpList_load_box rfl 27 _ rfl _ rfl 27 _ (HK.out.at 0 rfl) _ Tryd.underlying27 rfl (pk_size _ _ _) ?_)
      | (go_at_call 23; refine Calls.mono (packet_Copy p a1 c1 _ HK.out.env HPP.out (own_nil HOO.out) (own_cells HOO.out)) ?_; rintro e w6 ⟨a2, c2, rfl, hown, hb1⟩; have HNE := Lib.hid (own_apart HOO.out hown); replace HOO := Lib.hid (own_only HOO.out (Only.of_below hb1 (fun _ => False)) (fun _ _ h => h)); have HOC := Lib.hid (own_base hown HK.out.size); clear hown; replace HK := Lib.hid (HK.out.below hb1); clear hb1)
      | ((with_reducible show wpList _ _ _ (⟨some 8, .alloc 27, _, _, _, _⟩ :: _) _ _); obtain ⟨i0, z0, hi0, hz0, hs0, hc0⟩ := infoPkt; refine wpList_new rfl 27 rfl _ rfl rfl _ _ rfl rfl i0 z0 hi0 hz0 (pkV p a2 c2) hs0 hc0 (pk_one _ _ _) rfl rfl ?_; replace HK := Lib.hid (HK.out.alloc (pkV p a2 c2) 27); clear i0 z0 hi0 hz0 hs0 hc0; replace HOO := Lib.hid (HOO.out.alloc (.cells (pkV p a2 c2) 27)); replace HOC := Lib.hid (HOC.out.alloc (.cells (pkV p a2 c2) 27)); generalize hgw : World.alloc _ _ = w7 at HK HOO HOC ⊢; clear hgw))
      refine wp_region_noPanic ?_
      refine wp_region_held_drew (S := fun w' => Keep w [(w6.heap.size, pkV p a2 c2, 27), (w4.heap.size, pkV p a1 c1, 27), (w.heap.size + 1, pkV q a' c', 27), (w.heap.size, pkV p a c, 27)] [] w') (by kernel_rfl) ?_ (fun hHeld => ?_)
      · (first | exact HK.out | exact HK.out.drew | exact HK.out.drewN _)
      replace HK := Lib.hid hHeld
      replace HOO := Lib.hid (own_only HOO.out (Only.of_below (below_draws (n := 1) rfl) (fun _ => False)) (fun _ _ h => h))
      replace HOC := Lib.hid (own_only HOC.out (Only.of_below (below_draws (n := 1) rfl) (fun _ => False)) (fun _ _ h => h))
      refine wpAnyH_take (i := 0) (oi := ⟨some 24, _, _, _, _, _⟩) (v := .agg _) rfl (by kernel_rfl) (by kernel_rfl) (by kernel_rfl) (fun _ _ _ h => h) (yields_load_box (by kernel_rfl) 27 _ rfl _ rfl 27 _ _ (fun w h => Keep.at h 3 rfl) Tryd.underlying27 rfl (pk_size _ _ _)) (by assumption) ?_
      try simp only [Act.put, List.setIfInBounds_toArray, List.set_cons_zero, List.set_cons_succ]
      refine wpAnyH_take (i := 1) (oi := ⟨some 25, _, _, _, _, _⟩) (v := .agg _) rfl (by kernel_rfl) (by kernel_rfl) (by kernel_rfl) (fun _ _ _ h => h) (yields_load_box (by kernel_rfl) 27 _ rfl _ rfl 27 _ _ (fun w h => Keep.at h 2 rfl) Tryd.underlying27 rfl (pk_size _ _ _)) (by assumption) ?_
      try simp only [Act.put, List.setIfInBounds_toArray, List.set_cons_zero, List.set_cons_succ]
      refine wpAnyH_take (i := 3) (oi := ⟨some 27, _, _, _, _, _⟩) (v := .agg _) rfl (by kernel_rfl) (by kernel_rfl) (by kernel_rfl) (fun _ _ _ h => h) (yields_load_box (by kernel_rfl) 27 _ rfl _ rfl 27 _ _ (fun w h => Keep.at h 3 rfl) Tryd.underlying27 rfl (pk_size _ _ _)) (by assumption) ?_
      try simp only [Act.put, List.setIfInBounds_toArray, List.set_cons_zero, List.set_cons_succ]
      refine wpAnyH_take (i := 4) (oi := ⟨some 28, _, _, _, _, _⟩) (v := .agg _) rfl (by kernel_rfl) (by kernel_rfl) (by kernel_rfl) (fun _ _ _ h => h) (yields_load_box (by kernel_rfl) 27 _ rfl _ rfl 27 _ _ (fun w h => Keep.at h 2 rfl) Tryd.underlying27 rfl (pk_size _ _ _)) (by assumption) ?_
      try simp only [Act.put, List.setIfInBounds_toArray, List.set_cons_zero, List.set_cons_succ]
      refine wpAnyH_ready (rs := [2]) (by kernel_rfl) (by simp) ?_
      refine AllReadyH.cons (o := ⟨some 26, _, _, _, _, _⟩) rfl (fun K hK => ?_) AllReadyH.nil
      go_simp
      (go_at_call 24; refine Calls.mono (HS1.out _ HK.out.env (HA.out.below HK.out.low) (HB.out.below HK.out.low)) ?_; rintro e w9 ⟨rfl, hb1⟩; replace HK := Lib.hid (HK.out.below hb1); replace HOO := Lib.hid (own_only HOO.out (Only.of_below hb1 (fun _ => False)) (fun _ _ h => h)); replace HOC := Lib.hid (own_only HOC.out (Only.of_below hb1 (fun _ => False)) (fun _ _ h => h)); go_simp)
      refine hK.out _ _ ?_ (fun hHeld => ?_)
      · (first | exact HK.out | exact HK.out.drew | exact HK.out.drewN _)
      clear hK K hHeld
      have hHeld := HK.out
      try simp only [Act.put, List.setIfInBounds_toArray, List.set_cons_zero, List.set_cons_succ]
      refine wpAnyH_ready (rs := [5]) (by kernel_rfl) (by simp) ?_
      refine AllReadyH.cons (o := ⟨some 29, _, _, _, _, _⟩) rfl (fun K hK => ?_) AllReadyH.nil
      go_simp
      (go_at_call 25; refine Calls.mono (HS2.out _ HK.out.env (HA.out.below HK.out.low) (HB.out.below HK.out.low)) ?_; rintro e w9 ⟨rfl, hb1⟩; replace HK := Lib.hid (HK.out.below hb1); replace HOO := Lib.hid (own_only HOO.out (Only.of_below hb1 (fun _ => False)) (fun _ _ h => h)); replace HOC := Lib.hid (own_only HOC.out (Only.of_below hb1 (fun _ => False)) (fun _ _ h => h)); go_simp)
      refine hK.out _ _ ?_ (fun hHeld => ?_)
      · (first | exact HK.out | exact HK.out.drew | exact HK.out.drewN _)
      clear hK K hHeld
      have hHeld := HK.out
      try simp only [Act.put, List.setIfInBounds_toArray, List.set_cons_zero, List.set_cons_succ]
      refine wpAnyH_take (i := 6) (oi := ⟨some 30, _, _, _, _, _⟩) (v := ?_) rfl (by kernel_rfl) (by kernel_rfl) (by kernel_rfl) (fun _ _ _ h => h) (Or.inl ⟨by rfl, ?_⟩) (by assumption) ?_
      rotate_left
      · (intro w hSw; (try dsimp only at hSw); go_simp; try with_reducible rfl)
      try simp only [Act.put, List.setIfInBounds_toArray, List.set_cons_zero, List.set_cons_succ]
      refine wpAnyH_take (i := 7) (oi := ⟨some 31, _, _, _, _, _⟩) (v := ?_) rfl (by kernel_rfl) (by kernel_rfl) (by kernel_rfl) (fun _ _ _ h => h) (Or.inl ⟨by rfl, ?_⟩) (by assumption) ?_
      rotate_left
      · (intro w hSw; (try dsimp only at hSw); go_simp; try with_reducible rfl)
      try simp only [Act.put, List.setIfInBounds_toArray, List.set_cons_zero, List.set_cons_succ]
      refine wpAnyH_take (i := 8) (oi := ⟨some 32, _, _, _, _, _⟩) (v := .agg _) rfl (by kernel_rfl) (by kernel_rfl) (by kernel_rfl) (fun _ _ _ h => h) (yields_load_box (by kernel_rfl) 27 _ rfl _ rfl 27 _ _ (fun w h => Keep.at h 2 rfl) Tryd.underlying27 rfl (pk_size _ _ _)) (by assumption) ?_
      try simp only [Act.put, List.setIfInBounds_toArray, List.set_cons_zero, List.set_cons_succ]
      refine wpAnyH_take (i := 9) (oi := ⟨some 33, _, _, _, _, _⟩) (v := .agg _) rfl (by kernel_rfl) (by kernel_rfl) (by kernel_rfl) (fun _ _ _ h => h) (yields_load_box (by kernel_rfl) 27 _ rfl _ rfl 27 _ _ (fun w h => Keep.at h 3 rfl) Tryd.underlying27 rfl (pk_size _ _ _)) (by assumption) ?_
      try simp only [Act.put, List.setIfInBounds_toArray, List.set_cons_zero, List.set_cons_succ]
      refine wpAnyH_take (i := 11) (oi := ⟨some 35, _, _, _, _, _⟩) (v := .agg _) rfl (by kernel_rfl) (by kernel_rfl) (by kernel_rfl) (fun _ _ _ h => h) (yields_load_box (by kernel_rfl) 27 _ rfl _ rfl 27 _ _ (fun w h => Keep.at h 3 rfl) Tryd.underlying27 rfl (pk_size _ _ _)) (by assumption) ?_
      try simp only [Act.put, List.setIfInBounds_toArray, List.set_cons_zero, List.set_cons_succ]
      refine wpAnyH_take (i := 12) (oi := ⟨some 36, _, _, _, _, _⟩) (v := .agg _) rfl (by kernel_rfl) (by kernel_rfl) (by kernel_rfl) (fun _ _ _ h => h) (yields_load_box (by kernel_rfl) 27 _ rfl _ rfl 27 _ _ (fun w h => Keep.at h 2 rfl) Tryd.underlying27 rfl (pk_size _ _ _)) (by assumption) ?_
      try simp only [Act.put, List.setIfInBounds_toArray, List.set_cons_zero, List.set_cons_succ]
      refine wpAnyH_ready (rs := [10]) (by kernel_rfl) (by simp) ?_
      refine AllReadyH.cons (o := ⟨some 34, _, _, _, _, _⟩) rfl (fun K hK => ?_) AllReadyH.nil
      go_simp
      (go_at_call 24; refine Calls.mono (HS3.out _ HK.out.env (HB.out.below HK.out.low) (HA.out.below HK.out.low)) ?_; rintro e w9 ⟨rfl, hb1⟩; replace HK := Lib.hid (HK.out.below hb1); replace HOO := Lib.hid (own_only HOO.out (Only.of_below hb1 (fun _ => False)) (fun _ _ h => h)); replace HOC := Lib.hid (own_only HOC.out (Only.of_below hb1 (fun _ => False)) (fun _ _ h => h)); go_simp)
      refine hK.out _ _ ?_ (fun hHeld => ?_)
      · (first | exact HK.out | exact HK.out.drew | exact HK.out.drewN _)
      clear hK K hHeld
      have hHeld := HK.out
      try simp only [Act.put, List.setIfInBounds_toArray, List.set_cons_zero, List.set_cons_succ]
      refine wpAnyH_ready (rs := [13]) (by kernel_rfl) (by simp) ?_
      refine AllReadyH.cons (o := ⟨some 37, _, _, _, _, _⟩) rfl (fun K hK => ?_) AllReadyH.nil
      go_simp
      (go_at_call 24; refine Calls.mono (HS1.out _ HK.out.env (HA.out.below HK.out.low) (HB.out.below HK.out.low)) ?_; rintro e w9 ⟨rfl, hb1⟩; replace HK := Lib.hid (HK.out.below hb1); replace HOO := Lib.hid (own_only HOO.out (Only.of_below hb1 (fun _ => False)) (fun _ _ h => h)); replace HOC := Lib.hid (own_only HOC.out (Only.of_below hb1 (fun _ => False)) (fun _ _ h => h)); go_simp)
      refine hK.out _ _ ?_ (fun hHeld => ?_)
      · (first | exact HK.out | exact HK.out.drew | exact HK.out.drewN _)
      clear hK K hHeld
      have hHeld := HK.out
      try simp only [Act.put, List.setIfInBounds_toArray, List.set_cons_zero, List.set_cons_succ]
      refine wpAnyH_take (i := 14) (oi := ⟨some 38, _, _, _, _, _⟩) (v := ?_) rfl (by kernel_rfl) (by kernel_rfl) (by kernel_rfl) (fun _ _ _ h => h) (Or.inl ⟨by rfl, ?_⟩) (by assumption) ?_
      rotate_left
      · (intro w hSw; (try dsimp only at hSw); go_simp; try with_reducible rfl)
      try simp only [Act.put, List.setIfInBounds_toArray, List.set_cons_zero, List.set_cons_succ]
      refine wpAnyH_take (i := 15) (oi := ⟨some 39, _, _, _, _, _⟩) (v := ?_) rfl (by kernel_rfl) (by kernel_rfl) (by kernel_rfl) (fun _ _ _ h => h) (Or.inl ⟨by rfl, ?_⟩) (by assumption) ?_
      rotate_left
      · (intro w hSw; (try dsimp only at hSw); go_simp; try with_reducible rfl)
      try simp only [Act.put, List.setIfInBounds_toArray, List.set_cons_zero, List.set_cons_succ]
      refine wpAnyH_take (i := 16) (oi := ⟨some 40, _, _, _, _, _⟩) (v := ?_) rfl (by kernel_rfl) (by kernel_rfl) (by kernel_rfl) (fun _ _ _ h => h) (Or.inl ⟨by rfl, ?_⟩) (by assumption) ?_
      rotate_left
      · (intro w hSw; (try dsimp only at hSw); go_simp; try with_reducible rfl)
      try simp only [Act.put, List.setIfInBounds_toArray, List.set_cons_zero, List.set_cons_succ]
      refine wpAnyH_take (i := 17) (oi := ⟨some 41, _, _, _, _, _⟩) (v := .agg _) rfl (by kernel_rfl) (by kernel_rfl) (by kernel_rfl) (fun _ _ _ h => h) (yields_load_box (by kernel_rfl) 27 _ rfl _ rfl 27 _ _ (fun w h => Keep.at h 0 rfl) Tryd.underlying27 rfl (pk_size _ _ _)) (by assumption) ?_
      try simp only [Act.put, List.setIfInBounds_toArray, List.set_cons_zero, List.set_cons_succ]
      refine wpAnyH_take (i := 18) (oi := ⟨some 42, _, _, _, _, _⟩) (v := .agg _) rfl (by kernel_rfl) (by kernel_rfl) (by kernel_rfl) (fun _ _ _ h => h) (yields_load_box (by kernel_rfl) 27 _ rfl _ rfl 27 _ _ (fun w h => Keep.at h 3 rfl) Tryd.underlying27 rfl (pk_size _ _ _)) (by assumption) ?_
      try simp only [Act.put, List.setIfInBounds_toArray, List.set_cons_zero, List.set_cons_succ]
      refine wpAnyH_ready (rs := [19]) (by kernel_rfl) (by simp) ?_
      refine AllReadyH.cons (o := ⟨some 43, _, _, _, _, _⟩) rfl (fun K hK => ?_) AllReadyH.nil
      go_simp
      (go_at_call 25; refine Calls.mono (HS4.out _ _ _ HK.out.env (own_cells HOC.out) (HA.out.below HK.out.low)) ?_; rintro e w9 ⟨rfl, hb1⟩; replace HK := Lib.hid (HK.out.below hb1); replace HOO := Lib.hid (own_only HOO.out (Only.of_below hb1 (fun _ => False)) (fun _ _ h => h)); replace HOC := Lib.hid (own_only HOC.out (Only.of_below hb1 (fun _ => False)) (fun _ _ h => h)); go_simp)
      refine hK.out _ _ ?_ (fun hHeld => ?_)
      · (first | exact HK.out | exact HK.out.drew | exact HK.out.drewN _)
      clear hK K hHeld
      have hHeld := HK.out
      try simp only [Act.put, List.setIfInBounds_toArray, List.set_cons_zero, List.set_cons_succ]
      refine wpAnyH_take (i := 20) (oi := ⟨some 44, _, _, _, _, _⟩) (v := ?_) rfl (by kernel_rfl) (by kernel_rfl) (by kernel_rfl) (fun _ _ _ h => h) (Or.inl ⟨by rfl, ?_⟩) (by assumption) ?_
      rotate_left
      · (intro w hSw; (try dsimp only at hSw); go_simp; try with_reducible rfl)
      try simp only [Act.put, List.setIfInBounds_toArray, List.set_cons_zero, List.set_cons_succ]
      refine wpAnyH_take (i := 21) (oi := ⟨some 45, _, _, _, _, _⟩) (v := ?_) rfl (by kernel_rfl) (by kernel_rfl) (by kernel_rfl) (fun _ _ _ h => h) (Or.inl ⟨by rfl, ?_⟩) (by assumption) ?_
      rotate_left
      · (intro w hSw; (try dsimp only at hSw); go_simp; try with_reducible rfl)
      try simp only [Act.put, List.setIfInBounds_toArray, List.set_cons_zero, List.set_cons_succ]
      refine wpAnyH_take (i := 22) (oi := ⟨some 46, _, _, _, _, _⟩) (v := ?_) rfl (by kernel_rfl) (by kernel_rfl) (by kernel_rfl) (fun _ _ _ h => h) (Or.inl ⟨by rfl, ?_⟩) (by assumption) ?_
      rotate_left
      · (intro w hSw; (try dsimp only at hSw); go_simp; try with_reducible rfl)
      try simp only [Act.put, List.setIfInBounds_toArray, List.set_cons_zero, List.set_cons_succ]
      refine wpAnyH_take (i := 23) (oi := ⟨some 47, _, _, _, _, _⟩) (v := .agg _) rfl (by kernel_rfl) (by kernel_rfl) (by kernel_rfl) (fun _ _ _ h => h) (yields_load_box (by kernel_rfl) 27 _ rfl _ rfl 27 _ _ (fun w h => Keep.at h 3 rfl) Tryd.underlying27 rfl (pk_size _ _ _)) (by assumption) ?_
      try simp only [Act.put, List.setIfInBounds_toArray, List.set_cons_zero, List.set_cons_succ]
      refine wpAnyH_take (i := 24) (oi := ⟨some 48, _, _, _, _, _⟩) (v := .agg _) rfl (by kernel_rfl) (by kernel_rfl) (by kernel_rfl) (fun _ _ _ h => h) (yields_load_box (by kernel_rfl) 27 _ rfl _ rfl 27 _ _ (fun w h => Keep.at h 3 rfl) Tryd.underlying27 rfl (pk_size _ _ _)) (by assumption) ?_
      try simp only [Act.put, List.setIfInBounds_toArray, List.set_cons_zero, List.set_cons_succ]
      refine wpAnyH_ready (rs := [25]) (by kernel_rfl) (by simp) ?_
      refine AllReadyH.cons (o := ⟨some 49, _, _, _, _, _⟩) rfl (fun K hK => ?_) AllReadyH.nil
      go_simp
      (go_at_call 24; refine Calls.mono (HS5.out _ HK.out.env (HA.out.below HK.out.low) (HA.out.below HK.out.low)) ?_; rintro e w9 ⟨rfl, hb1⟩; replace HK := Lib.hid (HK.out.below hb1); replace HOO := Lib.hid (own_only HOO.out (Only.of_below hb1 (fun _ => False)) (fun _ _ h => h)); replace HOC := Lib.hid (own_only HOC.out (Only.of_below hb1 (fun _ => False)) (fun _ _ h => h)); go_simp)
      refine hK.out _ _ ?_ (fun hHeld => ?_)
      · (first | exact HK.out | exact HK.out.drew | exact HK.out.drewN _)
      clear hK K hHeld
      have hHeld := HK.out
      try simp only [Act.put, List.setIfInBounds_toArray, List.set_cons_zero, List.set_cons_succ]
      refine wpAnyH_take (i := 26) (oi := ⟨some 50, _, _, _, _, _⟩) (v := ?_) rfl (by kernel_rfl) (by kernel_rfl) (by kernel_rfl) (fun _ _ _ h => h) (Or.inl ⟨by rfl, ?_⟩) (by assumption) ?_
      rotate_left
      · (intro w hSw; (try dsimp only at hSw); go_simp; try with_reducible rfl)
      try simp only [Act.put, List.setIfInBounds_toArray, List.set_cons_zero, List.set_cons_succ]
      refine wpAnyH_take (i := 27) (oi := ⟨some 51, _, _, _, _, _⟩) (v := ?_) rfl (by kernel_rfl) (by kernel_rfl) (by kernel_rfl) (fun _ _ _ h => h) (Or.inl ⟨by rfl, ?_⟩) (by assumption) ?_
      rotate_left
      · (intro w hSw; (try dsimp only at hSw); go_simp; try with_reducible rfl)
      try simp only [Act.put, List.setIfInBounds_toArray, List.set_cons_zero, List.set_cons_succ]
      refine wpAnyH_done (by kernel_rfl) ?_ _
      refine NoPanic.normal ?_
      have hX1 := (HK.out.at 1 rfl).cells
      have k22 : (pkV p a1 c1)[22]? = some (.slice a1 p.subs.length c1) := rfl
      go_wp2_with fail
      clear hX1
      have hownf := own_head HOO.out
      go_loopw [9] (fun i wr => ∃ k : Nat, k ≤ p.subs.length ∧ i = .int .i64 k ∧ Hid (∃ xs, wr.ownsRow w.heap.size 31 2 (.slice a1 p.subs.length c1) p.subs.length xs) ∧ Hid (wr.ownsRow w.heap.size 31 2 (.slice a2 p.subs.length c2) p.subs.length (subCells p.subs)) ∧ Hid (Keep w [(w6.heap.size, pkV p a2 c2, 27), (w4.heap.size, pkV p a1 c1, 27), (w.heap.size + 1, pkV q a' c', 27), (w.heap.size, pkV p a c, 27)] [] wr)) (fun i _ => p.subs.length - (intOf i).toNat)
      case atStart => exact ⟨0, by omega, rfl, ⟨_, HOO.out⟩, HOC, HK⟩
      case round =>
        clear HOO HOC HK
        obtain ⟨k, hk, rfl, HOO, HOC, HK⟩ := hrel
        have hX1 := (HK.out.at 1 rfl).cells
        by_cases hlt : k < p.subs.length
        · obtain ⟨g, rfl⟩ := hownf (by omega)
          obtain ⟨xs, hO⟩ := HOO.out
          have hC := fun j (hj : j < p.subs.length * 2) => (RowAt.of_own hO).cellAt j hj
          have hc1 := hC (k * 2) (by omega)
          obtain ⟨x0, hx0⟩ : ∃ x, xs[k * 2]? = some x := ⟨_, List.getElem?_eq_getElem (by rw [hO.1]; omega)⟩
          rw [hx0] at hc1
          have hfr := (RowAt.of_own hO).frozenAt (k * 2)
          have HO2 := Lib.hid hO
          have hlg := own_lt hO rfl
          clear hO hC hx0 HOO
          go_wp2_with fail
          go_roundw
          case rel => exact ⟨k + 1, by omega, by first | rfl | go_num, ⟨_, own_set HO2.out (k * 2) (.string (b1 [115, 112, 111, 105, 108, 116]))⟩, own_only HOC.out (Only.setCell (F := fun j => j = g) (Only.refl _ _) (p := ⟨g, k * 2, none⟩) (Or.inl rfl) _) (fun g' hg' => HNE.out g' hg' g rfl), HK.out.other (Only.setCell (F := fun j => j = g) (Only.refl _ _) (p := ⟨g, k * 2, none⟩) (Or.inl rfl) _) hlg.2 (by intro x hx; simp only [List.mem_cons, List.not_mem_nil, or_false] at hx; rcases hx with rfl | rfl | rfl | rfl; exact (HK.out.at 0 rfl).ne_own HO2.out (by decide) g rfl; exact (HK.out.at 1 rfl).ne_own HO2.out (by decide) g rfl; exact (HK.out.at 2 rfl).ne_own HO2.out (by decide) g rfl; exact (HK.out.at 3 rfl).ne_own HO2.out (by decide) g rfl)⟩
          case measure => simp [intOf]; omega
        · have hk2 : k = p.subs.length := by omega
          subst hk2
          go_wp2_with (first
      | ((with_reducible show wpList _ _ _ (⟨_, .load 27 _, _, _, _, _⟩ :: _) _ _); refine wpList_load_box rfl 27 _ rfl _ rfl 27 _ (by first | exact HK.out.at 0 rfl | exact HK.out.at 1 rfl | exact HK.out.at 2 rfl | exact HK.out.at 3 rfl) _ Tryd.underlying27 rfl (pk_size _ _ _) ?_)
      | (go_at_call 25; refine Calls.mono (HS4.out _ _ _ HK.out.env (own_cells HOC.out) (HA.out.below HK.out.low)) ?_; rintro e w1 ⟨rfl, hb1⟩; replace HK := Lib.hid (HK.out.below hb1); clear hb1)
      | (go_at_call 16; refine Calls.mono (law03_awake _ HK.out.env) ?_; rintro e w1 ⟨rfl, hb1⟩; replace HK := Lib.hid (HK.out.below hb1); clear hb1))
          go_ret
          exact ⟨rfl, HK.out.low⟩
  · have hs1 := fun w1 a2 c2 hE (h1 : CellsA w1 a (subCells p.subs)) (h2 : CellsA w1 a2 (subCells p.subs)) => packet_Same p p a a2 c c2 w1 hE HPP.out HPP.out h1 h2
    have hs2 := fun w1 a2 c2 hE (h1 : CellsA w1 a (subCells p.subs)) (h2 : CellsA w1 a2 (subCells p.subs)) => ref03_Same p p a a2 c c2 w1 hE HPP.out HPP.out h1 h2
    have hs3 := fun w1 a2 c2 hE (h1 : CellsA w1 a2 (subCells p.subs)) (h2 : CellsA w1 a (subCells p.subs)) => packet_Same p p a2 a c2 c w1 hE HPP.out HPP.out h1 h2
    rw [show decide (p = p) = true by simp] at hs1 hs2 hs3
    have HS1 := Lib.hid hs1
    have HS2 := Lib.hid hs2
    have HS3 := Lib.hid hs3
    clear hs1 hs2 hs3
    go_enter Tryd.func5, Tryd.ntmps5
    go_upto_region 5 with (first
      | ((with_reducible show wpList _ _ _ (⟨some 10, _, _, _, _, _⟩ :: _) _ _); refine wpList_load_box rfl 27 _ rfl _ rfl 27 _ (HK.out.at 1 rfl) _ Tryd.underlying27 rfl (pk_size _ _ _) ?_)
      | ((with_reducible show wpList _ _ _ (⟨some 13, _, _, _, _, _⟩ :: _) _ _); refine wpList_load_boxG (by kernel_rfl) 27 _ rfl _ rfl 27 _ (by (first | exact HK.out.at 0 rfl | exact HK.out.at 1 rfl)) _ Tryd.underlying27 rfl (pk_size _ _ _) ?_)
      | (go_at_call 17; (with_reducible refine Calls.mono (HGP.out _ (HA.out.below HK.out.low)) ?_); rintro e w1 ⟨rfl, hb1⟩; replace HK := Lib.hid (HK.out.below hb1); clear hb1)
      | (go_at_call 17; (with_reducible refine Calls.mono (HGQ.out _ (HB.out.below HK.out.low)) ?_); rintro e w1 ⟨rfl, hb1⟩; replace HK := Lib.hid (HK.out.below hb1); clear hb1)
      | ((with_reducible show wpList _ _ _ (⟨some 18, _, _, _, _, _⟩ :: _) _ _); refine wpList_load_box rfl 27 _ rfl _ rfl 27 _ (HK.out.at 1 rfl) _ Tryd.underlying27 rfl (pk_size _ _ _) ?_)
      | (go_at_call 22; refine Calls.mono (ref03_Copy p a c _ HK.out.env HPP.out hnil (HA.out.below HK.out.low)) ?_; rintro e w3 ⟨a8, c8, rfl, hown, hb1⟩; have HOB := Lib.hid (own_base hown HK.out.size); clear hown; replace HK := Lib.hid (HK.out.below hb1); clear hb1)
      | ((with_reducible show wpList _ _ _ (⟨none, .store 27 _ _, _, _, _, _⟩ :: _) _ _); refine wpList_store_box rfl 27 _ _ rfl (w.heap.size + 1) (pkV p a8 c8) rfl rfl 27 (pkV q a' c') (HK.out.at 0 rfl) (pk_size _ _ _) rfl (pk_one _ _ _) ?_; intro w9 hbx hon; replace HOB := Lib.hid (own_only HOB.out hon ((HK.out.at 0 rfl).ne_own HOB.out (by decide))); replace HK := Lib.hid (HK.out.only (i := 0) rfl hon hbx)))
    go_wp2_with (first
      | ((with_reducible show wpList _ _ _ (⟨some 20, _, _, _, _, _⟩ :: _) _ _); refine wpList_load_box rfl 27 _ rfl _ rfl 27 _ (HK.out.at 1 rfl) _ Tryd.underlying27 rfl (pk_size _ _ _) ?_)
      | (go_at_call 22; refine Calls.mono (ref03_Copy p a c _ HK.out.env HPP.out hnil (HA.out.below HK.out.low)) ?_; rintro e w4 ⟨a1, c1, rfl, hown, hb1⟩; replace HOB := Lib.hid (own_only HOB.out (Only.of_below hb1 (fun _ => False)) (fun _ _ h => h)); have HOO := Lib.hid (own_base hown HK.out.size); clear hown; replace HK := Lib.hid (HK.out.below hb1); clear hb1)
      | ((with_reducible show wpList _ _ _ (⟨some 7, .alloc 27, _, _, _, _⟩ :: _) _ _); obtain ⟨i0, z0, hi0, hz0, hs0, hc0⟩ := infoPkt; refine wpList_new rfl 27 rfl _ rfl rfl _ _ rfl rfl i0 z0 hi0 hz0 (pkV p a1 c1) hs0 hc0 (pk_one _ _ _) rfl rfl ?_; replace HK := Lib.hid (HK.out.alloc (pkV p a1 c1) 27); clear i0 z0 hi0 hz0 hs0 hc0; replace HOB := Lib.hid (HOB.out.alloc (.cells (pkV p a1 c1) 27)); replace HOO := Lib.hid (HOO.out.alloc (.cells (pkV p a1 c1) 27)); generalize hgw : World.alloc _ _ = w5 at HK HOO HOB ⊢; clear hgw)
      | ((with_reducible show wpList _ _ _ (⟨some 22, _, _, _, _, _⟩ :: _) _ _); refine wpList_load_box rfl 27 _ rfl _ rfl 27 _ (HK.out.at 0 rfl) _ Tryd.underlying27 rfl (pk_size _ _ _) ?_)
      | (go_at_call 23; refine Calls.mono (packet_Copy p a1 c1 _ HK.out.env HPP.out (own_nil HOO.out) (own_cells HOO.out)) ?_; rintro e w6 ⟨a2, c2, rfl, hown, hb1⟩; have HNE := Lib.hid (own_apart HOO.out hown); replace HOB := Lib.hid (own_only HOB.out (Only.of_below hb1 (fun _ => False)) (fun _ _ h => h)); replace HOO := Lib.hid (own_only HOO.out (Only.of_below hb1 (fun _ => False)) (fun _ _ h => h)); have HOC := Lib.hid (own_base hown HK.out.size); clear hown; replace HK := Lib.hid (HK.out.below hb1); clear hb1)
      | ((with_reducible show wpList _ _ _ (⟨some 8, .alloc 27, _, _, _, _⟩ :: _) _ _); obtain ⟨i0, z0, hi0, hz0, hs0, hc0⟩ := infoPkt; refine wpList_new rfl 27 rfl _ rfl rfl _ _ rfl rfl i0 z0 hi0 hz0 (pkV p a2 c2) hs0 hc0 (pk_one _ _ _) rfl rfl ?_; replace HK := Lib.hid (HK.out.alloc (pkV p a2 c2) 27); clear i0 z0 hi0 hz0 hs0 hc0; replace HOB := Lib.hid (HOB.out.alloc (.cells (pkV p a2 c2) 27)); replace HOO := Lib.hid (HOO.out.alloc (.cells (pkV p a2 c2) 27)); replace HOC := Lib.hid (HOC.out.alloc (.cells (pkV p a2 c2) 27)); generalize hgw : World.alloc _ _ = w7 at HK HOO HOC HOB ⊢; clear hgw))
    refine wp_region_noPanic ?_
    refine wp_region_held_drew (S := fun w' => Keep w [(w6.heap.size, pkV p a2 c2, 27), (w4.heap.size, pkV p a1 c1, 27), (w.heap.size + 1, pkV p a8 c8, 27), (w.heap.size, pkV p a c, 27)] [] w') (by kernel_rfl) ?_ (fun hHeld => ?_)
    · (first | exact HK.out | exact HK.out.drew | exact HK.out.drewN _)
    replace HK := Lib.hid hHeld
    replace HOO := Lib.hid (own_only HOO.out (Only.of_below (below_draws (n := 1) rfl) (fun _ => False)) (fun _ _ h => h))
    replace HOC := Lib.hid (own_only HOC.out (Only.of_below (below_draws (n := 1) rfl) (fun _ => False)) (fun _ _ h => h))
    replace HOB := Lib.hid (own_only HOB.out (Only.of_below (below_draws (n := 1) rfl) (fun _ => False)) (fun _ _ h => h))
    refine wpAnyH_take (i := 0) (oi := ⟨some 24, _, _, _, _, _⟩) (v := .agg _) rfl (by kernel_rfl) (by kernel_rfl) (by kernel_rfl) (fun _ _ _ h => h) (yields_load_box (by kernel_rfl) 27 _ rfl _ rfl 27 _ _ (fun w h => Keep.at h 3 rfl) Tryd.underlying27 rfl (pk_size _ _ _)) (by assumption) ?_
    try simp only [Act.put, List.setIfInBounds_toArray, List.set_cons_zero, List.set_cons_succ]
    refine wpAnyH_take (i := 1) (oi := ⟨some 25, _, _, _, _, _⟩) (v := .agg _) rfl (by kernel_rfl) (by kernel_rfl) (by kernel_rfl) (fun _ _ _ h => h) (yields_load_box (by kernel_rfl) 27 _ rfl _ rfl 27 _ _ (fun w h => Keep.at h 2 rfl) Tryd.underlying27 rfl (pk_size _ _ _)) (by assumption) ?_
    try simp only [Act.put, List.setIfInBounds_toArray, List.set_cons_zero, List.set_cons_succ]
    refine wpAnyH_take (i := 3) (oi := ⟨some 27, _, _, _, _, _⟩) (v := .agg _) rfl (by kernel_rfl) (by kernel_rfl) (by kernel_rfl) (fun _ _ _ h => h) (yields_load_box (by kernel_rfl) 27 _ rfl _ rfl 27 _ _ (fun w h => Keep.at h 3 rfl) Tryd.underlying27 rfl (pk_size _ _ _)) (by assumption) ?_
    try simp only [Act.put, List.setIfInBounds_toArray, List.set_cons_zero, List.set_cons_succ]
    refine wpAnyH_take (i := 4) (oi := ⟨some 28, _, _, _, _, _⟩) (v := .agg _) rfl (by kernel_rfl) (by kernel_rfl) (by kernel_rfl) (fun _ _ _ h => h) (yields_load_box (by kernel_rfl) 27 _ rfl _ rfl 27 _ _ (fun w h => Keep.at h 2 rfl) Tryd.underlying27 rfl (pk_size _ _ _)) (by assumption) ?_
    try simp only [Act.put, List.setIfInBounds_toArray, List.set_cons_zero, List.set_cons_succ]
    refine wpAnyH_ready (rs := [2]) (by kernel_rfl) (by simp) ?_
    refine AllReadyH.cons (o := ⟨some 26, _, _, _, _, _⟩) rfl (fun K hK => ?_) AllReadyH.nil
    go_simp
    (go_at_call 24; refine Calls.mono (HS1.out _ _ _ HK.out.env (HA.out.below HK.out.low) (own_cells HOB.out)) ?_; rintro e w9 ⟨rfl, hb1⟩; replace HK := Lib.hid (HK.out.below hb1); replace HOO := Lib.hid (own_only HOO.out (Only.of_below hb1 (fun _ => False)) (fun _ _ h => h)); replace HOC := Lib.hid (own_only HOC.out (Only.of_below hb1 (fun _ => False)) (fun _ _ h => h)); replace HOB := Lib.hid (own_only HOB.out (Only.of_below hb1 (fun _ => False)) (fun _ _ h => h)); go_simp)
    refine hK.out _ _ ?_ (fun hHeld => ?_)
    · (first | exact HK.out | exact HK.out.drew | exact HK.out.drewN _)
    clear hK K hHeld
    have hHeld := HK.out
    try simp only [Act.put, List.setIfInBounds_toArray, List.set_cons_zero, List.set_cons_succ]
    refine wpAnyH_ready (rs := [5]) (by kernel_rfl) (by simp) ?_
    refine AllReadyH.cons (o := ⟨some 29, _, _, _, _, _⟩) rfl (fun K hK => ?_) AllReadyH.nil
    go_simp
    (go_at_call 25; refine Calls.mono (HS2.out _ _ _ HK.out.env (HA.out.below HK.out.low) (own_cells HOB.out)) ?_; rintro e w9 ⟨rfl, hb1⟩; replace HK := Lib.hid (HK.out.below hb1); replace HOO := Lib.hid (own_only HOO.out (Only.of_below hb1 (fun _ => False)) (fun _ _ h => h)); replace HOC := Lib.hid (own_only HOC.out (Only.of_below hb1 (fun _ => False)) (fun _ _ h => h)); replace HOB := Lib.hid (own_only HOB.out (Only.of_below hb1 (fun _ => False)) (fun _ _ h => h)); go_simp)
    refine hK.out _ _ ?_ (fun hHeld => ?_)
    · (first | exact HK.out | exact HK.out.drew | exact HK.out.drewN _)
    clear hK K hHeld
    have hHeld := HK.out
    try simp only [Act.put, List.setIfInBounds_toArray, List.set_cons_zero, List.set_cons_succ]
    refine wpAnyH_take (i := 6) (oi := ⟨some 30, _, _, _, _, _⟩) (v := ?_) rfl (by kernel_rfl) (by kernel_rfl) (by kernel_rfl) (fun _ _ _ h => h) (Or.inl ⟨by rfl, ?_⟩) (by assumption) ?_
    rotate_left
    · (intro w hSw; (try dsimp only at hSw); go_simp; try with_reducible rfl)
    try simp only [Act.put, List.setIfInBounds_toArray, List.set_cons_zero, List.set_cons_succ]
    refine wpAnyH_take (i := 7) (oi := ⟨some 31, _, _, _, _, _⟩) (v := ?_) rfl (by kernel_rfl) (by kernel_rfl) (by kernel_rfl) (fun _ _ _ h => h) (Or.inl ⟨by rfl, ?_⟩) (by assumption) ?_
    rotate_left
    · (intro w hSw; (try dsimp only at hSw); go_simp; try with_reducible rfl)
    try simp only [Act.put, List.setIfInBounds_toArray, List.set_cons_zero, List.set_cons_succ]
    refine wpAnyH_take (i := 8) (oi := ⟨some 32, _, _, _, _, _⟩) (v := .agg _) rfl (by kernel_rfl) (by kernel_rfl) (by kernel_rfl) (fun _ _ _ h => h) (yields_load_box (by kernel_rfl) 27 _ rfl _ rfl 27 _ _ (fun w h => Keep.at h 2 rfl) Tryd.underlying27 rfl (pk_size _ _ _)) (by assumption) ?_
    try simp only [Act.put, List.setIfInBounds_toArray, List.set_cons_zero, List.set_cons_succ]
    refine wpAnyH_take (i := 9) (oi := ⟨some 33, _, _, _, _, _⟩) (v := .agg _) rfl (by kernel_rfl) (by kernel_rfl) (by kernel_rfl) (fun _ _ _ h => h) (yields_load_box (by kernel_rfl) 27 _ rfl _ rfl 27 _ _ (fun w h => Keep.at h 3 rfl) Tryd.underlying27 rfl (pk_size _ _ _)) (by assumption) ?_
    try simp only [Act.put, List.setIfInBounds_toArray, List.set_cons_zero, List.set_cons_succ]
    refine wpAnyH_take (i := 11) (oi := ⟨some 35, _, _, _, _, _⟩) (v := .agg _) rfl (by kernel_rfl) (by kernel_rfl) (by kernel_rfl) (fun _ _ _ h => h) (yields_load_box (by kernel_rfl) 27 _ rfl _ rfl 27 _ _ (fun w h => Keep.at h 3 rfl) Tryd.underlying27 rfl (pk_size _ _ _)) (by assumption) ?_
    try simp only [Act.put, List.setIfInBounds_toArray, List.set_cons_zero, List.set_cons_succ]
    refine wpAnyH_take (i := 12) (oi := ⟨some 36, _, _, _, _, _⟩) (v := .agg _) rfl (by kernel_rfl) (by kernel_rfl) (by kernel_rfl) (fun _ _ _ h => h) (yields_load_box (by kernel_rfl) 27 _ rfl _ rfl 27 _ _ (fun w h => Keep.at h 2 rfl) Tryd.underlying27 rfl (pk_size _ _ _)) (by assumption) ?_
    try simp only [Act.put, List.setIfInBounds_toArray, List.set_cons_zero, List.set_cons_succ]
    refine wpAnyH_ready (rs := [10]) (by kernel_rfl) (by simp) ?_
    refine AllReadyH.cons (o := ⟨some 34, _, _, _, _, _⟩) rfl (fun K hK => ?_) AllReadyH.nil
    go_simp
    (go_at_call 24; refine Calls.mono (HS3.out _ _ _ HK.out.env (own_cells HOB.out) (HA.out.below HK.out.low)) ?_; rintro e w9 ⟨rfl, hb1⟩; replace HK := Lib.hid (HK.out.below hb1); replace HOO := Lib.hid (own_only HOO.out (Only.of_below hb1 (fun _ => False)) (fun _ _ h => h)); replace HOC := Lib.hid (own_only HOC.out (Only.of_below hb1 (fun _ => False)) (fun _ _ h => h)); replace HOB := Lib.hid (own_only HOB.out (Only.of_below hb1 (fun _ => False)) (fun _ _ h => h)); go_simp)
    refine hK.out _ _ ?_ (fun hHeld => ?_)
    · (first | exact HK.out | exact HK.out.drew | exact HK.out.drewN _)
    clear hK K hHeld
    have hHeld := HK.out
    try simp only [Act.put, List.setIfInBounds_toArray, List.set_cons_zero, List.set_cons_succ]
    refine wpAnyH_ready (rs := [13]) (by kernel_rfl) (by simp) ?_
    refine AllReadyH.cons (o := ⟨some 37, _, _, _, _, _⟩) rfl (fun K hK => ?_) AllReadyH.nil
    go_simp
    (go_at_call 24; refine Calls.mono (HS1.out _ _ _ HK.out.env (HA.out.below HK.out.low) (own_cells HOB.out)) ?_; rintro e w9 ⟨rfl, hb1⟩; replace HK := Lib.hid (HK.out.below hb1); replace HOO := Lib.hid (own_only HOO.out (Only.of_below hb1 (fun _ => False)) (fun _ _ h => h)); replace HOC := Lib.hid (own_only HOC.out (Only.of_below hb1 (fun _ => False)) (fun _ _ h => h)); replace HOB := Lib.hid (own_only HOB.out (Only.of_below hb1 (fun _ => False)) (fun _ _ h => h)); go_simp)
    refine hK.out _ _ ?_ (fun hHeld => ?_)
    · (first | exact HK.out | exact HK.out.drew | exact HK.out.drewN _)
    clear hK K hHeld
    have hHeld := HK.out
    try simp only [Act.put, List.setIfInBounds_toArray, List.set_cons_zero, List.set_cons_succ]
    refine wpAnyH_take (i := 14) (oi := ⟨some 38, _, _, _, _, _⟩) (v := ?_) rfl (by kernel_rfl) (by kernel_rfl) (by kernel_rfl) (fun _ _ _ h => h) (Or.inl ⟨by rfl, ?_⟩) (by assumption) ?_
    rotate_left
    · (intro w hSw; (try dsimp only at hSw); go_simp; try with_reducible rfl)
    try simp only [Act.put, List.setIfInBounds_toArray, List.set_cons_zero, List.set_cons_succ]
    refine wpAnyH_take (i := 15) (oi := ⟨some 39, _, _, _, _, _⟩) (v := ?_) rfl (by kernel_rfl) (by kernel_rfl) (by kernel_rfl) (fun _ _ _ h => h) (Or.inl ⟨by rfl, ?_⟩) (by assumption) ?_
    rotate_left
    · (intro w hSw; (try dsimp only at hSw); go_simp; try with_reducible rfl)
    try simp only [Act.put, List.setIfInBounds_toArray, List.set_cons_zero, List.set_cons_succ]
    refine wpAnyH_take (i := 16) (oi := ⟨some 40, _, _, _, _, _⟩) (v := ?_) rfl (by kernel_rfl) (by kernel_rfl) (by kernel_rfl) (fun _ _ _ h => h) (Or.inl ⟨by rfl, ?_⟩) (by assumption) ?_
    rotate_left
    · (intro w hSw; (try dsimp only at hSw); go_simp; try with_reducible rfl)
    try simp only [Act.put, List.setIfInBounds_toArray, List.set_cons_zero, List.set_cons_succ]
    refine wpAnyH_take (i := 17) (oi := ⟨some 41, _, _, _, _, _⟩) (v := .agg _) rfl (by kernel_rfl) (by kernel_rfl) (by kernel_rfl) (fun _ _ _ h => h) (yields_load_box (by kernel_rfl) 27 _ rfl _ rfl 27 _ _ (fun w h => Keep.at h 0 rfl) Tryd.underlying27 rfl (pk_size _ _ _)) (by assumption) ?_
    try simp only [Act.put, List.setIfInBounds_toArray, List.set_cons_zero, List.set_cons_succ]
    refine wpAnyH_take (i := 18) (oi := ⟨some 42, _, _, _, _, _⟩) (v := .agg _) rfl (by kernel_rfl) (by kernel_rfl) (by kernel_rfl) (fun _ _ _ h => h) (yields_load_box (by kernel_rfl) 27 _ rfl _ rfl 27 _ _ (fun w h => Keep.at h 3 rfl) Tryd.underlying27 rfl (pk_size _ _ _)) (by assumption) ?_
    try simp only [Act.put, List.setIfInBounds_toArray, List.set_cons_zero, List.set_cons_succ]
    refine wpAnyH_ready (rs := [19]) (by kernel_rfl) (by simp) ?_
    refine AllReadyH.cons (o := ⟨some 43, _, _, _, _, _⟩) rfl (fun K hK => ?_) AllReadyH.nil
    go_simp
    (go_at_call 25; refine Calls.mono (HS4.out _ _ _ HK.out.env (own_cells HOC.out) (HA.out.below HK.out.low)) ?_; rintro e w9 ⟨rfl, hb1⟩; replace HK := Lib.hid (HK.out.below hb1); replace HOO := Lib.hid (own_only HOO.out (Only.of_below hb1 (fun _ => False)) (fun _ _ h => h)); replace HOC := Lib.hid (own_only HOC.out (Only.of_below hb1 (fun _ => False)) (fun _ _ h => h)); replace HOB := Lib.hid (own_only HOB.out (Only.of_below hb1 (fun _ => False)) (fun _ _ h => h)); go_simp)
    refine hK.out _ _ ?_ (fun hHeld => ?_)
    · (first | exact HK.out | exact HK.out.drew | exact HK.out.drewN _)
    clear hK K hHeld
    have hHeld := HK.out
    try simp only [Act.put, List.setIfInBounds_toArray, List.set_cons_zero, List.set_cons_succ]
    refine wpAnyH_take (i := 20) (oi := ⟨some 44, _, _, _, _, _⟩) (v := ?_) rfl (by kernel_rfl) (by kernel_rfl) (by kernel_rfl) (fun _ _ _ h => h) (Or.inl ⟨by rfl, ?_⟩) (by assumption) ?_
    rotate_left
    · (intro w hSw; (try dsimp only at hSw); go_simp; try with_reducible rfl)
    try simp only [Act.put, List.setIfInBounds_toArray, List.set_cons_zero, List.set_cons_succ]
    refine wpAnyH_take (i := 21) (oi := ⟨some 45, _, _, _, _, _⟩) (v := ?_) rfl (by kernel_rfl) (by kernel_rfl) (by kernel_rfl) (fun _ _ _ h => h) (Or.inl ⟨by rfl, ?_⟩) (by assumption) ?_
    rotate_left
    · (intro w hSw; (try dsimp only at hSw); go_simp; try with_reducible rfl)
    try simp only [Act.put, List.setIfInBounds_toArray, List.set_cons_zero, List.set_cons_succ]
    refine wpAnyH_take (i := 22) (oi := ⟨some 46, _, _, _, _, _⟩) (v := ?_) rfl (by kernel_rfl) (by kernel_rfl) (by kernel_rfl) (fun _ _ _ h => h) (Or.inl ⟨by rfl, ?_⟩) (by assumption) ?_
    rotate_left
    · (intro w hSw; (try dsimp only at hSw); go_simp; try with_reducible rfl)
    try simp only [Act.put, List.setIfInBounds_toArray, List.set_cons_zero, List.set_cons_succ]
    refine wpAnyH_take (i := 23) (oi := ⟨some 47, _, _, _, _, _⟩) (v := .agg _) rfl (by kernel_rfl) (by kernel_rfl) (by kernel_rfl) (fun _ _ _ h => h) (yields_load_box (by kernel_rfl) 27 _ rfl _ rfl 27 _ _ (fun w h => Keep.at h 3 rfl) Tryd.underlying27 rfl (pk_size _ _ _)) (by assumption) ?_
    try simp only [Act.put, List.setIfInBounds_toArray, List.set_cons_zero, List.set_cons_succ]
    refine wpAnyH_take (i := 24) (oi := ⟨some 48, _, _, _, _, _⟩) (v := .agg _) rfl (by kernel_rfl) (by kernel_rfl) (by kernel_rfl) (fun _ _ _ h => h) (yields_load_box (by kernel_rfl) 27 _ rfl _ rfl 27 _ _ (fun w h => Keep.at h 3 rfl) Tryd.underlying27 rfl (pk_size _ _ _)) (by assumption) ?_
    try simp only [Act.put, List.setIfInBounds_toArray, List.set_cons_zero, List.set_cons_succ]
    refine wpAnyH_ready (rs := [25]) (by kernel_rfl) (by simp) ?_
    refine AllReadyH.cons (o := ⟨some 49, _, _, _, _, _⟩) rfl (fun K hK => ?_) AllReadyH.nil
    go_simp
    (go_at_call 24; refine Calls.mono (HS5.out _ HK.out.env (HA.out.below HK.out.low) (HA.out.below HK.out.low)) ?_; rintro e w9 ⟨rfl, hb1⟩; replace HK := Lib.hid (HK.out.below hb1); replace HOO := Lib.hid (own_only HOO.out (Only.of_below hb1 (fun _ => False)) (fun _ _ h => h)); replace HOC := Lib.hid (own_only HOC.out (Only.of_below hb1 (fun _ => False)) (fun _ _ h => h)); replace HOB := Lib.hid (own_only HOB.out (Only.of_below hb1 (fun _ => False)) (fun _ _ h => h)); go_simp)
    refine hK.out _ _ ?_ (fun hHeld => ?_)
    · (first | exact HK.out | exact HK.out.drew | exact HK.out.drewN _)
    clear hK K hHeld
    have hHeld := HK.out
    try simp only [Act.put, List.setIfInBounds_toArray, List.set_cons_zero, List.set_cons_succ]
    refine wpAnyH_take (i := 26) (oi := ⟨some 50, _, _, _, _, _⟩) (v := ?_) rfl (by kernel_rfl) (by kernel_rfl) (by kernel_rfl) (fun _ _ _ h => h) (Or.inl ⟨by rfl, ?_⟩) (by assumption) ?_
    rotate_left
    · (intro w hSw; (try dsimp only at hSw); go_simp; try with_reducible rfl)
    try simp only [Act.put, List.setIfInBounds_toArray, List.set_cons_zero, List.set_cons_succ]
    refine wpAnyH_take (i := 27) (oi := ⟨some 51, _, _, _, _, _⟩) (v := ?_) rfl (by kernel_rfl) (by kernel_rfl) (by kernel_rfl) (fun _ _ _ h => h) (Or.inl ⟨by rfl, ?_⟩) (by assumption) ?_
    rotate_left
    · (intro w hSw; (try dsimp only at hSw); go_simp; try with_reducible rfl)
    try simp only [Act.put, List.setIfInBounds_toArray, List.set_cons_zero, List.set_cons_succ]
    refine wpAnyH_done (by kernel_rfl) ?_ _
    refine NoPanic.normal ?_
    have hX1 := (HK.out.at 1 rfl).cells
    have k22 : (pkV p a1 c1)[22]? = some (.slice a1 p.subs.length c1) := rfl
    go_wp2_with fail
    clear hX1
    have hownf := own_head HOO.out
    go_loopw [9] (fun i wr => ∃ k : Nat, k ≤ p.subs.length ∧ i = .int .i64 k ∧ Hid (∃ xs, wr.ownsRow w.heap.size 31 2 (.slice a1 p.subs.length c1) p.subs.length xs) ∧ Hid (wr.ownsRow w.heap.size 31 2 (.slice a2 p.subs.length c2) p.subs.length (subCells p.subs)) ∧ Hid (Keep w [(w6.heap.size, pkV p a2 c2, 27), (w4.heap.size, pkV p a1 c1, 27), (w.heap.size + 1, pkV p a8 c8, 27), (w.heap.size, pkV p a c, 27)] [] wr)) (fun i _ => p.subs.length - (intOf i).toNat)
    case atStart => exact ⟨0, by omega, rfl, ⟨_, HOO.out⟩, HOC, HK⟩
    case round =>
      clear HOO HOC HK HOB
      obtain ⟨k, hk, rfl, HOO, HOC, HK⟩ := hrel
      have hX1 := (HK.out.at 1 rfl).cells
      by_cases hlt : k < p.subs.length
      · obtain ⟨g, rfl⟩ := hownf (by omega)
        obtain ⟨xs, hO⟩ := HOO.out
        have hC := fun j (hj : j < p.subs.length * 2) => (RowAt.of_own hO).cellAt j hj
        have hc1 := hC (k * 2) (by omega)
        obtain ⟨x0, hx0⟩ : ∃ x, xs[k * 2]? = some x := ⟨_, List.getElem?_eq_getElem (by rw [hO.1]; omega)⟩
        rw [hx0] at hc1
        have hfr := (RowAt.of_own hO).frozenAt (k * 2)
        have HO2 := Lib.hid hO
        have hlg := own_lt hO rfl
        clear hO hC hx0 HOO
        go_wp2_with fail
        go_roundw
        case rel => exact ⟨k + 1, by omega, by first | rfl | go_num, ⟨_, own_set HO2.out (k * 2) (.string (b1 [115, 112, 111, 105, 108, 116]))⟩, own_only HOC.out (Only.setCell (F := fun j => j = g) (Only.refl _ _) (p := ⟨g, k * 2, none⟩) (Or.inl rfl) _) (fun g' hg' => HNE.out g' hg' g rfl), HK.out.other (Only.setCell (F := fun j => j = g) (Only.refl _ _) (p := ⟨g, k * 2, none⟩) (Or.inl rfl) _) hlg.2 (by intro x hx; simp only [List.mem_cons, List.not_mem_nil, or_false] at hx; rcases hx with rfl | rfl | rfl | rfl; exact (HK.out.at 0 rfl).ne_own HO2.out (by decide) g rfl; exact (HK.out.at 1 rfl).ne_own HO2.out (by decide) g rfl; exact (HK.out.at 2 rfl).ne_own HO2.out (by decide) g rfl; exact (HK.out.at 3 rfl).ne_own HO2.out (by decide) g rfl)⟩
        case measure => simp [intOf]; omega
      · have hk2 : k = p.subs.length := by omega
        subst hk2
        go_wp2_with (first
      | ((with_reducible show wpList _ _ _ (⟨_, .load 27 _, _, _, _, _⟩ :: _) _ _); refine wpList_load_box rfl 27 _ rfl _ rfl 27 _ (by first | exact HK.out.at 0 rfl | exact HK.out.at 1 rfl | exact HK.out.at 2 rfl | exact HK.out.at 3 rfl) _ Tryd.underlying27 rfl (pk_size _ _ _) ?_)
      | (go_at_call 25; refine Calls.mono (HS4.out _ _ _ HK.out.env (own_cells HOC.out) (HA.out.below HK.out.low)) ?_; rintro e w1 ⟨rfl, hb1⟩; replace HK := Lib.hid (HK.out.below hb1); clear hb1)
      | (go_at_call 16; refine Calls.mono (law03_awake _ HK.out.env) ?_; rintro e w1 ⟨rfl, hb1⟩; replace HK := Lib.hid (HK.out.below hb1); clear hb1))
        go_ret
        exact ⟨rfl, HK.out.low⟩
end Go.Proofs.YtkphaihbdmjogaaDoor
