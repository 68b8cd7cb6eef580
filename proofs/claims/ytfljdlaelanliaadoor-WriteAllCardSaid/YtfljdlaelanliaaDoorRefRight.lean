/- The walks of the reference's Right and Rest. Conditions: a machine's bounds on the packet's sizes; its list in its cells; the decoder's tables lie as Go lays them. -/
import Derived.Test.YtfljdlaelanliaaDoorRefOnly
import Derived.Test.YtfljdlaelanliaaDoorShort
import Derived.Test.YtfljdlaelanliaaDoorRefRest
import Derived.Test.YtfljdlaelanliaaDoorRefLists
import Derived.Test.YtfljdlaelanliaaDoorRefPacketSame
namespace Go.Proofs.YtfljdlaelanliaaDoor
open Go.RowKit
set_option maxRecDepth 100000 in
set_option maxHeartbeats 4000000 in
theorem right_a (p : Pk) (a : Option Addr) (c : Nat) (w : World) (hE : Env w) (hp : PkOk p) (ha : CellsA w a (subCells p.subs)) (f : ByteArray) (hF : ∀ w1, Calls Tryd.prog 75 #[.int .u8 (p.ty : Int)] w1 fun e w' => e = .returned (.string f) ∧ Below w1.heap.size w1 w') (_hz : f.size ≤ 300000000) (hn : (f.toList == [45]) = true) (hx : rightR p = false) : Calls Tryd.prog 60 #[.agg (pkV p a c)] w fun e w' => e = .returned (.bool (rightR p)) ∧ Below w.heap.size w w' := by
  have HF := Lib.hid hF
  have HP := Lib.hid hp
  have HX := Lib.hid hx
  have FIN := Lib.hid (show ∀ (n : Bool) (w' : World), rightR p = n → Below w.heap.size w w' → Ending.returned (.bool n) = .returned (.bool (rightR p)) ∧ Below w.heap.size w w' from by rintro n w' rfl h; exact ⟨rfl, h⟩)
  have HK := Lib.hid ((Keep.begin hE [(a, subCells p.subs)] (by intro r hr; simp at hr; subst hr; exact ha)).alloc' (pkV p a c) 27 w.heap.size rfl)
  obtain ⟨k0, k1, k2, k3, k4, k5, k6, k7, k8, k9, k10, k11, k12, k13, k14, k15, k16, k17, k18, k19, k20, k21, k22, k23⟩ := pk_at p a c
  clear hF hp hx hE ha _hz
  go_enter Tryd.func60, Tryd.ntmps60
  go_upto_region 1 with fail
  show Code.wp _ _ _ _ (w.alloc (.cells (pkV p a c) 27))
  generalize World.alloc w _ = w2 at HK ⊢
  have hX := (HK.out.at 0 rfl).cells
  go_upto_region 2 with (go_at_call 75; refine Calls.mono (HF.out _) ?_; rintro e w4 ⟨rfl, hb1⟩; replace HK := Lib.hid (HK.out.below hb1); clear hb1 hX HF)
  refine wp_region_noPanic ?_
  refine wp_region_held_drew (S := fun w' => Keep w [(w.heap.size, pkV p a c, 27)] [(a, subCells p.subs)] w') (by kernel_rfl) ?_ (fun hHeld => ?_)
  · (first | exact HK.out | exact HK.out.drew | exact HK.out.drewN _)
  replace HK := Lib.hid hHeld
  refine wt (i := 0) (oi := ⟨some 7, _, _, _, _, _⟩) (v := ?_) rfl ?_ ?_
  rotate_left
  · (intro w hSw; (try dsimp only at hSw); have hX0 := (Keep.at hSw 0 rfl).cells; go_simp; try with_reducible rfl)
  try simp only [Act.put, pa, p0, p1]
  refine wt (i := 1) (oi := ⟨some 8, _, _, _, _, _⟩) (v := ?_) rfl ?_ ?_
  rotate_left
  · (intro w hSw; (try dsimp only at hSw); have hX0 := (Keep.at hSw 0 rfl).cells; go_simp; try with_reducible rfl)
  try simp only [Act.put, pa, p0, p1]
  refine wt (i := 2) (oi := ⟨some 9, _, _, _, _, _⟩) (v := ?_) rfl ?_ ?_
  rotate_left
  · (intro w hSw; (try dsimp only at hSw); have hX0 := (Keep.at hSw 0 rfl).cells; go_simp; try with_reducible rfl)
  try simp only [Act.put, pa, p0, p1]
  refine wn (i := 3) (oi := ⟨some 10, _, _, _, _, _⟩) rfl ?_
  try simp only [Act.put, pa, p0, p1]
  refine wn (i := 4) (oi := ⟨some 11, _, _, _, _, _⟩) rfl ?_
  try simp only [Act.put, pa, p0, p1]
  refine wn (i := 5) (oi := ⟨some 12, _, _, _, _, _⟩) rfl ?_
  try simp only [Act.put, pa, p0, p1]
  refine wn (i := 6) (oi := ⟨some 13, _, _, _, _, _⟩) rfl ?_
  try simp only [Act.put, pa, p0, p1]
  refine wn (i := 7) (oi := ⟨some 14, _, _, _, _, _⟩) rfl ?_
  try simp only [Act.put, pa, p0, p1]
  refine wt (i := 8) (oi := ⟨some 15, _, _, _, _, _⟩) (v := ?_) rfl ?_ ?_
  rotate_left
  · (intro w hSw; (try dsimp only at hSw); have hX0 := (Keep.at hSw 0 rfl).cells; go_simp; try with_reducible rfl)
  try simp only [Act.put, pa, p0, p1]
  refine wt (i := 9) (oi := ⟨some 16, _, _, _, _, _⟩) (v := ?_) rfl ?_ ?_
  rotate_left
  · (intro w hSw; (try dsimp only at hSw); have hX0 := (Keep.at hSw 0 rfl).cells; go_simp; try with_reducible rfl)
  try simp only [Act.put, pa, p0, p1]
  refine wn (i := 10) (oi := ⟨some 17, _, _, _, _, _⟩) rfl ?_
  try simp only [Act.put, pa, p0, p1]
  refine wn (i := 11) (oi := ⟨some 18, _, _, _, _, _⟩) rfl ?_
  try simp only [Act.put, pa, p0, p1]
  refine wn (i := 12) (oi := ⟨some 19, _, _, _, _, _⟩) rfl ?_
  try simp only [Act.put, pa, p0, p1]
  refine wt (i := 13) (oi := ⟨some 20, _, _, _, _, _⟩) (v := ?_) rfl ?_ ?_
  rotate_left
  · (intro w hSw; (try dsimp only at hSw); have hX0 := (Keep.at hSw 0 rfl).cells; go_simp; try with_reducible rfl)
  try simp only [Act.put, pa, p0, p1]
  refine wt (i := 14) (oi := ⟨some 21, _, _, _, _, _⟩) (v := ?_) rfl ?_ ?_
  rotate_left
  · (intro w hSw; (try dsimp only at hSw); have hX0 := (Keep.at hSw 0 rfl).cells; go_simp; try with_reducible rfl)
  try simp only [Act.put, pa, p0, p1]
  refine wn (i := 15) (oi := ⟨some 22, _, _, _, _, _⟩) rfl ?_
  try simp only [Act.put, pa, p0, p1]
  refine wn (i := 16) (oi := ⟨some 23, _, _, _, _, _⟩) rfl ?_
  try simp only [Act.put, pa, p0, p1]
  refine wn (i := 17) (oi := ⟨some 24, _, _, _, _, _⟩) rfl ?_
  try simp only [Act.put, pa, p0, p1]
  refine wt (i := 18) (oi := ⟨some 25, _, _, _, _, _⟩) (v := ?_) rfl ?_ ?_
  rotate_left
  · (intro w hSw; (try dsimp only at hSw); have hX0 := (Keep.at hSw 0 rfl).cells; go_simp; try with_reducible rfl)
  try simp only [Act.put, pa, p0, p1]
  refine wpAnyH_done (by kernel_rfl) ?_ _
  refine NoPanic.normal ?_
  go_wp2_with fail
  go_ret
  exact FIN.out _ _ HX.out HK.out.low
set_option maxRecDepth 100000 in
set_option maxHeartbeats 4000000 in
theorem right_b (p : Pk) (a : Option Addr) (c : Nat) (w : World) (hE : Env w) (hp : PkOk p) (ha : CellsA w a (subCells p.subs)) (f : ByteArray) (hF : ∀ w1, Calls Tryd.prog 75 #[.int .u8 (p.ty : Int)] w1 fun e w' => e = .returned (.string f) ∧ Below w1.heap.size w1 w') (_hz : f.size ≤ 300000000) (hn : (f.toList == [45]) = false) (a2 : Option Addr) (c2 : Nat) (hO : ∀ w1, Env w1 → Calls Tryd.prog 76 #[.agg (pkV p a c)] w1 fun e w' => e = .returned (.agg (pkV (onlyS p) a2 c2)) ∧ Below w1.heap.size w1 w') (hS : ∀ w1, Env w1 → CellsA w1 a (subCells p.subs) → Calls Tryd.prog 24 #[.agg (pkV p a c), .agg (pkV (onlyS p) a2 c2)] w1 fun e w' => e = .returned (.bool false) ∧ Below w1.heap.size w1 w') (hx : rightR p = false) : Calls Tryd.prog 60 #[.agg (pkV p a c)] w fun e w' => e = .returned (.bool (rightR p)) ∧ Below w.heap.size w w' := by
  have HF := Lib.hid hF
  have HP := Lib.hid hp
  have HX := Lib.hid hx
  have FIN := Lib.hid (show ∀ (n : Bool) (w' : World), rightR p = n → Below w.heap.size w w' → Ending.returned (.bool n) = .returned (.bool (rightR p)) ∧ Below w.heap.size w w' from by rintro n w' rfl h; exact ⟨rfl, h⟩)
  have HK := Lib.hid ((Keep.begin hE [(a, subCells p.subs)] (by intro r hr; simp at hr; subst hr; exact ha)).alloc' (pkV p a c) 27 w.heap.size rfl)
  obtain ⟨k0, k1, k2, k3, k4, k5, k6, k7, k8, k9, k10, k11, k12, k13, k14, k15, k16, k17, k18, k19, k20, k21, k22, k23⟩ := pk_at p a c
  have HO := Lib.hid hO
  have HS := Lib.hid hS
  clear hO hS
  clear hF hp hx hE ha _hz
  go_enter Tryd.func60, Tryd.ntmps60
  go_upto_region 1 with fail
  show Code.wp _ _ _ _ (w.alloc (.cells (pkV p a c) 27))
  generalize World.alloc w _ = w2 at HK ⊢
  have hX := (HK.out.at 0 rfl).cells
  go_upto_region 2 with (go_at_call 75; refine Calls.mono (HF.out _) ?_; rintro e w4 ⟨rfl, hb1⟩; replace HK := Lib.hid (HK.out.below hb1); clear hb1 hX HF)
  refine wp_region_noPanic ?_
  refine wp_region_held_drew (S := fun w' => Keep w [(w.heap.size, pkV p a c, 27)] [(a, subCells p.subs)] w') (by kernel_rfl) ?_ (fun hHeld => ?_)
  · (first | exact HK.out | exact HK.out.drew | exact HK.out.drewN _)
  replace HK := Lib.hid hHeld
  refine wt (i := 0) (oi := ⟨some 7, _, _, _, _, _⟩) (v := ?_) rfl ?_ ?_
  rotate_left
  · (intro w hSw; (try dsimp only at hSw); have hX0 := (Keep.at hSw 0 rfl).cells; go_simp; try with_reducible rfl)
  try simp only [Act.put, pa, p0, p1]
  refine wt (i := 1) (oi := ⟨some 8, _, _, _, _, _⟩) (v := ?_) rfl ?_ ?_
  rotate_left
  · (intro w hSw; (try dsimp only at hSw); have hX0 := (Keep.at hSw 0 rfl).cells; go_simp; try with_reducible rfl)
  try simp only [Act.put, pa, p0, p1]
  refine wt (i := 2) (oi := ⟨some 9, _, _, _, _, _⟩) (v := ?_) rfl ?_ ?_
  rotate_left
  · (intro w hSw; (try dsimp only at hSw); have hX0 := (Keep.at hSw 0 rfl).cells; go_simp; try with_reducible rfl)
  try simp only [Act.put, pa, p0, p1]
  refine wpAnyH_take (i := 3) (oi := ⟨some 10, _, _, _, _, _⟩) (v := .agg _) rfl (by kernel_rfl) (by kernel_rfl) (by kernel_rfl) (fun _ _ _ h => h) (yields_load_box (by kernel_rfl) 27 _ rfl _ rfl 27 _ _ (fun w h => Keep.at h 0 rfl) Tryd.underlying27 rfl (pk_size _ _ _)) (by assumption) ?_
  try simp only [Act.put, pa, p0, p1]
  refine wpAnyH_take (i := 4) (oi := ⟨some 11, _, _, _, _, _⟩) (v := .agg _) rfl (by kernel_rfl) (by kernel_rfl) (by kernel_rfl) (fun _ _ _ h => h) (yields_load_box (by kernel_rfl) 27 _ rfl _ rfl 27 _ _ (fun w h => Keep.at h 0 rfl) Tryd.underlying27 rfl (pk_size _ _ _)) (by assumption) ?_
  try simp only [Act.put, pa, p0, p1]
  refine wpAnyH_ready (rs := [5]) (by kernel_rfl) (by simp) ?_
  refine AllReadyH.cons (o := ⟨some 12, _, _, _, _, _⟩) rfl (fun K hK => ?_) AllReadyH.nil
  go_simp
  (go_at_call 76; refine Calls.mono (HO.out _ HK.out.env) ?_; rintro e w9 ⟨rfl, hb1⟩; replace HK := Lib.hid (HK.out.below hb1); clear hb1; go_simp)
  refine hK.out _ _ ?_ (fun hHeld => ?_)
  · (first | exact HK.out | exact HK.out.drew | exact HK.out.drewN _)
  clear hK K hHeld
  have hHeld := HK.out
  try simp only [Act.put, pa, p0, p1]
  refine wpAnyH_ready (rs := [6]) (by kernel_rfl) (by simp) ?_
  refine AllReadyH.cons (o := ⟨some 13, _, _, _, _, _⟩) rfl (fun K hK => ?_) AllReadyH.nil
  go_simp
  (go_at_call 24; refine Calls.mono (HS.out _ HK.out.env (HK.out.rowAt 0 rfl)) ?_; rintro e w9 ⟨rfl, hb1⟩; replace HK := Lib.hid (HK.out.below hb1); clear hb1; go_simp)
  refine hK.out _ _ ?_ (fun hHeld => ?_)
  · (first | exact HK.out | exact HK.out.drew | exact HK.out.drewN _)
  clear hK K hHeld
  have hHeld := HK.out
  try simp only [Act.put, pa, p0, p1]
  refine wt (i := 7) (oi := ⟨some 14, _, _, _, _, _⟩) (v := ?_) rfl ?_ ?_
  rotate_left
  · (intro w hSw; (try dsimp only at hSw); have hX0 := (Keep.at hSw 0 rfl).cells; go_simp; try with_reducible rfl)
  try simp only [Act.put, pa, p0, p1]
  refine wt (i := 8) (oi := ⟨some 15, _, _, _, _, _⟩) (v := ?_) rfl ?_ ?_
  rotate_left
  · (intro w hSw; (try dsimp only at hSw); have hX0 := (Keep.at hSw 0 rfl).cells; go_simp; try with_reducible rfl)
  try simp only [Act.put, pa, p0, p1]
  refine wt (i := 9) (oi := ⟨some 16, _, _, _, _, _⟩) (v := ?_) rfl ?_ ?_
  rotate_left
  · (intro w hSw; (try dsimp only at hSw); have hX0 := (Keep.at hSw 0 rfl).cells; go_simp; try with_reducible rfl)
  try simp only [Act.put, pa, p0, p1]
  refine wn (i := 10) (oi := ⟨some 17, _, _, _, _, _⟩) rfl ?_
  try simp only [Act.put, pa, p0, p1]
  refine wn (i := 11) (oi := ⟨some 18, _, _, _, _, _⟩) rfl ?_
  try simp only [Act.put, pa, p0, p1]
  refine wn (i := 12) (oi := ⟨some 19, _, _, _, _, _⟩) rfl ?_
  try simp only [Act.put, pa, p0, p1]
  refine wt (i := 13) (oi := ⟨some 20, _, _, _, _, _⟩) (v := ?_) rfl ?_ ?_
  rotate_left
  · (intro w hSw; (try dsimp only at hSw); have hX0 := (Keep.at hSw 0 rfl).cells; go_simp; try with_reducible rfl)
  try simp only [Act.put, pa, p0, p1]
  refine wt (i := 14) (oi := ⟨some 21, _, _, _, _, _⟩) (v := ?_) rfl ?_ ?_
  rotate_left
  · (intro w hSw; (try dsimp only at hSw); have hX0 := (Keep.at hSw 0 rfl).cells; go_simp; try with_reducible rfl)
  try simp only [Act.put, pa, p0, p1]
  refine wn (i := 15) (oi := ⟨some 22, _, _, _, _, _⟩) rfl ?_
  try simp only [Act.put, pa, p0, p1]
  refine wn (i := 16) (oi := ⟨some 23, _, _, _, _, _⟩) rfl ?_
  try simp only [Act.put, pa, p0, p1]
  refine wn (i := 17) (oi := ⟨some 24, _, _, _, _, _⟩) rfl ?_
  try simp only [Act.put, pa, p0, p1]
  refine wt (i := 18) (oi := ⟨some 25, _, _, _, _, _⟩) (v := ?_) rfl ?_ ?_
  rotate_left
  · (intro w hSw; (try dsimp only at hSw); have hX0 := (Keep.at hSw 0 rfl).cells; go_simp; try with_reducible rfl)
  try simp only [Act.put, pa, p0, p1]
  refine wpAnyH_done (by kernel_rfl) ?_ _
  refine NoPanic.normal ?_
  go_wp2_with fail
  go_ret
  exact FIN.out _ _ HX.out HK.out.low
set_option maxRecDepth 100000 in
set_option maxHeartbeats 4000000 in
theorem right_c (p : Pk) (a : Option Addr) (c : Nat) (w : World) (hE : Env w) (hp : PkOk p) (ha : CellsA w a (subCells p.subs)) (f : ByteArray) (hF : ∀ w1, Calls Tryd.prog 75 #[.int .u8 (p.ty : Int)] w1 fun e w' => e = .returned (.string f) ∧ Below w1.heap.size w1 w') (_hz : f.size ≤ 300000000) (hn : (f.toList == [45]) = false) (a2 : Option Addr) (c2 : Nat) (hO : ∀ w1, Env w1 → Calls Tryd.prog 76 #[.agg (pkV p a c)] w1 fun e w' => e = .returned (.agg (pkV (onlyS p) a2 c2)) ∧ Below w1.heap.size w1 w') (hS : ∀ w1, Env w1 → CellsA w1 a (subCells p.subs) → Calls Tryd.prog 24 #[.agg (pkV p a c), .agg (pkV (onlyS p) a2 c2)] w1 fun e w' => e = .returned (.bool true) ∧ Below w1.heap.size w1 w') (hL : ∀ w1, Env w1 → CellsA w1 a (subCells p.subs) → Calls Tryd.prog 77 #[.agg (pkV p a c)] w1 fun e w' => e = .returned (.bool false) ∧ Below w1.heap.size w1 w') (hx : rightR p = false) : Calls Tryd.prog 60 #[.agg (pkV p a c)] w fun e w' => e = .returned (.bool (rightR p)) ∧ Below w.heap.size w w' := by
  have HF := Lib.hid hF
  have HP := Lib.hid hp
  have HX := Lib.hid hx
  have FIN := Lib.hid (show ∀ (n : Bool) (w' : World), rightR p = n → Below w.heap.size w w' → Ending.returned (.bool n) = .returned (.bool (rightR p)) ∧ Below w.heap.size w w' from by rintro n w' rfl h; exact ⟨rfl, h⟩)
  have HK := Lib.hid ((Keep.begin hE [(a, subCells p.subs)] (by intro r hr; simp at hr; subst hr; exact ha)).alloc' (pkV p a c) 27 w.heap.size rfl)
  obtain ⟨k0, k1, k2, k3, k4, k5, k6, k7, k8, k9, k10, k11, k12, k13, k14, k15, k16, k17, k18, k19, k20, k21, k22, k23⟩ := pk_at p a c
  have HO := Lib.hid hO
  have HS := Lib.hid hS
  clear hO hS
  have HL := Lib.hid hL
  clear hL
  clear hF hp hx hE ha _hz
  go_enter Tryd.func60, Tryd.ntmps60
  go_upto_region 1 with fail
  show Code.wp _ _ _ _ (w.alloc (.cells (pkV p a c) 27))
  generalize World.alloc w _ = w2 at HK ⊢
  have hX := (HK.out.at 0 rfl).cells
  go_upto_region 2 with (go_at_call 75; refine Calls.mono (HF.out _) ?_; rintro e w4 ⟨rfl, hb1⟩; replace HK := Lib.hid (HK.out.below hb1); clear hb1 hX HF)
  refine wp_region_noPanic ?_
  refine wp_region_held_drew (S := fun w' => Keep w [(w.heap.size, pkV p a c, 27)] [(a, subCells p.subs)] w') (by kernel_rfl) ?_ (fun hHeld => ?_)
  · (first | exact HK.out | exact HK.out.drew | exact HK.out.drewN _)
  replace HK := Lib.hid hHeld
  refine wt (i := 0) (oi := ⟨some 7, _, _, _, _, _⟩) (v := ?_) rfl ?_ ?_
  rotate_left
  · (intro w hSw; (try dsimp only at hSw); have hX0 := (Keep.at hSw 0 rfl).cells; go_simp; try with_reducible rfl)
  try simp only [Act.put, pa, p0, p1]
  refine wt (i := 1) (oi := ⟨some 8, _, _, _, _, _⟩) (v := ?_) rfl ?_ ?_
  rotate_left
  · (intro w hSw; (try dsimp only at hSw); have hX0 := (Keep.at hSw 0 rfl).cells; go_simp; try with_reducible rfl)
  try simp only [Act.put, pa, p0, p1]
  refine wt (i := 2) (oi := ⟨some 9, _, _, _, _, _⟩) (v := ?_) rfl ?_ ?_
  rotate_left
  · (intro w hSw; (try dsimp only at hSw); have hX0 := (Keep.at hSw 0 rfl).cells; go_simp; try with_reducible rfl)
  try simp only [Act.put, pa, p0, p1]
  refine wpAnyH_take (i := 3) (oi := ⟨some 10, _, _, _, _, _⟩) (v := .agg _) rfl (by kernel_rfl) (by kernel_rfl) (by kernel_rfl) (fun _ _ _ h => h) (yields_load_box (by kernel_rfl) 27 _ rfl _ rfl 27 _ _ (fun w h => Keep.at h 0 rfl) Tryd.underlying27 rfl (pk_size _ _ _)) (by assumption) ?_
  try simp only [Act.put, pa, p0, p1]
  refine wpAnyH_take (i := 4) (oi := ⟨some 11, _, _, _, _, _⟩) (v := .agg _) rfl (by kernel_rfl) (by kernel_rfl) (by kernel_rfl) (fun _ _ _ h => h) (yields_load_box (by kernel_rfl) 27 _ rfl _ rfl 27 _ _ (fun w h => Keep.at h 0 rfl) Tryd.underlying27 rfl (pk_size _ _ _)) (by assumption) ?_
  try simp only [Act.put, pa, p0, p1]
  refine wpAnyH_ready (rs := [5]) (by kernel_rfl) (by simp) ?_
  refine AllReadyH.cons (o := ⟨some 12, _, _, _, _, _⟩) rfl (fun K hK => ?_) AllReadyH.nil
  go_simp
  (go_at_call 76; refine Calls.mono (HO.out _ HK.out.env) ?_; rintro e w9 ⟨rfl, hb1⟩; replace HK := Lib.hid (HK.out.below hb1); clear hb1; go_simp)
  refine hK.out _ _ ?_ (fun hHeld => ?_)
  · (first | exact HK.out | exact HK.out.drew | exact HK.out.drewN _)
  clear hK K hHeld
  have hHeld := HK.out
  try simp only [Act.put, pa, p0, p1]
  refine wpAnyH_ready (rs := [6]) (by kernel_rfl) (by simp) ?_
  refine AllReadyH.cons (o := ⟨some 13, _, _, _, _, _⟩) rfl (fun K hK => ?_) AllReadyH.nil
  go_simp
  (go_at_call 24; refine Calls.mono (HS.out _ HK.out.env (HK.out.rowAt 0 rfl)) ?_; rintro e w9 ⟨rfl, hb1⟩; replace HK := Lib.hid (HK.out.below hb1); clear hb1; go_simp)
  refine hK.out _ _ ?_ (fun hHeld => ?_)
  · (first | exact HK.out | exact HK.out.drew | exact HK.out.drewN _)
  clear hK K hHeld
  have hHeld := HK.out
  try simp only [Act.put, pa, p0, p1]
  refine wt (i := 7) (oi := ⟨some 14, _, _, _, _, _⟩) (v := ?_) rfl ?_ ?_
  rotate_left
  · (intro w hSw; (try dsimp only at hSw); have hX0 := (Keep.at hSw 0 rfl).cells; go_simp; try with_reducible rfl)
  try simp only [Act.put, pa, p0, p1]
  refine wt (i := 8) (oi := ⟨some 15, _, _, _, _, _⟩) (v := ?_) rfl ?_ ?_
  rotate_left
  · (intro w hSw; (try dsimp only at hSw); have hX0 := (Keep.at hSw 0 rfl).cells; go_simp; try with_reducible rfl)
  try simp only [Act.put, pa, p0, p1]
  refine wt (i := 9) (oi := ⟨some 16, _, _, _, _, _⟩) (v := ?_) rfl ?_ ?_
  rotate_left
  · (intro w hSw; (try dsimp only at hSw); have hX0 := (Keep.at hSw 0 rfl).cells; go_simp; try with_reducible rfl)
  try simp only [Act.put, pa, p0, p1]
  refine wpAnyH_take (i := 10) (oi := ⟨some 17, _, _, _, _, _⟩) (v := .agg _) rfl (by kernel_rfl) (by kernel_rfl) (by kernel_rfl) (fun _ _ _ h => h) (yields_load_box (by kernel_rfl) 27 _ rfl _ rfl 27 _ _ (fun w h => Keep.at h 0 rfl) Tryd.underlying27 rfl (pk_size _ _ _)) (by assumption) ?_
  try simp only [Act.put, pa, p0, p1]
  refine wpAnyH_ready (rs := [11]) (by kernel_rfl) (by simp) ?_
  refine AllReadyH.cons (o := ⟨some 18, _, _, _, _, _⟩) rfl (fun K hK => ?_) AllReadyH.nil
  go_simp
  (go_at_call 77; refine Calls.mono (HL.out _ HK.out.env (HK.out.rowAt 0 rfl)) ?_; rintro e w9 ⟨rfl, hb1⟩; replace HK := Lib.hid (HK.out.below hb1); clear hb1; go_simp)
  refine hK.out _ _ ?_ (fun hHeld => ?_)
  · (first | exact HK.out | exact HK.out.drew | exact HK.out.drewN _)
  clear hK K hHeld
  have hHeld := HK.out
  try simp only [Act.put, pa, p0, p1]
  refine wt (i := 12) (oi := ⟨some 19, _, _, _, _, _⟩) (v := ?_) rfl ?_ ?_
  rotate_left
  · (intro w hSw; (try dsimp only at hSw); have hX0 := (Keep.at hSw 0 rfl).cells; go_simp; try with_reducible rfl)
  try simp only [Act.put, pa, p0, p1]
  refine wt (i := 13) (oi := ⟨some 20, _, _, _, _, _⟩) (v := ?_) rfl ?_ ?_
  rotate_left
  · (intro w hSw; (try dsimp only at hSw); have hX0 := (Keep.at hSw 0 rfl).cells; go_simp; try with_reducible rfl)
  try simp only [Act.put, pa, p0, p1]
  refine wt (i := 14) (oi := ⟨some 21, _, _, _, _, _⟩) (v := ?_) rfl ?_ ?_
  rotate_left
  · (intro w hSw; (try dsimp only at hSw); have hX0 := (Keep.at hSw 0 rfl).cells; go_simp; try with_reducible rfl)
  try simp only [Act.put, pa, p0, p1]
  refine wn (i := 15) (oi := ⟨some 22, _, _, _, _, _⟩) rfl ?_
  try simp only [Act.put, pa, p0, p1]
  refine wn (i := 16) (oi := ⟨some 23, _, _, _, _, _⟩) rfl ?_
  try simp only [Act.put, pa, p0, p1]
  refine wn (i := 17) (oi := ⟨some 24, _, _, _, _, _⟩) rfl ?_
  try simp only [Act.put, pa, p0, p1]
  refine wt (i := 18) (oi := ⟨some 25, _, _, _, _, _⟩) (v := ?_) rfl ?_ ?_
  rotate_left
  · (intro w hSw; (try dsimp only at hSw); have hX0 := (Keep.at hSw 0 rfl).cells; go_simp; try with_reducible rfl)
  try simp only [Act.put, pa, p0, p1]
  refine wpAnyH_done (by kernel_rfl) ?_ _
  refine NoPanic.normal ?_
  go_wp2_with fail
  go_ret
  exact FIN.out _ _ HX.out HK.out.low
set_option maxRecDepth 100000 in
set_option maxHeartbeats 4000000 in
theorem right_d (p : Pk) (a : Option Addr) (c : Nat) (w : World) (hE : Env w) (hp : PkOk p) (ha : CellsA w a (subCells p.subs)) (f : ByteArray) (hF : ∀ w1, Calls Tryd.prog 75 #[.int .u8 (p.ty : Int)] w1 fun e w' => e = .returned (.string f) ∧ Below w1.heap.size w1 w') (_hz : f.size ≤ 300000000) (hn : (f.toList == [45]) = false) (a2 : Option Addr) (c2 : Nat) (hO : ∀ w1, Env w1 → Calls Tryd.prog 76 #[.agg (pkV p a c)] w1 fun e w' => e = .returned (.agg (pkV (onlyS p) a2 c2)) ∧ Below w1.heap.size w1 w') (hS : ∀ w1, Env w1 → CellsA w1 a (subCells p.subs) → Calls Tryd.prog 24 #[.agg (pkV p a c), .agg (pkV (onlyS p) a2 c2)] w1 fun e w' => e = .returned (.bool true) ∧ Below w1.heap.size w1 w') (hL : ∀ w1, Env w1 → CellsA w1 a (subCells p.subs) → Calls Tryd.prog 77 #[.agg (pkV p a c)] w1 fun e w' => e = .returned (.bool true) ∧ Below w1.heap.size w1 w') (hq2 : decide ((2 : Int) < (p.qos : Int)) = true) (hx : rightR p = false) : Calls Tryd.prog 60 #[.agg (pkV p a c)] w fun e w' => e = .returned (.bool (rightR p)) ∧ Below w.heap.size w w' := by
  have HF := Lib.hid hF
  have HP := Lib.hid hp
  have HX := Lib.hid hx
  have FIN := Lib.hid (show ∀ (n : Bool) (w' : World), rightR p = n → Below w.heap.size w w' → Ending.returned (.bool n) = .returned (.bool (rightR p)) ∧ Below w.heap.size w w' from by rintro n w' rfl h; exact ⟨rfl, h⟩)
  have HK := Lib.hid ((Keep.begin hE [(a, subCells p.subs)] (by intro r hr; simp at hr; subst hr; exact ha)).alloc' (pkV p a c) 27 w.heap.size rfl)
  obtain ⟨k0, k1, k2, k3, k4, k5, k6, k7, k8, k9, k10, k11, k12, k13, k14, k15, k16, k17, k18, k19, k20, k21, k22, k23⟩ := pk_at p a c
  have HO := Lib.hid hO
  have HS := Lib.hid hS
  clear hO hS
  have HL := Lib.hid hL
  clear hL
  clear hF hp hx hE ha _hz
  go_enter Tryd.func60, Tryd.ntmps60
  go_upto_region 1 with fail
  show Code.wp _ _ _ _ (w.alloc (.cells (pkV p a c) 27))
  generalize World.alloc w _ = w2 at HK ⊢
  have hX := (HK.out.at 0 rfl).cells
  go_upto_region 2 with (go_at_call 75; refine Calls.mono (HF.out _) ?_; rintro e w4 ⟨rfl, hb1⟩; replace HK := Lib.hid (HK.out.below hb1); clear hb1 hX HF)
  refine wp_region_noPanic ?_
  refine wp_region_held_drew (S := fun w' => Keep w [(w.heap.size, pkV p a c, 27)] [(a, subCells p.subs)] w') (by kernel_rfl) ?_ (fun hHeld => ?_)
  · (first | exact HK.out | exact HK.out.drew | exact HK.out.drewN _)
  replace HK := Lib.hid hHeld
  refine wt (i := 0) (oi := ⟨some 7, _, _, _, _, _⟩) (v := ?_) rfl ?_ ?_
  rotate_left
  · (intro w hSw; (try dsimp only at hSw); have hX0 := (Keep.at hSw 0 rfl).cells; go_simp; try with_reducible rfl)
  try simp only [Act.put, pa, p0, p1]
  refine wt (i := 1) (oi := ⟨some 8, _, _, _, _, _⟩) (v := ?_) rfl ?_ ?_
  rotate_left
  · (intro w hSw; (try dsimp only at hSw); have hX0 := (Keep.at hSw 0 rfl).cells; go_simp; try with_reducible rfl)
  try simp only [Act.put, pa, p0, p1]
  refine wt (i := 2) (oi := ⟨some 9, _, _, _, _, _⟩) (v := ?_) rfl ?_ ?_
  rotate_left
  · (intro w hSw; (try dsimp only at hSw); have hX0 := (Keep.at hSw 0 rfl).cells; go_simp; try with_reducible rfl)
  try simp only [Act.put, pa, p0, p1]
  refine wpAnyH_take (i := 3) (oi := ⟨some 10, _, _, _, _, _⟩) (v := .agg _) rfl (by kernel_rfl) (by kernel_rfl) (by kernel_rfl) (fun _ _ _ h => h) (yields_load_box (by kernel_rfl) 27 _ rfl _ rfl 27 _ _ (fun w h => Keep.at h 0 rfl) Tryd.underlying27 rfl (pk_size _ _ _)) (by assumption) ?_
  try simp only [Act.put, pa, p0, p1]
  refine wpAnyH_take (i := 4) (oi := ⟨some 11, _, _, _, _, _⟩) (v := .agg _) rfl (by kernel_rfl) (by kernel_rfl) (by kernel_rfl) (fun _ _ _ h => h) (yields_load_box (by kernel_rfl) 27 _ rfl _ rfl 27 _ _ (fun w h => Keep.at h 0 rfl) Tryd.underlying27 rfl (pk_size _ _ _)) (by assumption) ?_
  try simp only [Act.put, pa, p0, p1]
  refine wpAnyH_ready (rs := [5]) (by kernel_rfl) (by simp) ?_
  refine AllReadyH.cons (o := ⟨some 12, _, _, _, _, _⟩) rfl (fun K hK => ?_) AllReadyH.nil
  go_simp
  (go_at_call 76; refine Calls.mono (HO.out _ HK.out.env) ?_; rintro e w9 ⟨rfl, hb1⟩; replace HK := Lib.hid (HK.out.below hb1); clear hb1; go_simp)
  refine hK.out _ _ ?_ (fun hHeld => ?_)
  · (first | exact HK.out | exact HK.out.drew | exact HK.out.drewN _)
  clear hK K hHeld
  have hHeld := HK.out
  try simp only [Act.put, pa, p0, p1]
  refine wpAnyH_ready (rs := [6]) (by kernel_rfl) (by simp) ?_
  refine AllReadyH.cons (o := ⟨some 13, _, _, _, _, _⟩) rfl (fun K hK => ?_) AllReadyH.nil
  go_simp
  (go_at_call 24; refine Calls.mono (HS.out _ HK.out.env (HK.out.rowAt 0 rfl)) ?_; rintro e w9 ⟨rfl, hb1⟩; replace HK := Lib.hid (HK.out.below hb1); clear hb1; go_simp)
  refine hK.out _ _ ?_ (fun hHeld => ?_)
  · (first | exact HK.out | exact HK.out.drew | exact HK.out.drewN _)
  clear hK K hHeld
  have hHeld := HK.out
  try simp only [Act.put, pa, p0, p1]
  refine wt (i := 7) (oi := ⟨some 14, _, _, _, _, _⟩) (v := ?_) rfl ?_ ?_
  rotate_left
  · (intro w hSw; (try dsimp only at hSw); have hX0 := (Keep.at hSw 0 rfl).cells; go_simp; try with_reducible rfl)
  try simp only [Act.put, pa, p0, p1]
  refine wt (i := 8) (oi := ⟨some 15, _, _, _, _, _⟩) (v := ?_) rfl ?_ ?_
  rotate_left
  · (intro w hSw; (try dsimp only at hSw); have hX0 := (Keep.at hSw 0 rfl).cells; go_simp; try with_reducible rfl)
  try simp only [Act.put, pa, p0, p1]
  refine wt (i := 9) (oi := ⟨some 16, _, _, _, _, _⟩) (v := ?_) rfl ?_ ?_
  rotate_left
  · (intro w hSw; (try dsimp only at hSw); have hX0 := (Keep.at hSw 0 rfl).cells; go_simp; try with_reducible rfl)
  try simp only [Act.put, pa, p0, p1]
  refine wpAnyH_take (i := 10) (oi := ⟨some 17, _, _, _, _, _⟩) (v := .agg _) rfl (by kernel_rfl) (by kernel_rfl) (by kernel_rfl) (fun _ _ _ h => h) (yields_load_box (by kernel_rfl) 27 _ rfl _ rfl 27 _ _ (fun w h => Keep.at h 0 rfl) Tryd.underlying27 rfl (pk_size _ _ _)) (by assumption) ?_
  try simp only [Act.put, pa, p0, p1]
  refine wpAnyH_ready (rs := [11]) (by kernel_rfl) (by simp) ?_
  refine AllReadyH.cons (o := ⟨some 18, _, _, _, _, _⟩) rfl (fun K hK => ?_) AllReadyH.nil
  go_simp
  (go_at_call 77; refine Calls.mono (HL.out _ HK.out.env (HK.out.rowAt 0 rfl)) ?_; rintro e w9 ⟨rfl, hb1⟩; replace HK := Lib.hid (HK.out.below hb1); clear hb1; go_simp)
  refine hK.out _ _ ?_ (fun hHeld => ?_)
  · (first | exact HK.out | exact HK.out.drew | exact HK.out.drewN _)
  clear hK K hHeld
  have hHeld := HK.out
  try simp only [Act.put, pa, p0, p1]
  refine wt (i := 12) (oi := ⟨some 19, _, _, _, _, _⟩) (v := ?_) rfl ?_ ?_
  rotate_left
  · (intro w hSw; (try dsimp only at hSw); have hX0 := (Keep.at hSw 0 rfl).cells; go_simp; try with_reducible rfl)
  try simp only [Act.put, pa, p0, p1]
  refine wt (i := 13) (oi := ⟨some 20, _, _, _, _, _⟩) (v := ?_) rfl ?_ ?_
  rotate_left
  · (intro w hSw; (try dsimp only at hSw); have hX0 := (Keep.at hSw 0 rfl).cells; go_simp; try with_reducible rfl)
  try simp only [Act.put, pa, p0, p1]
  refine wt (i := 14) (oi := ⟨some 21, _, _, _, _, _⟩) (v := ?_) rfl ?_ ?_
  rotate_left
  · (intro w hSw; (try dsimp only at hSw); have hX0 := (Keep.at hSw 0 rfl).cells; go_simp; try with_reducible rfl)
  try simp only [Act.put, pa, p0, p1]
  refine wt (i := 15) (oi := ⟨some 22, _, _, _, _, _⟩) (v := ?_) rfl ?_ ?_
  rotate_left
  · (intro w hSw; (try dsimp only at hSw); have hX0 := (Keep.at hSw 0 rfl).cells; go_simp; try with_reducible rfl)
  try simp only [Act.put, pa, p0, p1]
  refine wt (i := 16) (oi := ⟨some 23, _, _, _, _, _⟩) (v := ?_) rfl ?_ ?_
  rotate_left
  · (intro w hSw; (try dsimp only at hSw); have hX0 := (Keep.at hSw 0 rfl).cells; go_simp; try with_reducible rfl)
  try simp only [Act.put, pa, p0, p1]
  refine wt (i := 17) (oi := ⟨some 24, _, _, _, _, _⟩) (v := ?_) rfl ?_ ?_
  rotate_left
  · (intro w hSw; (try dsimp only at hSw); have hX0 := (Keep.at hSw 0 rfl).cells; go_simp; try with_reducible rfl)
  try simp only [Act.put, pa, p0, p1]
  refine wt (i := 18) (oi := ⟨some 25, _, _, _, _, _⟩) (v := ?_) rfl ?_ ?_
  rotate_left
  · (intro w hSw; (try dsimp only at hSw); have hX0 := (Keep.at hSw 0 rfl).cells; go_simp; try with_reducible rfl)
  try simp only [Act.put, pa, p0, p1]
  refine wpAnyH_done (by kernel_rfl) ?_ _
  refine NoPanic.normal ?_
  go_wp2_with fail
  go_ret
  exact FIN.out _ _ HX.out HK.out.low
set_option maxRecDepth 100000 in
set_option maxHeartbeats 4000000 in
theorem right_e1 (p : Pk) (a : Option Addr) (c : Nat) (w : World) (hE : Env w) (hp : PkOk p) (ha : CellsA w a (subCells p.subs)) (f : ByteArray) (hF : ∀ w1, Calls Tryd.prog 75 #[.int .u8 (p.ty : Int)] w1 fun e w' => e = .returned (.string f) ∧ Below w1.heap.size w1 w') (hz : f.size ≤ 300000000) (hn : (f.toList == [45]) = false) (a2 : Option Addr) (c2 : Nat) (hO : ∀ w1, Env w1 → Calls Tryd.prog 76 #[.agg (pkV p a c)] w1 fun e w' => e = .returned (.agg (pkV (onlyS p) a2 c2)) ∧ Below w1.heap.size w1 w') (hS : ∀ w1, Env w1 → CellsA w1 a (subCells p.subs) → Calls Tryd.prog 24 #[.agg (pkV p a c), .agg (pkV (onlyS p) a2 c2)] w1 fun e w' => e = .returned (.bool true) ∧ Below w1.heap.size w1 w') (hL : ∀ w1, Env w1 → CellsA w1 a (subCells p.subs) → Calls Tryd.prog 77 #[.agg (pkV p a c)] w1 fun e w' => e = .returned (.bool true) ∧ Below w1.heap.size w1 w') (hq2 : decide ((2 : Int) < (p.qos : Int)) = false) (t1 : ((p.ty : Int) == 1) = true) (_t2 : ((p.ty : Int) == 2) = false) (_t3 : ((p.ty : Int) == 3) = false) (hcn : connectR p = false) (hx : rightR p = false) : Calls Tryd.prog 60 #[.agg (pkV p a c)] w fun e w' => e = .returned (.bool (rightR p)) ∧ Below w.heap.size w w' := by
  have HF := Lib.hid hF
  have HP := Lib.hid hp
  have HX := Lib.hid hx
  have FIN := Lib.hid (show ∀ (n : Bool) (w' : World), rightR p = n → Below w.heap.size w w' → Ending.returned (.bool n) = .returned (.bool (rightR p)) ∧ Below w.heap.size w w' from by rintro n w' rfl h; exact ⟨rfl, h⟩)
  have HK := Lib.hid ((Keep.begin hE [(a, subCells p.subs)] (by intro r hr; simp at hr; subst hr; exact ha)).alloc' (pkV p a c) 27 w.heap.size rfl)
  obtain ⟨k0, k1, k2, k3, k4, k5, k6, k7, k8, k9, k10, k11, k12, k13, k14, k15, k16, k17, k18, k19, k20, k21, k22, k23⟩ := pk_at p a c
  have HO := Lib.hid hO
  have HS := Lib.hid hS
  clear hO hS
  have HL := Lib.hid hL
  clear hL
  have HC := Lib.hid (fun w1 => ref03_connect p a c w1 hp)
  have HN := Lib.hid (fun w1 => ref03_Name p.topic w1 hp.topic)
  have HH := Lib.hid (fun w1 => has_lit f 105 105 rfl w1 hz)
  have HR := Lib.hid (fun w1 hE ha => ref03_rest p a c w1 hE hp ha)
  rw [hcn] at HC
  clear hcn
  clear hF hp hx hE ha hz
  go_enter Tryd.func60, Tryd.ntmps60
  go_upto_region 1 with fail
  show Code.wp _ _ _ _ (w.alloc (.cells (pkV p a c) 27))
  generalize World.alloc w _ = w2 at HK ⊢
  have hX := (HK.out.at 0 rfl).cells
  go_upto_region 2 with (go_at_call 75; refine Calls.mono (HF.out _) ?_; rintro e w4 ⟨rfl, hb1⟩; replace HK := Lib.hid (HK.out.below hb1); clear hb1 hX HF)
  refine wp_region_noPanic ?_
  refine wp_region_held_drew (S := fun w' => Keep w [(w.heap.size, pkV p a c, 27)] [(a, subCells p.subs)] w') (by kernel_rfl) ?_ (fun hHeld => ?_)
  · (first | exact HK.out | exact HK.out.drew | exact HK.out.drewN _)
  replace HK := Lib.hid hHeld
  refine wt (i := 0) (oi := ⟨some 7, _, _, _, _, _⟩) (v := ?_) rfl ?_ ?_
  rotate_left
  · (intro w hSw; (try dsimp only at hSw); have hX0 := (Keep.at hSw 0 rfl).cells; go_simp; try with_reducible rfl)
  try simp only [Act.put, pa, p0, p1]
  refine wt (i := 1) (oi := ⟨some 8, _, _, _, _, _⟩) (v := ?_) rfl ?_ ?_
  rotate_left
  · (intro w hSw; (try dsimp only at hSw); have hX0 := (Keep.at hSw 0 rfl).cells; go_simp; try with_reducible rfl)
  try simp only [Act.put, pa, p0, p1]
  refine wt (i := 2) (oi := ⟨some 9, _, _, _, _, _⟩) (v := ?_) rfl ?_ ?_
  rotate_left
  · (intro w hSw; (try dsimp only at hSw); have hX0 := (Keep.at hSw 0 rfl).cells; go_simp; try with_reducible rfl)
  try simp only [Act.put, pa, p0, p1]
  refine wpAnyH_take (i := 3) (oi := ⟨some 10, _, _, _, _, _⟩) (v := .agg _) rfl (by kernel_rfl) (by kernel_rfl) (by kernel_rfl) (fun _ _ _ h => h) (yields_load_box (by kernel_rfl) 27 _ rfl _ rfl 27 _ _ (fun w h => Keep.at h 0 rfl) Tryd.underlying27 rfl (pk_size _ _ _)) (by assumption) ?_
  try simp only [Act.put, pa, p0, p1]
  refine wpAnyH_take (i := 4) (oi := ⟨some 11, _, _, _, _, _⟩) (v := .agg _) rfl (by kernel_rfl) (by kernel_rfl) (by kernel_rfl) (fun _ _ _ h => h) (yields_load_box (by kernel_rfl) 27 _ rfl _ rfl 27 _ _ (fun w h => Keep.at h 0 rfl) Tryd.underlying27 rfl (pk_size _ _ _)) (by assumption) ?_
  try simp only [Act.put, pa, p0, p1]
  refine wpAnyH_ready (rs := [5]) (by kernel_rfl) (by simp) ?_
  refine AllReadyH.cons (o := ⟨some 12, _, _, _, _, _⟩) rfl (fun K hK => ?_) AllReadyH.nil
  go_simp
  (go_at_call 76; refine Calls.mono (HO.out _ HK.out.env) ?_; rintro e w9 ⟨rfl, hb1⟩; replace HK := Lib.hid (HK.out.below hb1); clear hb1; go_simp)
  refine hK.out _ _ ?_ (fun hHeld => ?_)
  · (first | exact HK.out | exact HK.out.drew | exact HK.out.drewN _)
  clear hK K hHeld
  have hHeld := HK.out
  try simp only [Act.put, pa, p0, p1]
  refine wpAnyH_ready (rs := [6]) (by kernel_rfl) (by simp) ?_
  refine AllReadyH.cons (o := ⟨some 13, _, _, _, _, _⟩) rfl (fun K hK => ?_) AllReadyH.nil
  go_simp
  (go_at_call 24; refine Calls.mono (HS.out _ HK.out.env (HK.out.rowAt 0 rfl)) ?_; rintro e w9 ⟨rfl, hb1⟩; replace HK := Lib.hid (HK.out.below hb1); clear hb1; go_simp)
  refine hK.out _ _ ?_ (fun hHeld => ?_)
  · (first | exact HK.out | exact HK.out.drew | exact HK.out.drewN _)
  clear hK K hHeld
  have hHeld := HK.out
  try simp only [Act.put, pa, p0, p1]
  refine wt (i := 7) (oi := ⟨some 14, _, _, _, _, _⟩) (v := ?_) rfl ?_ ?_
  rotate_left
  · (intro w hSw; (try dsimp only at hSw); have hX0 := (Keep.at hSw 0 rfl).cells; go_simp; try with_reducible rfl)
  try simp only [Act.put, pa, p0, p1]
  refine wt (i := 8) (oi := ⟨some 15, _, _, _, _, _⟩) (v := ?_) rfl ?_ ?_
  rotate_left
  · (intro w hSw; (try dsimp only at hSw); have hX0 := (Keep.at hSw 0 rfl).cells; go_simp; try with_reducible rfl)
  try simp only [Act.put, pa, p0, p1]
  refine wt (i := 9) (oi := ⟨some 16, _, _, _, _, _⟩) (v := ?_) rfl ?_ ?_
  rotate_left
  · (intro w hSw; (try dsimp only at hSw); have hX0 := (Keep.at hSw 0 rfl).cells; go_simp; try with_reducible rfl)
  try simp only [Act.put, pa, p0, p1]
  refine wpAnyH_take (i := 10) (oi := ⟨some 17, _, _, _, _, _⟩) (v := .agg _) rfl (by kernel_rfl) (by kernel_rfl) (by kernel_rfl) (fun _ _ _ h => h) (yields_load_box (by kernel_rfl) 27 _ rfl _ rfl 27 _ _ (fun w h => Keep.at h 0 rfl) Tryd.underlying27 rfl (pk_size _ _ _)) (by assumption) ?_
  try simp only [Act.put, pa, p0, p1]
  refine wpAnyH_ready (rs := [11]) (by kernel_rfl) (by simp) ?_
  refine AllReadyH.cons (o := ⟨some 18, _, _, _, _, _⟩) rfl (fun K hK => ?_) AllReadyH.nil
  go_simp
  (go_at_call 77; refine Calls.mono (HL.out _ HK.out.env (HK.out.rowAt 0 rfl)) ?_; rintro e w9 ⟨rfl, hb1⟩; replace HK := Lib.hid (HK.out.below hb1); clear hb1; go_simp)
  refine hK.out _ _ ?_ (fun hHeld => ?_)
  · (first | exact HK.out | exact HK.out.drew | exact HK.out.drewN _)
  clear hK K hHeld
  have hHeld := HK.out
  try simp only [Act.put, pa, p0, p1]
  refine wt (i := 12) (oi := ⟨some 19, _, _, _, _, _⟩) (v := ?_) rfl ?_ ?_
  rotate_left
  · (intro w hSw; (try dsimp only at hSw); have hX0 := (Keep.at hSw 0 rfl).cells; go_simp; try with_reducible rfl)
  try simp only [Act.put, pa, p0, p1]
  refine wt (i := 13) (oi := ⟨some 20, _, _, _, _, _⟩) (v := ?_) rfl ?_ ?_
  rotate_left
  · (intro w hSw; (try dsimp only at hSw); have hX0 := (Keep.at hSw 0 rfl).cells; go_simp; try with_reducible rfl)
  try simp only [Act.put, pa, p0, p1]
  refine wt (i := 14) (oi := ⟨some 21, _, _, _, _, _⟩) (v := ?_) rfl ?_ ?_
  rotate_left
  · (intro w hSw; (try dsimp only at hSw); have hX0 := (Keep.at hSw 0 rfl).cells; go_simp; try with_reducible rfl)
  try simp only [Act.put, pa, p0, p1]
  refine wt (i := 15) (oi := ⟨some 22, _, _, _, _, _⟩) (v := ?_) rfl ?_ ?_
  rotate_left
  · (intro w hSw; (try dsimp only at hSw); have hX0 := (Keep.at hSw 0 rfl).cells; go_simp; try with_reducible rfl)
  try simp only [Act.put, pa, p0, p1]
  refine wt (i := 16) (oi := ⟨some 23, _, _, _, _, _⟩) (v := ?_) rfl ?_ ?_
  rotate_left
  · (intro w hSw; (try dsimp only at hSw); have hX0 := (Keep.at hSw 0 rfl).cells; go_simp; try with_reducible rfl)
  try simp only [Act.put, pa, p0, p1]
  refine wt (i := 17) (oi := ⟨some 24, _, _, _, _, _⟩) (v := ?_) rfl ?_ ?_
  rotate_left
  · (intro w hSw; (try dsimp only at hSw); have hX0 := (Keep.at hSw 0 rfl).cells; go_simp; try with_reducible rfl)
  try simp only [Act.put, pa, p0, p1]
  refine wt (i := 18) (oi := ⟨some 25, _, _, _, _, _⟩) (v := ?_) rfl ?_ ?_
  rotate_left
  · (intro w hSw; (try dsimp only at hSw); have hX0 := (Keep.at hSw 0 rfl).cells; go_simp; try with_reducible rfl)
  try simp only [Act.put, pa, p0, p1]
  refine wpAnyH_done (by kernel_rfl) ?_ _
  refine NoPanic.normal ?_
  have hX := (HK.out.at 0 rfl).cells
  go_wp2_with (first
    | ((with_reducible show wpList _ _ _ (⟨some 30, _, _, _, _, _⟩ :: _) _ _); refine wpList_load_boxG (by kernel_rfl) 27 _ rfl _ rfl 27 _ (by (first | exact HK.out.at 0 rfl)) _ Tryd.underlying27 rfl (pk_size _ _ _) ?_)
    | (go_at_call 78; (with_reducible refine Calls.mono (HC.out _) ?_); rintro e w1 ⟨rfl, hb1⟩; replace HK := Lib.hid (HK.out.below hb1); have hX := (HK.out.at 0 rfl).cells; clear hb1)
    | ((with_reducible show wpList _ _ _ (⟨some 91, _, _, _, _, _⟩ :: _) _ _); refine wpList_load_box rfl 27 _ rfl _ rfl 27 _ (HK.out.at 0 rfl) _ Tryd.underlying27 rfl (pk_size _ _ _) ?_)
    | (go_at_call 79; (with_reducible refine Calls.mono (HN.out _) ?_); rintro e w1 ⟨rfl, hb1⟩; replace HK := Lib.hid (HK.out.below hb1); have hX := (HK.out.at 0 rfl).cells; clear hb1)
    | (go_at_call 80; (with_reducible refine Calls.mono (HH.out _) ?_); rintro e w1 ⟨rfl, rfl⟩)
    | (go_at_call 81; (with_reducible refine Calls.mono (HR.out _ HK.out.env (HK.out.rowAt 0 rfl)) ?_); rintro e w1 ⟨rfl, hb1⟩; replace HK := Lib.hid (HK.out.below hb1); have hX := (HK.out.at 0 rfl).cells; clear hb1))
  go_ret
  exact FIN.out _ _ HX.out HK.out.low
set_option maxRecDepth 100000 in
set_option maxHeartbeats 4000000 in
theorem right_e1t (p : Pk) (a : Option Addr) (c : Nat) (w : World) (hE : Env w) (hp : PkOk p) (ha : CellsA w a (subCells p.subs)) (f : ByteArray) (hF : ∀ w1, Calls Tryd.prog 75 #[.int .u8 (p.ty : Int)] w1 fun e w' => e = .returned (.string f) ∧ Below w1.heap.size w1 w') (hz : f.size ≤ 300000000) (hn : (f.toList == [45]) = false) (a2 : Option Addr) (c2 : Nat) (hO : ∀ w1, Env w1 → Calls Tryd.prog 76 #[.agg (pkV p a c)] w1 fun e w' => e = .returned (.agg (pkV (onlyS p) a2 c2)) ∧ Below w1.heap.size w1 w') (hS : ∀ w1, Env w1 → CellsA w1 a (subCells p.subs) → Calls Tryd.prog 24 #[.agg (pkV p a c), .agg (pkV (onlyS p) a2 c2)] w1 fun e w' => e = .returned (.bool true) ∧ Below w1.heap.size w1 w') (hL : ∀ w1, Env w1 → CellsA w1 a (subCells p.subs) → Calls Tryd.prog 77 #[.agg (pkV p a c)] w1 fun e w' => e = .returned (.bool true) ∧ Below w1.heap.size w1 w') (hq2 : decide ((2 : Int) < (p.qos : Int)) = false) (t1 : ((p.ty : Int) == 1) = true) (t2 : ((p.ty : Int) == 2) = false) (t3 : ((p.ty : Int) == 3) = false) (hcn : connectR p = true) (hhi : hasL (bl f) 105 = false) (hx : rightR p = decide (((restR p : Nat) : Int) ≤ 268435455)) : Calls Tryd.prog 60 #[.agg (pkV p a c)] w fun e w' => e = .returned (.bool (rightR p)) ∧ Below w.heap.size w w' := by
  have HF := Lib.hid hF
  have HP := Lib.hid hp
  have HX := Lib.hid hx
  have FIN := Lib.hid (show ∀ (n : Bool) (w' : World), rightR p = n → Below w.heap.size w w' → Ending.returned (.bool n) = .returned (.bool (rightR p)) ∧ Below w.heap.size w w' from by rintro n w' rfl h; exact ⟨rfl, h⟩)
  have HK := Lib.hid ((Keep.begin hE [(a, subCells p.subs)] (by intro r hr; simp at hr; subst hr; exact ha)).alloc' (pkV p a c) 27 w.heap.size rfl)
  obtain ⟨k0, k1, k2, k3, k4, k5, k6, k7, k8, k9, k10, k11, k12, k13, k14, k15, k16, k17, k18, k19, k20, k21, k22, k23⟩ := pk_at p a c
  have HO := Lib.hid hO
  have HS := Lib.hid hS
  clear hO hS
  have HL := Lib.hid hL
  clear hL
  have HC := Lib.hid (fun w1 => ref03_connect p a c w1 hp)
  have HN := Lib.hid (fun w1 => ref03_Name p.topic w1 hp.topic)
  have HH := Lib.hid (fun w1 => has_lit f 105 105 rfl w1 hz)
  have HR := Lib.hid (fun w1 hE ha => ref03_rest p a c w1 hE hp ha)
  rw [hcn] at HC
  rw [hhi] at HH
  clear hcn
  clear hhi
  clear hF hp hx hE ha hz
  go_enter Tryd.func60, Tryd.ntmps60
  go_upto_region 1 with fail
  show Code.wp _ _ _ _ (w.alloc (.cells (pkV p a c) 27))
  generalize World.alloc w _ = w2 at HK ⊢
  have hX := (HK.out.at 0 rfl).cells
  go_upto_region 2 with (go_at_call 75; refine Calls.mono (HF.out _) ?_; rintro e w4 ⟨rfl, hb1⟩; replace HK := Lib.hid (HK.out.below hb1); clear hb1 hX HF)
  refine wp_region_noPanic ?_
  refine wp_region_held_drew (S := fun w' => Keep w [(w.heap.size, pkV p a c, 27)] [(a, subCells p.subs)] w') (by kernel_rfl) ?_ (fun hHeld => ?_)
  · (first | exact HK.out | exact HK.out.drew | exact HK.out.drewN _)
  replace HK := Lib.hid hHeld
  refine wt (i := 0) (oi := ⟨some 7, _, _, _, _, _⟩) (v := ?_) rfl ?_ ?_
  rotate_left
  · (intro w hSw; (try dsimp only at hSw); have hX0 := (Keep.at hSw 0 rfl).cells; go_simp; try with_reducible rfl)
  try simp only [Act.put, pa, p0, p1]
  refine wt (i := 1) (oi := ⟨some 8, _, _, _, _, _⟩) (v := ?_) rfl ?_ ?_
  rotate_left
  · (intro w hSw; (try dsimp only at hSw); have hX0 := (Keep.at hSw 0 rfl).cells; go_simp; try with_reducible rfl)
  try simp only [Act.put, pa, p0, p1]
  refine wt (i := 2) (oi := ⟨some 9, _, _, _, _, _⟩) (v := ?_) rfl ?_ ?_
  rotate_left
  · (intro w hSw; (try dsimp only at hSw); have hX0 := (Keep.at hSw 0 rfl).cells; go_simp; try with_reducible rfl)
  try simp only [Act.put, pa, p0, p1]
  refine wpAnyH_take (i := 3) (oi := ⟨some 10, _, _, _, _, _⟩) (v := .agg _) rfl (by kernel_rfl) (by kernel_rfl) (by kernel_rfl) (fun _ _ _ h => h) (yields_load_box (by kernel_rfl) 27 _ rfl _ rfl 27 _ _ (fun w h => Keep.at h 0 rfl) Tryd.underlying27 rfl (pk_size _ _ _)) (by assumption) ?_
  try simp only [Act.put, pa, p0, p1]
  refine wpAnyH_take (i := 4) (oi := ⟨some 11, _, _, _, _, _⟩) (v := .agg _) rfl (by kernel_rfl) (by kernel_rfl) (by kernel_rfl) (fun _ _ _ h => h) (yields_load_box (by kernel_rfl) 27 _ rfl _ rfl 27 _ _ (fun w h => Keep.at h 0 rfl) Tryd.underlying27 rfl (pk_size _ _ _)) (by assumption) ?_
  try simp only [Act.put, pa, p0, p1]
  refine wpAnyH_ready (rs := [5]) (by kernel_rfl) (by simp) ?_
  refine AllReadyH.cons (o := ⟨some 12, _, _, _, _, _⟩) rfl (fun K hK => ?_) AllReadyH.nil
  go_simp
  (go_at_call 76; refine Calls.mono (HO.out _ HK.out.env) ?_; rintro e w9 ⟨rfl, hb1⟩; replace HK := Lib.hid (HK.out.below hb1); clear hb1; go_simp)
  refine hK.out _ _ ?_ (fun hHeld => ?_)
  · (first | exact HK.out | exact HK.out.drew | exact HK.out.drewN _)
  clear hK K hHeld
  have hHeld := HK.out
  try simp only [Act.put, pa, p0, p1]
  refine wpAnyH_ready (rs := [6]) (by kernel_rfl) (by simp) ?_
  refine AllReadyH.cons (o := ⟨some 13, _, _, _, _, _⟩) rfl (fun K hK => ?_) AllReadyH.nil
  go_simp
  (go_at_call 24; refine Calls.mono (HS.out _ HK.out.env (HK.out.rowAt 0 rfl)) ?_; rintro e w9 ⟨rfl, hb1⟩; replace HK := Lib.hid (HK.out.below hb1); clear hb1; go_simp)
  refine hK.out _ _ ?_ (fun hHeld => ?_)
  · (first | exact HK.out | exact HK.out.drew | exact HK.out.drewN _)
  clear hK K hHeld
  have hHeld := HK.out
  try simp only [Act.put, pa, p0, p1]
  refine wt (i := 7) (oi := ⟨some 14, _, _, _, _, _⟩) (v := ?_) rfl ?_ ?_
  rotate_left
  · (intro w hSw; (try dsimp only at hSw); have hX0 := (Keep.at hSw 0 rfl).cells; go_simp; try with_reducible rfl)
  try simp only [Act.put, pa, p0, p1]
  refine wt (i := 8) (oi := ⟨some 15, _, _, _, _, _⟩) (v := ?_) rfl ?_ ?_
  rotate_left
  · (intro w hSw; (try dsimp only at hSw); have hX0 := (Keep.at hSw 0 rfl).cells; go_simp; try with_reducible rfl)
  try simp only [Act.put, pa, p0, p1]
  refine wt (i := 9) (oi := ⟨some 16, _, _, _, _, _⟩) (v := ?_) rfl ?_ ?_
  rotate_left
  · (intro w hSw; (try dsimp only at hSw); have hX0 := (Keep.at hSw 0 rfl).cells; go_simp; try with_reducible rfl)
  try simp only [Act.put, pa, p0, p1]
  refine wpAnyH_take (i := 10) (oi := ⟨some 17, _, _, _, _, _⟩) (v := .agg _) rfl (by kernel_rfl) (by kernel_rfl) (by kernel_rfl) (fun _ _ _ h => h) (yields_load_box (by kernel_rfl) 27 _ rfl _ rfl 27 _ _ (fun w h => Keep.at h 0 rfl) Tryd.underlying27 rfl (pk_size _ _ _)) (by assumption) ?_
  try simp only [Act.put, pa, p0, p1]
  refine wpAnyH_ready (rs := [11]) (by kernel_rfl) (by simp) ?_
  refine AllReadyH.cons (o := ⟨some 18, _, _, _, _, _⟩) rfl (fun K hK => ?_) AllReadyH.nil
  go_simp
  (go_at_call 77; refine Calls.mono (HL.out _ HK.out.env (HK.out.rowAt 0 rfl)) ?_; rintro e w9 ⟨rfl, hb1⟩; replace HK := Lib.hid (HK.out.below hb1); clear hb1; go_simp)
  refine hK.out _ _ ?_ (fun hHeld => ?_)
  · (first | exact HK.out | exact HK.out.drew | exact HK.out.drewN _)
  clear hK K hHeld
  have hHeld := HK.out
  try simp only [Act.put, pa, p0, p1]
  refine wt (i := 12) (oi := ⟨some 19, _, _, _, _, _⟩) (v := ?_) rfl ?_ ?_
  rotate_left
  · (intro w hSw; (try dsimp only at hSw); have hX0 := (Keep.at hSw 0 rfl).cells; go_simp; try with_reducible rfl)
  try simp only [Act.put, pa, p0, p1]
  refine wt (i := 13) (oi := ⟨some 20, _, _, _, _, _⟩) (v := ?_) rfl ?_ ?_
  rotate_left
  · (intro w hSw; (try dsimp only at hSw); have hX0 := (Keep.at hSw 0 rfl).cells; go_simp; try with_reducible rfl)
  try simp only [Act.put, pa, p0, p1]
  refine wt (i := 14) (oi := ⟨some 21, _, _, _, _, _⟩) (v := ?_) rfl ?_ ?_
  rotate_left
  · (intro w hSw; (try dsimp only at hSw); have hX0 := (Keep.at hSw 0 rfl).cells; go_simp; try with_reducible rfl)
  try simp only [Act.put, pa, p0, p1]
  refine wt (i := 15) (oi := ⟨some 22, _, _, _, _, _⟩) (v := ?_) rfl ?_ ?_
  rotate_left
  · (intro w hSw; (try dsimp only at hSw); have hX0 := (Keep.at hSw 0 rfl).cells; go_simp; try with_reducible rfl)
  try simp only [Act.put, pa, p0, p1]
  refine wt (i := 16) (oi := ⟨some 23, _, _, _, _, _⟩) (v := ?_) rfl ?_ ?_
  rotate_left
  · (intro w hSw; (try dsimp only at hSw); have hX0 := (Keep.at hSw 0 rfl).cells; go_simp; try with_reducible rfl)
  try simp only [Act.put, pa, p0, p1]
  refine wt (i := 17) (oi := ⟨some 24, _, _, _, _, _⟩) (v := ?_) rfl ?_ ?_
  rotate_left
  · (intro w hSw; (try dsimp only at hSw); have hX0 := (Keep.at hSw 0 rfl).cells; go_simp; try with_reducible rfl)
  try simp only [Act.put, pa, p0, p1]
  refine wt (i := 18) (oi := ⟨some 25, _, _, _, _, _⟩) (v := ?_) rfl ?_ ?_
  rotate_left
  · (intro w hSw; (try dsimp only at hSw); have hX0 := (Keep.at hSw 0 rfl).cells; go_simp; try with_reducible rfl)
  try simp only [Act.put, pa, p0, p1]
  refine wpAnyH_done (by kernel_rfl) ?_ _
  refine NoPanic.normal ?_
  have hX := (HK.out.at 0 rfl).cells
  go_wp2_with (first
    | ((with_reducible show wpList _ _ _ (⟨some 30, _, _, _, _, _⟩ :: _) _ _); refine wpList_load_boxG (by kernel_rfl) 27 _ rfl _ rfl 27 _ (by (first | exact HK.out.at 0 rfl)) _ Tryd.underlying27 rfl (pk_size _ _ _) ?_)
    | (go_at_call 78; (with_reducible refine Calls.mono (HC.out _) ?_); rintro e w1 ⟨rfl, hb1⟩; replace HK := Lib.hid (HK.out.below hb1); have hX := (HK.out.at 0 rfl).cells; clear hb1)
    | ((with_reducible show wpList _ _ _ (⟨some 91, _, _, _, _, _⟩ :: _) _ _); refine wpList_load_box rfl 27 _ rfl _ rfl 27 _ (HK.out.at 0 rfl) _ Tryd.underlying27 rfl (pk_size _ _ _) ?_)
    | (go_at_call 79; (with_reducible refine Calls.mono (HN.out _) ?_); rintro e w1 ⟨rfl, hb1⟩; replace HK := Lib.hid (HK.out.below hb1); have hX := (HK.out.at 0 rfl).cells; clear hb1)
    | (go_at_call 80; (with_reducible refine Calls.mono (HH.out _) ?_); rintro e w1 ⟨rfl, rfl⟩)
    | (go_at_call 81; (with_reducible refine Calls.mono (HR.out _ HK.out.env (HK.out.rowAt 0 rfl)) ?_); rintro e w1 ⟨rfl, hb1⟩; replace HK := Lib.hid (HK.out.below hb1); have hX := (HK.out.at 0 rfl).cells; clear hb1))
  go_ret
  exact FIN.out _ _ HX.out HK.out.low
set_option maxRecDepth 100000 in
set_option maxHeartbeats 4000000 in
theorem right_e2a (p : Pk) (a : Option Addr) (c : Nat) (w : World) (hE : Env w) (hp : PkOk p) (ha : CellsA w a (subCells p.subs)) (f : ByteArray) (hF : ∀ w1, Calls Tryd.prog 75 #[.int .u8 (p.ty : Int)] w1 fun e w' => e = .returned (.string f) ∧ Below w1.heap.size w1 w') (hz : f.size ≤ 300000000) (hn : (f.toList == [45]) = false) (a2 : Option Addr) (c2 : Nat) (hO : ∀ w1, Env w1 → Calls Tryd.prog 76 #[.agg (pkV p a c)] w1 fun e w' => e = .returned (.agg (pkV (onlyS p) a2 c2)) ∧ Below w1.heap.size w1 w') (hS : ∀ w1, Env w1 → CellsA w1 a (subCells p.subs) → Calls Tryd.prog 24 #[.agg (pkV p a c), .agg (pkV (onlyS p) a2 c2)] w1 fun e w' => e = .returned (.bool true) ∧ Below w1.heap.size w1 w') (hL : ∀ w1, Env w1 → CellsA w1 a (subCells p.subs) → Calls Tryd.prog 77 #[.agg (pkV p a c)] w1 fun e w' => e = .returned (.bool true) ∧ Below w1.heap.size w1 w') (hq2 : decide ((2 : Int) < (p.qos : Int)) = false) (t1 : ((p.ty : Int) == 1) = false) (t2 : ((p.ty : Int) == 2) = true) (_t3 : ((p.ty : Int) == 3) = false) (hc5 : decide ((5 : Int) < (p.code : Int)) = true) (hx : rightR p = false) : Calls Tryd.prog 60 #[.agg (pkV p a c)] w fun e w' => e = .returned (.bool (rightR p)) ∧ Below w.heap.size w w' := by
  have HF := Lib.hid hF
  have HP := Lib.hid hp
  have HX := Lib.hid hx
  have FIN := Lib.hid (show ∀ (n : Bool) (w' : World), rightR p = n → Below w.heap.size w w' → Ending.returned (.bool n) = .returned (.bool (rightR p)) ∧ Below w.heap.size w w' from by rintro n w' rfl h; exact ⟨rfl, h⟩)
  have HK := Lib.hid ((Keep.begin hE [(a, subCells p.subs)] (by intro r hr; simp at hr; subst hr; exact ha)).alloc' (pkV p a c) 27 w.heap.size rfl)
  obtain ⟨k0, k1, k2, k3, k4, k5, k6, k7, k8, k9, k10, k11, k12, k13, k14, k15, k16, k17, k18, k19, k20, k21, k22, k23⟩ := pk_at p a c
  have HO := Lib.hid hO
  have HS := Lib.hid hS
  clear hO hS
  have HL := Lib.hid hL
  clear hL
  have HC := Lib.hid (fun w1 => ref03_connect p a c w1 hp)
  have HN := Lib.hid (fun w1 => ref03_Name p.topic w1 hp.topic)
  have HH := Lib.hid (fun w1 => has_lit f 105 105 rfl w1 hz)
  have HR := Lib.hid (fun w1 hE ha => ref03_rest p a c w1 hE hp ha)
  clear hF hp hx hE ha hz
  go_enter Tryd.func60, Tryd.ntmps60
  go_upto_region 1 with fail
  show Code.wp _ _ _ _ (w.alloc (.cells (pkV p a c) 27))
  generalize World.alloc w _ = w2 at HK ⊢
  have hX := (HK.out.at 0 rfl).cells
  go_upto_region 2 with (go_at_call 75; refine Calls.mono (HF.out _) ?_; rintro e w4 ⟨rfl, hb1⟩; replace HK := Lib.hid (HK.out.below hb1); clear hb1 hX HF)
  refine wp_region_noPanic ?_
  refine wp_region_held_drew (S := fun w' => Keep w [(w.heap.size, pkV p a c, 27)] [(a, subCells p.subs)] w') (by kernel_rfl) ?_ (fun hHeld => ?_)
  · (first | exact HK.out | exact HK.out.drew | exact HK.out.drewN _)
  replace HK := Lib.hid hHeld
  refine wt (i := 0) (oi := ⟨some 7, _, _, _, _, _⟩) (v := ?_) rfl ?_ ?_
  rotate_left
  · (intro w hSw; (try dsimp only at hSw); have hX0 := (Keep.at hSw 0 rfl).cells; go_simp; try with_reducible rfl)
  try simp only [Act.put, pa, p0, p1]
  refine wt (i := 1) (oi := ⟨some 8, _, _, _, _, _⟩) (v := ?_) rfl ?_ ?_
  rotate_left
  · (intro w hSw; (try dsimp only at hSw); have hX0 := (Keep.at hSw 0 rfl).cells; go_simp; try with_reducible rfl)
  try simp only [Act.put, pa, p0, p1]
  refine wt (i := 2) (oi := ⟨some 9, _, _, _, _, _⟩) (v := ?_) rfl ?_ ?_
  rotate_left
  · (intro w hSw; (try dsimp only at hSw); have hX0 := (Keep.at hSw 0 rfl).cells; go_simp; try with_reducible rfl)
  try simp only [Act.put, pa, p0, p1]
  refine wpAnyH_take (i := 3) (oi := ⟨some 10, _, _, _, _, _⟩) (v := .agg _) rfl (by kernel_rfl) (by kernel_rfl) (by kernel_rfl) (fun _ _ _ h => h) (yields_load_box (by kernel_rfl) 27 _ rfl _ rfl 27 _ _ (fun w h => Keep.at h 0 rfl) Tryd.underlying27 rfl (pk_size _ _ _)) (by assumption) ?_
  try simp only [Act.put, pa, p0, p1]
  refine wpAnyH_take (i := 4) (oi := ⟨some 11, _, _, _, _, _⟩) (v := .agg _) rfl (by kernel_rfl) (by kernel_rfl) (by kernel_rfl) (fun _ _ _ h => h) (yields_load_box (by kernel_rfl) 27 _ rfl _ rfl 27 _ _ (fun w h => Keep.at h 0 rfl) Tryd.underlying27 rfl (pk_size _ _ _)) (by assumption) ?_
  try simp only [Act.put, pa, p0, p1]
  refine wpAnyH_ready (rs := [5]) (by kernel_rfl) (by simp) ?_
  refine AllReadyH.cons (o := ⟨some 12, _, _, _, _, _⟩) rfl (fun K hK => ?_) AllReadyH.nil
  go_simp
  (go_at_call 76; refine Calls.mono (HO.out _ HK.out.env) ?_; rintro e w9 ⟨rfl, hb1⟩; replace HK := Lib.hid (HK.out.below hb1); clear hb1; go_simp)
  refine hK.out _ _ ?_ (fun hHeld => ?_)
  · (first | exact HK.out | exact HK.out.drew | exact HK.out.drewN _)
  clear hK K hHeld
  have hHeld := HK.out
  try simp only [Act.put, pa, p0, p1]
  refine wpAnyH_ready (rs := [6]) (by kernel_rfl) (by simp) ?_
  refine AllReadyH.cons (o := ⟨some 13, _, _, _, _, _⟩) rfl (fun K hK => ?_) AllReadyH.nil
  go_simp
  (go_at_call 24; refine Calls.mono (HS.out _ HK.out.env (HK.out.rowAt 0 rfl)) ?_; rintro e w9 ⟨rfl, hb1⟩; replace HK := Lib.hid (HK.out.below hb1); clear hb1; go_simp)
  refine hK.out _ _ ?_ (fun hHeld => ?_)
  · (first | exact HK.out | exact HK.out.drew | exact HK.out.drewN _)
  clear hK K hHeld
  have hHeld := HK.out
  try simp only [Act.put, pa, p0, p1]
  refine wt (i := 7) (oi := ⟨some 14, _, _, _, _, _⟩) (v := ?_) rfl ?_ ?_
  rotate_left
  · (intro w hSw; (try dsimp only at hSw); have hX0 := (Keep.at hSw 0 rfl).cells; go_simp; try with_reducible rfl)
  try simp only [Act.put, pa, p0, p1]
  refine wt (i := 8) (oi := ⟨some 15, _, _, _, _, _⟩) (v := ?_) rfl ?_ ?_
  rotate_left
  · (intro w hSw; (try dsimp only at hSw); have hX0 := (Keep.at hSw 0 rfl).cells; go_simp; try with_reducible rfl)
  try simp only [Act.put, pa, p0, p1]
  refine wt (i := 9) (oi := ⟨some 16, _, _, _, _, _⟩) (v := ?_) rfl ?_ ?_
  rotate_left
  · (intro w hSw; (try dsimp only at hSw); have hX0 := (Keep.at hSw 0 rfl).cells; go_simp; try with_reducible rfl)
  try simp only [Act.put, pa, p0, p1]
  refine wpAnyH_take (i := 10) (oi := ⟨some 17, _, _, _, _, _⟩) (v := .agg _) rfl (by kernel_rfl) (by kernel_rfl) (by kernel_rfl) (fun _ _ _ h => h) (yields_load_box (by kernel_rfl) 27 _ rfl _ rfl 27 _ _ (fun w h => Keep.at h 0 rfl) Tryd.underlying27 rfl (pk_size _ _ _)) (by assumption) ?_
  try simp only [Act.put, pa, p0, p1]
  refine wpAnyH_ready (rs := [11]) (by kernel_rfl) (by simp) ?_
  refine AllReadyH.cons (o := ⟨some 18, _, _, _, _, _⟩) rfl (fun K hK => ?_) AllReadyH.nil
  go_simp
  (go_at_call 77; refine Calls.mono (HL.out _ HK.out.env (HK.out.rowAt 0 rfl)) ?_; rintro e w9 ⟨rfl, hb1⟩; replace HK := Lib.hid (HK.out.below hb1); clear hb1; go_simp)
  refine hK.out _ _ ?_ (fun hHeld => ?_)
  · (first | exact HK.out | exact HK.out.drew | exact HK.out.drewN _)
  clear hK K hHeld
  have hHeld := HK.out
  try simp only [Act.put, pa, p0, p1]
  refine wt (i := 12) (oi := ⟨some 19, _, _, _, _, _⟩) (v := ?_) rfl ?_ ?_
  rotate_left
  · (intro w hSw; (try dsimp only at hSw); have hX0 := (Keep.at hSw 0 rfl).cells; go_simp; try with_reducible rfl)
  try simp only [Act.put, pa, p0, p1]
  refine wt (i := 13) (oi := ⟨some 20, _, _, _, _, _⟩) (v := ?_) rfl ?_ ?_
  rotate_left
  · (intro w hSw; (try dsimp only at hSw); have hX0 := (Keep.at hSw 0 rfl).cells; go_simp; try with_reducible rfl)
  try simp only [Act.put, pa, p0, p1]
  refine wt (i := 14) (oi := ⟨some 21, _, _, _, _, _⟩) (v := ?_) rfl ?_ ?_
  rotate_left
  · (intro w hSw; (try dsimp only at hSw); have hX0 := (Keep.at hSw 0 rfl).cells; go_simp; try with_reducible rfl)
  try simp only [Act.put, pa, p0, p1]
  refine wt (i := 15) (oi := ⟨some 22, _, _, _, _, _⟩) (v := ?_) rfl ?_ ?_
  rotate_left
  · (intro w hSw; (try dsimp only at hSw); have hX0 := (Keep.at hSw 0 rfl).cells; go_simp; try with_reducible rfl)
  try simp only [Act.put, pa, p0, p1]
  refine wt (i := 16) (oi := ⟨some 23, _, _, _, _, _⟩) (v := ?_) rfl ?_ ?_
  rotate_left
  · (intro w hSw; (try dsimp only at hSw); have hX0 := (Keep.at hSw 0 rfl).cells; go_simp; try with_reducible rfl)
  try simp only [Act.put, pa, p0, p1]
  refine wt (i := 17) (oi := ⟨some 24, _, _, _, _, _⟩) (v := ?_) rfl ?_ ?_
  rotate_left
  · (intro w hSw; (try dsimp only at hSw); have hX0 := (Keep.at hSw 0 rfl).cells; go_simp; try with_reducible rfl)
  try simp only [Act.put, pa, p0, p1]
  refine wt (i := 18) (oi := ⟨some 25, _, _, _, _, _⟩) (v := ?_) rfl ?_ ?_
  rotate_left
  · (intro w hSw; (try dsimp only at hSw); have hX0 := (Keep.at hSw 0 rfl).cells; go_simp; try with_reducible rfl)
  try simp only [Act.put, pa, p0, p1]
  refine wpAnyH_done (by kernel_rfl) ?_ _
  refine NoPanic.normal ?_
  have hX := (HK.out.at 0 rfl).cells
  go_wp2_with (first
    | ((with_reducible show wpList _ _ _ (⟨some 91, _, _, _, _, _⟩ :: _) _ _); refine wpList_load_box rfl 27 _ rfl _ rfl 27 _ (HK.out.at 0 rfl) _ Tryd.underlying27 rfl (pk_size _ _ _) ?_)
    | (go_at_call 79; (with_reducible refine Calls.mono (HN.out _) ?_); rintro e w1 ⟨rfl, hb1⟩; replace HK := Lib.hid (HK.out.below hb1); have hX := (HK.out.at 0 rfl).cells; clear hb1)
    | (go_at_call 80; (with_reducible refine Calls.mono (HH.out _) ?_); rintro e w1 ⟨rfl, rfl⟩)
    | (go_at_call 81; (with_reducible refine Calls.mono (HR.out _ HK.out.env (HK.out.rowAt 0 rfl)) ?_); rintro e w1 ⟨rfl, hb1⟩; replace HK := Lib.hid (HK.out.below hb1); have hX := (HK.out.at 0 rfl).cells; clear hb1))
  go_ret
  exact FIN.out _ _ HX.out HK.out.low
set_option maxRecDepth 100000 in
set_option maxHeartbeats 4000000 in
theorem right_e2b (p : Pk) (a : Option Addr) (c : Nat) (w : World) (hE : Env w) (hp : PkOk p) (ha : CellsA w a (subCells p.subs)) (f : ByteArray) (hF : ∀ w1, Calls Tryd.prog 75 #[.int .u8 (p.ty : Int)] w1 fun e w' => e = .returned (.string f) ∧ Below w1.heap.size w1 w') (hz : f.size ≤ 300000000) (hn : (f.toList == [45]) = false) (a2 : Option Addr) (c2 : Nat) (hO : ∀ w1, Env w1 → Calls Tryd.prog 76 #[.agg (pkV p a c)] w1 fun e w' => e = .returned (.agg (pkV (onlyS p) a2 c2)) ∧ Below w1.heap.size w1 w') (hS : ∀ w1, Env w1 → CellsA w1 a (subCells p.subs) → Calls Tryd.prog 24 #[.agg (pkV p a c), .agg (pkV (onlyS p) a2 c2)] w1 fun e w' => e = .returned (.bool true) ∧ Below w1.heap.size w1 w') (hL : ∀ w1, Env w1 → CellsA w1 a (subCells p.subs) → Calls Tryd.prog 77 #[.agg (pkV p a c)] w1 fun e w' => e = .returned (.bool true) ∧ Below w1.heap.size w1 w') (hq2 : decide ((2 : Int) < (p.qos : Int)) = false) (t1 : ((p.ty : Int) == 1) = false) (t2 : ((p.ty : Int) == 2) = true) (_t3 : ((p.ty : Int) == 3) = false) (hc5 : decide ((5 : Int) < (p.code : Int)) = false) (hpr : p.present = true) (hc0 : decide (0 < p.code) = true) (hx : rightR p = false) : Calls Tryd.prog 60 #[.agg (pkV p a c)] w fun e w' => e = .returned (.bool (rightR p)) ∧ Below w.heap.size w w' := by
  have HF := Lib.hid hF
  have HP := Lib.hid hp
  have HX := Lib.hid hx
  have FIN := Lib.hid (show ∀ (n : Bool) (w' : World), rightR p = n → Below w.heap.size w w' → Ending.returned (.bool n) = .returned (.bool (rightR p)) ∧ Below w.heap.size w w' from by rintro n w' rfl h; exact ⟨rfl, h⟩)
  have HK := Lib.hid ((Keep.begin hE [(a, subCells p.subs)] (by intro r hr; simp at hr; subst hr; exact ha)).alloc' (pkV p a c) 27 w.heap.size rfl)
  obtain ⟨k0, k1, k2, k3, k4, k5, k6, k7, k8, k9, k10, k11, k12, k13, k14, k15, k16, k17, k18, k19, k20, k21, k22, k23⟩ := pk_at p a c
  have HO := Lib.hid hO
  have HS := Lib.hid hS
  clear hO hS
  have HL := Lib.hid hL
  clear hL
  have HC := Lib.hid (fun w1 => ref03_connect p a c w1 hp)
  have HN := Lib.hid (fun w1 => ref03_Name p.topic w1 hp.topic)
  have HH := Lib.hid (fun w1 => has_lit f 105 105 rfl w1 hz)
  have HR := Lib.hid (fun w1 hE ha => ref03_rest p a c w1 hE hp ha)
  clear hF hp hx hE ha hz
  go_enter Tryd.func60, Tryd.ntmps60
  go_upto_region 1 with fail
  show Code.wp _ _ _ _ (w.alloc (.cells (pkV p a c) 27))
  generalize World.alloc w _ = w2 at HK ⊢
  have hX := (HK.out.at 0 rfl).cells
  go_upto_region 2 with (go_at_call 75; refine Calls.mono (HF.out _) ?_; rintro e w4 ⟨rfl, hb1⟩; replace HK := Lib.hid (HK.out.below hb1); clear hb1 hX HF)
  refine wp_region_noPanic ?_
  refine wp_region_held_drew (S := fun w' => Keep w [(w.heap.size, pkV p a c, 27)] [(a, subCells p.subs)] w') (by kernel_rfl) ?_ (fun hHeld => ?_)
  · (first | exact HK.out | exact HK.out.drew | exact HK.out.drewN _)
  replace HK := Lib.hid hHeld
  refine wt (i := 0) (oi := ⟨some 7, _, _, _, _, _⟩) (v := ?_) rfl ?_ ?_
  rotate_left
  · (intro w hSw; (try dsimp only at hSw); have hX0 := (Keep.at hSw 0 rfl).cells; go_simp; try with_reducible rfl)
  try simp only [Act.put, pa, p0, p1]
  refine wt (i := 1) (oi := ⟨some 8, _, _, _, _, _⟩) (v := ?_) rfl ?_ ?_
  rotate_left
  · (intro w hSw; (try dsimp only at hSw); have hX0 := (Keep.at hSw 0 rfl).cells; go_simp; try with_reducible rfl)
  try simp only [Act.put, pa, p0, p1]
  refine wt (i := 2) (oi := ⟨some 9, _, _, _, _, _⟩) (v := ?_) rfl ?_ ?_
  rotate_left
  · (intro w hSw; (try dsimp only at hSw); have hX0 := (Keep.at hSw 0 rfl).cells; go_simp; try with_reducible rfl)
  try simp only [Act.put, pa, p0, p1]
  refine wpAnyH_take (i := 3) (oi := ⟨some 10, _, _, _, _, _⟩) (v := .agg _) rfl (by kernel_rfl) (by kernel_rfl) (by kernel_rfl) (fun _ _ _ h => h) (yields_load_box (by kernel_rfl) 27 _ rfl _ rfl 27 _ _ (fun w h => Keep.at h 0 rfl) Tryd.underlying27 rfl (pk_size _ _ _)) (by assumption) ?_
  try simp only [Act.put, pa, p0, p1]
  refine wpAnyH_take (i := 4) (oi := ⟨some 11, _, _, _, _, _⟩) (v := .agg _) rfl (by kernel_rfl) (by kernel_rfl) (by kernel_rfl) (fun _ _ _ h => h) (yields_load_box (by kernel_rfl) 27 _ rfl _ rfl 27 _ _ (fun w h => Keep.at h 0 rfl) Tryd.underlying27 rfl (pk_size _ _ _)) (by assumption) ?_
  try simp only [Act.put, pa, p0, p1]
  refine wpAnyH_ready (rs := [5]) (by kernel_rfl) (by simp) ?_
  refine AllReadyH.cons (o := ⟨some 12, _, _, _, _, _⟩) rfl (fun K hK => ?_) AllReadyH.nil
  go_simp
  (go_at_call 76; refine Calls.mono (HO.out _ HK.out.env) ?_; rintro e w9 ⟨rfl, hb1⟩; replace HK := Lib.hid (HK.out.below hb1); clear hb1; go_simp)
  refine hK.out _ _ ?_ (fun hHeld => ?_)
  · (first | exact HK.out | exact HK.out.drew | exact HK.out.drewN _)
  clear hK K hHeld
  have hHeld := HK.out
  try simp only [Act.put, pa, p0, p1]
  refine wpAnyH_ready (rs := [6]) (by kernel_rfl) (by simp) ?_
  refine AllReadyH.cons (o := ⟨some 13, _, _, _, _, _⟩) rfl (fun K hK => ?_) AllReadyH.nil
  go_simp
  (go_at_call 24; refine Calls.mono (HS.out _ HK.out.env (HK.out.rowAt 0 rfl)) ?_; rintro e w9 ⟨rfl, hb1⟩; replace HK := Lib.hid (HK.out.below hb1); clear hb1; go_simp)
  refine hK.out _ _ ?_ (fun hHeld => ?_)
  · (first | exact HK.out | exact HK.out.drew | exact HK.out.drewN _)
  clear hK K hHeld
  have hHeld := HK.out
  try simp only [Act.put, pa, p0, p1]
  refine wt (i := 7) (oi := ⟨some 14, _, _, _, _, _⟩) (v := ?_) rfl ?_ ?_
  rotate_left
  · (intro w hSw; (try dsimp only at hSw); have hX0 := (Keep.at hSw 0 rfl).cells; go_simp; try with_reducible rfl)
  try simp only [Act.put, pa, p0, p1]
  refine wt (i := 8) (oi := ⟨some 15, _, _, _, _, _⟩) (v := ?_) rfl ?_ ?_
  rotate_left
  · (intro w hSw; (try dsimp only at hSw); have hX0 := (Keep.at hSw 0 rfl).cells; go_simp; try with_reducible rfl)
  try simp only [Act.put, pa, p0, p1]
  refine wt (i := 9) (oi := ⟨some 16, _, _, _, _, _⟩) (v := ?_) rfl ?_ ?_
  rotate_left
  · (intro w hSw; (try dsimp only at hSw); have hX0 := (Keep.at hSw 0 rfl).cells; go_simp; try with_reducible rfl)
  try simp only [Act.put, pa, p0, p1]
  refine wpAnyH_take (i := 10) (oi := ⟨some 17, _, _, _, _, _⟩) (v := .agg _) rfl (by kernel_rfl) (by kernel_rfl) (by kernel_rfl) (fun _ _ _ h => h) (yields_load_box (by kernel_rfl) 27 _ rfl _ rfl 27 _ _ (fun w h => Keep.at h 0 rfl) Tryd.underlying27 rfl (pk_size _ _ _)) (by assumption) ?_
  try simp only [Act.put, pa, p0, p1]
  refine wpAnyH_ready (rs := [11]) (by kernel_rfl) (by simp) ?_
  refine AllReadyH.cons (o := ⟨some 18, _, _, _, _, _⟩) rfl (fun K hK => ?_) AllReadyH.nil
  go_simp
  (go_at_call 77; refine Calls.mono (HL.out _ HK.out.env (HK.out.rowAt 0 rfl)) ?_; rintro e w9 ⟨rfl, hb1⟩; replace HK := Lib.hid (HK.out.below hb1); clear hb1; go_simp)
  refine hK.out _ _ ?_ (fun hHeld => ?_)
  · (first | exact HK.out | exact HK.out.drew | exact HK.out.drewN _)
  clear hK K hHeld
  have hHeld := HK.out
  try simp only [Act.put, pa, p0, p1]
  refine wt (i := 12) (oi := ⟨some 19, _, _, _, _, _⟩) (v := ?_) rfl ?_ ?_
  rotate_left
  · (intro w hSw; (try dsimp only at hSw); have hX0 := (Keep.at hSw 0 rfl).cells; go_simp; try with_reducible rfl)
  try simp only [Act.put, pa, p0, p1]
  refine wt (i := 13) (oi := ⟨some 20, _, _, _, _, _⟩) (v := ?_) rfl ?_ ?_
  rotate_left
  · (intro w hSw; (try dsimp only at hSw); have hX0 := (Keep.at hSw 0 rfl).cells; go_simp; try with_reducible rfl)
  try simp only [Act.put, pa, p0, p1]
  refine wt (i := 14) (oi := ⟨some 21, _, _, _, _, _⟩) (v := ?_) rfl ?_ ?_
  rotate_left
  · (intro w hSw; (try dsimp only at hSw); have hX0 := (Keep.at hSw 0 rfl).cells; go_simp; try with_reducible rfl)
  try simp only [Act.put, pa, p0, p1]
  refine wt (i := 15) (oi := ⟨some 22, _, _, _, _, _⟩) (v := ?_) rfl ?_ ?_
  rotate_left
  · (intro w hSw; (try dsimp only at hSw); have hX0 := (Keep.at hSw 0 rfl).cells; go_simp; try with_reducible rfl)
  try simp only [Act.put, pa, p0, p1]
  refine wt (i := 16) (oi := ⟨some 23, _, _, _, _, _⟩) (v := ?_) rfl ?_ ?_
  rotate_left
  · (intro w hSw; (try dsimp only at hSw); have hX0 := (Keep.at hSw 0 rfl).cells; go_simp; try with_reducible rfl)
  try simp only [Act.put, pa, p0, p1]
  refine wt (i := 17) (oi := ⟨some 24, _, _, _, _, _⟩) (v := ?_) rfl ?_ ?_
  rotate_left
  · (intro w hSw; (try dsimp only at hSw); have hX0 := (Keep.at hSw 0 rfl).cells; go_simp; try with_reducible rfl)
  try simp only [Act.put, pa, p0, p1]
  refine wt (i := 18) (oi := ⟨some 25, _, _, _, _, _⟩) (v := ?_) rfl ?_ ?_
  rotate_left
  · (intro w hSw; (try dsimp only at hSw); have hX0 := (Keep.at hSw 0 rfl).cells; go_simp; try with_reducible rfl)
  try simp only [Act.put, pa, p0, p1]
  refine wpAnyH_done (by kernel_rfl) ?_ _
  refine NoPanic.normal ?_
  have hX := (HK.out.at 0 rfl).cells
  go_wp2_with (first
    | ((with_reducible show wpList _ _ _ (⟨some 91, _, _, _, _, _⟩ :: _) _ _); refine wpList_load_box rfl 27 _ rfl _ rfl 27 _ (HK.out.at 0 rfl) _ Tryd.underlying27 rfl (pk_size _ _ _) ?_)
    | (go_at_call 79; (with_reducible refine Calls.mono (HN.out _) ?_); rintro e w1 ⟨rfl, hb1⟩; replace HK := Lib.hid (HK.out.below hb1); have hX := (HK.out.at 0 rfl).cells; clear hb1)
    | (go_at_call 80; (with_reducible refine Calls.mono (HH.out _) ?_); rintro e w1 ⟨rfl, rfl⟩)
    | (go_at_call 81; (with_reducible refine Calls.mono (HR.out _ HK.out.env (HK.out.rowAt 0 rfl)) ?_); rintro e w1 ⟨rfl, hb1⟩; replace HK := Lib.hid (HK.out.below hb1); have hX := (HK.out.at 0 rfl).cells; clear hb1))
  go_ret
  exact FIN.out _ _ HX.out HK.out.low
set_option maxRecDepth 100000 in
set_option maxHeartbeats 4000000 in
theorem right_e2c (p : Pk) (a : Option Addr) (c : Nat) (w : World) (hE : Env w) (hp : PkOk p) (ha : CellsA w a (subCells p.subs)) (f : ByteArray) (hF : ∀ w1, Calls Tryd.prog 75 #[.int .u8 (p.ty : Int)] w1 fun e w' => e = .returned (.string f) ∧ Below w1.heap.size w1 w') (hz : f.size ≤ 300000000) (hn : (f.toList == [45]) = false) (a2 : Option Addr) (c2 : Nat) (hO : ∀ w1, Env w1 → Calls Tryd.prog 76 #[.agg (pkV p a c)] w1 fun e w' => e = .returned (.agg (pkV (onlyS p) a2 c2)) ∧ Below w1.heap.size w1 w') (hS : ∀ w1, Env w1 → CellsA w1 a (subCells p.subs) → Calls Tryd.prog 24 #[.agg (pkV p a c), .agg (pkV (onlyS p) a2 c2)] w1 fun e w' => e = .returned (.bool true) ∧ Below w1.heap.size w1 w') (hL : ∀ w1, Env w1 → CellsA w1 a (subCells p.subs) → Calls Tryd.prog 77 #[.agg (pkV p a c)] w1 fun e w' => e = .returned (.bool true) ∧ Below w1.heap.size w1 w') (hq2 : decide ((2 : Int) < (p.qos : Int)) = false) (t1 : ((p.ty : Int) == 1) = false) (t2 : ((p.ty : Int) == 2) = true) (t3 : ((p.ty : Int) == 3) = false) (hc5 : decide ((5 : Int) < (p.code : Int)) = false) (hpr : p.present = true) (hc0 : decide (0 < p.code) = false) (hhi : hasL (bl f) 105 = false) (hx : rightR p = decide (((restR p : Nat) : Int) ≤ 268435455)) : Calls Tryd.prog 60 #[.agg (pkV p a c)] w fun e w' => e = .returned (.bool (rightR p)) ∧ Below w.heap.size w w' := by
  have HF := Lib.hid hF
  have HP := Lib.hid hp
  have HX := Lib.hid hx
  have FIN := Lib.hid (show ∀ (n : Bool) (w' : World), rightR p = n → Below w.heap.size w w' → Ending.returned (.bool n) = .returned (.bool (rightR p)) ∧ Below w.heap.size w w' from by rintro n w' rfl h; exact ⟨rfl, h⟩)
  have HK := Lib.hid ((Keep.begin hE [(a, subCells p.subs)] (by intro r hr; simp at hr; subst hr; exact ha)).alloc' (pkV p a c) 27 w.heap.size rfl)
  obtain ⟨k0, k1, k2, k3, k4, k5, k6, k7, k8, k9, k10, k11, k12, k13, k14, k15, k16, k17, k18, k19, k20, k21, k22, k23⟩ := pk_at p a c
  have HO := Lib.hid hO
  have HS := Lib.hid hS
  clear hO hS
  have HL := Lib.hid hL
  clear hL
  have HC := Lib.hid (fun w1 => ref03_connect p a c w1 hp)
  have HN := Lib.hid (fun w1 => ref03_Name p.topic w1 hp.topic)
  have HH := Lib.hid (fun w1 => has_lit f 105 105 rfl w1 hz)
  have HR := Lib.hid (fun w1 hE ha => ref03_rest p a c w1 hE hp ha)
  rw [hhi] at HH
  clear hhi
  clear hF hp hx hE ha hz
  go_enter Tryd.func60, Tryd.ntmps60
  go_upto_region 1 with fail
  show Code.wp _ _ _ _ (w.alloc (.cells (pkV p a c) 27))
  generalize World.alloc w _ = w2 at HK ⊢
  have hX := (HK.out.at 0 rfl).cells
  go_upto_region 2 with (go_at_call 75; refine Calls.mono (HF.out _) ?_; rintro e w4 ⟨rfl, hb1⟩; replace HK := Lib.hid (HK.out.below hb1); clear hb1 hX HF)
  refine wp_region_noPanic ?_
  refine wp_region_held_drew (S := fun w' => Keep w [(w.heap.size, pkV p a c, 27)] [(a, subCells p.subs)] w') (by kernel_rfl) ?_ (fun hHeld => ?_)
  · (first | exact HK.out | exact HK.out.drew | exact HK.out.drewN _)
  replace HK := Lib.hid hHeld
  refine wt (i := 0) (oi := ⟨some 7, _, _, _, _, _⟩) (v := ?_) rfl ?_ ?_
  rotate_left
  · (intro w hSw; (try dsimp only at hSw); have hX0 := (Keep.at hSw 0 rfl).cells; go_simp; try with_reducible rfl)
  try simp only [Act.put, pa, p0, p1]
  refine wt (i := 1) (oi := ⟨some 8, _, _, _, _, _⟩) (v := ?_) rfl ?_ ?_
  rotate_left
  · (intro w hSw; (try dsimp only at hSw); have hX0 := (Keep.at hSw 0 rfl).cells; go_simp; try with_reducible rfl)
  try simp only [Act.put, pa, p0, p1]
  refine wt (i := 2) (oi := ⟨some 9, _, _, _, _, _⟩) (v := ?_) rfl ?_ ?_
  rotate_left
  · (intro w hSw; (try dsimp only at hSw); have hX0 := (Keep.at hSw 0 rfl).cells; go_simp; try with_reducible rfl)
  try simp only [Act.put, pa, p0, p1]
  refine wpAnyH_take (i := 3) (oi := ⟨some 10, _, _, _, _, _⟩) (v := .agg _) rfl (by kernel_rfl) (by kernel_rfl) (by kernel_rfl) (fun _ _ _ h => h) (yields_load_box (by kernel_rfl) 27 _ rfl _ rfl 27 _ _ (fun w h => Keep.at h 0 rfl) Tryd.underlying27 rfl (pk_size _ _ _)) (by assumption) ?_
  try simp only [Act.put, pa, p0, p1]
  refine wpAnyH_take (i := 4) (oi := ⟨some 11, _, _, _, _, _⟩) (v := .agg _) rfl (by kernel_rfl) (by kernel_rfl) (by kernel_rfl) (fun _ _ _ h => h) (yields_load_box (by kernel_rfl) 27 _ rfl _ rfl 27 _ _ (fun w h => Keep.at h 0 rfl) Tryd.underlying27 rfl (pk_size _ _ _)) (by assumption) ?_
  try simp only [Act.put, pa, p0, p1]
  refine wpAnyH_ready (rs := [5]) (by kernel_rfl) (by simp) ?_
  refine AllReadyH.cons (o := ⟨some 12, _, _, _, _, _⟩) rfl (fun K hK => ?_) AllReadyH.nil
  go_simp
  (go_at_call 76; refine Calls.mono (HO.out _ HK.out.env) ?_; rintro e w9 ⟨rfl, hb1⟩; replace HK := Lib.hid (HK.out.below hb1); clear hb1; go_simp)
  refine hK.out _ _ ?_ (fun hHeld => ?_)
  · (first | exact HK.out | exact HK.out.drew | exact HK.out.drewN _)
  clear hK K hHeld
  have hHeld := HK.out
  try simp only [Act.put, pa, p0, p1]
  refine wpAnyH_ready (rs := [6]) (by kernel_rfl) (by simp) ?_
  refine AllReadyH.cons (o := ⟨some 13, _, _, _, _, _⟩) rfl (fun K hK => ?_) AllReadyH.nil
  go_simp
  (go_at_call 24; refine Calls.mono (HS.out _ HK.out.env (HK.out.rowAt 0 rfl)) ?_; rintro e w9 ⟨rfl, hb1⟩; replace HK := Lib.hid (HK.out.below hb1); clear hb1; go_simp)
  refine hK.out _ _ ?_ (fun hHeld => ?_)
  · (first | exact HK.out | exact HK.out.drew | exact HK.out.drewN _)
  clear hK K hHeld
  have hHeld := HK.out
  try simp only [Act.put, pa, p0, p1]
  refine wt (i := 7) (oi := ⟨some 14, _, _, _, _, _⟩) (v := ?_) rfl ?_ ?_
  rotate_left
  · (intro w hSw; (try dsimp only at hSw); have hX0 := (Keep.at hSw 0 rfl).cells; go_simp; try with_reducible rfl)
  try simp only [Act.put, pa, p0, p1]
  refine wt (i := 8) (oi := ⟨some 15, _, _, _, _, _⟩) (v := ?_) rfl ?_ ?_
  rotate_left
  · (intro w hSw; (try dsimp only at hSw); have hX0 := (Keep.at hSw 0 rfl).cells; go_simp; try with_reducible rfl)
  try simp only [Act.put, pa, p0, p1]
  refine wt (i := 9) (oi := ⟨some 16, _, _, _, _, _⟩) (v := ?_) rfl ?_ ?_
  rotate_left
  · (intro w hSw; (try dsimp only at hSw); have hX0 := (Keep.at hSw 0 rfl).cells; go_simp; try with_reducible rfl)
  try simp only [Act.put, pa, p0, p1]
  refine wpAnyH_take (i := 10) (oi := ⟨some 17, _, _, _, _, _⟩) (v := .agg _) rfl (by kernel_rfl) (by kernel_rfl) (by kernel_rfl) (fun _ _ _ h => h) (yields_load_box (by kernel_rfl) 27 _ rfl _ rfl 27 _ _ (fun w h => Keep.at h 0 rfl) Tryd.underlying27 rfl (pk_size _ _ _)) (by assumption) ?_
  try simp only [Act.put, pa, p0, p1]
  refine wpAnyH_ready (rs := [11]) (by kernel_rfl) (by simp) ?_
  refine AllReadyH.cons (o := ⟨some 18, _, _, _, _, _⟩) rfl (fun K hK => ?_) AllReadyH.nil
  go_simp
  (go_at_call 77; refine Calls.mono (HL.out _ HK.out.env (HK.out.rowAt 0 rfl)) ?_; rintro e w9 ⟨rfl, hb1⟩; replace HK := Lib.hid (HK.out.below hb1); clear hb1; go_simp)
  refine hK.out _ _ ?_ (fun hHeld => ?_)
  · (first | exact HK.out | exact HK.out.drew | exact HK.out.drewN _)
  clear hK K hHeld
  have hHeld := HK.out
  try simp only [Act.put, pa, p0, p1]
  refine wt (i := 12) (oi := ⟨some 19, _, _, _, _, _⟩) (v := ?_) rfl ?_ ?_
  rotate_left
  · (intro w hSw; (try dsimp only at hSw); have hX0 := (Keep.at hSw 0 rfl).cells; go_simp; try with_reducible rfl)
  try simp only [Act.put, pa, p0, p1]
  refine wt (i := 13) (oi := ⟨some 20, _, _, _, _, _⟩) (v := ?_) rfl ?_ ?_
  rotate_left
  · (intro w hSw; (try dsimp only at hSw); have hX0 := (Keep.at hSw 0 rfl).cells; go_simp; try with_reducible rfl)
  try simp only [Act.put, pa, p0, p1]
  refine wt (i := 14) (oi := ⟨some 21, _, _, _, _, _⟩) (v := ?_) rfl ?_ ?_
  rotate_left
  · (intro w hSw; (try dsimp only at hSw); have hX0 := (Keep.at hSw 0 rfl).cells; go_simp; try with_reducible rfl)
  try simp only [Act.put, pa, p0, p1]
  refine wt (i := 15) (oi := ⟨some 22, _, _, _, _, _⟩) (v := ?_) rfl ?_ ?_
  rotate_left
  · (intro w hSw; (try dsimp only at hSw); have hX0 := (Keep.at hSw 0 rfl).cells; go_simp; try with_reducible rfl)
  try simp only [Act.put, pa, p0, p1]
  refine wt (i := 16) (oi := ⟨some 23, _, _, _, _, _⟩) (v := ?_) rfl ?_ ?_
  rotate_left
  · (intro w hSw; (try dsimp only at hSw); have hX0 := (Keep.at hSw 0 rfl).cells; go_simp; try with_reducible rfl)
  try simp only [Act.put, pa, p0, p1]
  refine wt (i := 17) (oi := ⟨some 24, _, _, _, _, _⟩) (v := ?_) rfl ?_ ?_
  rotate_left
  · (intro w hSw; (try dsimp only at hSw); have hX0 := (Keep.at hSw 0 rfl).cells; go_simp; try with_reducible rfl)
  try simp only [Act.put, pa, p0, p1]
  refine wt (i := 18) (oi := ⟨some 25, _, _, _, _, _⟩) (v := ?_) rfl ?_ ?_
  rotate_left
  · (intro w hSw; (try dsimp only at hSw); have hX0 := (Keep.at hSw 0 rfl).cells; go_simp; try with_reducible rfl)
  try simp only [Act.put, pa, p0, p1]
  refine wpAnyH_done (by kernel_rfl) ?_ _
  refine NoPanic.normal ?_
  have hX := (HK.out.at 0 rfl).cells
  go_wp2_with (first
    | ((with_reducible show wpList _ _ _ (⟨some 91, _, _, _, _, _⟩ :: _) _ _); refine wpList_load_box rfl 27 _ rfl _ rfl 27 _ (HK.out.at 0 rfl) _ Tryd.underlying27 rfl (pk_size _ _ _) ?_)
    | (go_at_call 79; (with_reducible refine Calls.mono (HN.out _) ?_); rintro e w1 ⟨rfl, hb1⟩; replace HK := Lib.hid (HK.out.below hb1); have hX := (HK.out.at 0 rfl).cells; clear hb1)
    | (go_at_call 80; (with_reducible refine Calls.mono (HH.out _) ?_); rintro e w1 ⟨rfl, rfl⟩)
    | (go_at_call 81; (with_reducible refine Calls.mono (HR.out _ HK.out.env (HK.out.rowAt 0 rfl)) ?_); rintro e w1 ⟨rfl, hb1⟩; replace HK := Lib.hid (HK.out.below hb1); have hX := (HK.out.at 0 rfl).cells; clear hb1))
  go_ret
  exact FIN.out _ _ HX.out HK.out.low
set_option maxRecDepth 100000 in
set_option maxHeartbeats 4000000 in
theorem right_e2d (p : Pk) (a : Option Addr) (c : Nat) (w : World) (hE : Env w) (hp : PkOk p) (ha : CellsA w a (subCells p.subs)) (f : ByteArray) (hF : ∀ w1, Calls Tryd.prog 75 #[.int .u8 (p.ty : Int)] w1 fun e w' => e = .returned (.string f) ∧ Below w1.heap.size w1 w') (hz : f.size ≤ 300000000) (hn : (f.toList == [45]) = false) (a2 : Option Addr) (c2 : Nat) (hO : ∀ w1, Env w1 → Calls Tryd.prog 76 #[.agg (pkV p a c)] w1 fun e w' => e = .returned (.agg (pkV (onlyS p) a2 c2)) ∧ Below w1.heap.size w1 w') (hS : ∀ w1, Env w1 → CellsA w1 a (subCells p.subs) → Calls Tryd.prog 24 #[.agg (pkV p a c), .agg (pkV (onlyS p) a2 c2)] w1 fun e w' => e = .returned (.bool true) ∧ Below w1.heap.size w1 w') (hL : ∀ w1, Env w1 → CellsA w1 a (subCells p.subs) → Calls Tryd.prog 77 #[.agg (pkV p a c)] w1 fun e w' => e = .returned (.bool true) ∧ Below w1.heap.size w1 w') (hq2 : decide ((2 : Int) < (p.qos : Int)) = false) (t1 : ((p.ty : Int) == 1) = false) (t2 : ((p.ty : Int) == 2) = true) (t3 : ((p.ty : Int) == 3) = false) (hc5 : decide ((5 : Int) < (p.code : Int)) = false) (hpr : p.present = false) (hhi : hasL (bl f) 105 = false) (hx : rightR p = decide (((restR p : Nat) : Int) ≤ 268435455)) : Calls Tryd.prog 60 #[.agg (pkV p a c)] w fun e w' => e = .returned (.bool (rightR p)) ∧ Below w.heap.size w w' := by
  have HF := Lib.hid hF
  have HP := Lib.hid hp
  have HX := Lib.hid hx
  have FIN := Lib.hid (show ∀ (n : Bool) (w' : World), rightR p = n → Below w.heap.size w w' → Ending.returned (.bool n) = .returned (.bool (rightR p)) ∧ Below w.heap.size w w' from by rintro n w' rfl h; exact ⟨rfl, h⟩)
  have HK := Lib.hid ((Keep.begin hE [(a, subCells p.subs)] (by intro r hr; simp at hr; subst hr; exact ha)).alloc' (pkV p a c) 27 w.heap.size rfl)
  obtain ⟨k0, k1, k2, k3, k4, k5, k6, k7, k8, k9, k10, k11, k12, k13, k14, k15, k16, k17, k18, k19, k20, k21, k22, k23⟩ := pk_at p a c
  have HO := Lib.hid hO
  have HS := Lib.hid hS
  clear hO hS
  have HL := Lib.hid hL
  clear hL
  have HC := Lib.hid (fun w1 => ref03_connect p a c w1 hp)
  have HN := Lib.hid (fun w1 => ref03_Name p.topic w1 hp.topic)
  have HH := Lib.hid (fun w1 => has_lit f 105 105 rfl w1 hz)
  have HR := Lib.hid (fun w1 hE ha => ref03_rest p a c w1 hE hp ha)
  rw [hhi] at HH
  clear hhi
  clear hF hp hx hE ha hz
  go_enter Tryd.func60, Tryd.ntmps60
  go_upto_region 1 with fail
  show Code.wp _ _ _ _ (w.alloc (.cells (pkV p a c) 27))
  generalize World.alloc w _ = w2 at HK ⊢
  have hX := (HK.out.at 0 rfl).cells
  go_upto_region 2 with (go_at_call 75; refine Calls.mono (HF.out _) ?_; rintro e w4 ⟨rfl, hb1⟩; replace HK := Lib.hid (HK.out.below hb1); clear hb1 hX HF)
  refine wp_region_noPanic ?_
  refine wp_region_held_drew (S := fun w' => Keep w [(w.heap.size, pkV p a c, 27)] [(a, subCells p.subs)] w') (by kernel_rfl) ?_ (fun hHeld => ?_)
  · (first | exact HK.out | exact HK.out.drew | exact HK.out.drewN _)
  replace HK := Lib.hid hHeld
  refine wt (i := 0) (oi := ⟨some 7, _, _, _, _, _⟩) (v := ?_) rfl ?_ ?_
  rotate_left
  · (intro w hSw; (try dsimp only at hSw); have hX0 := (Keep.at hSw 0 rfl).cells; go_simp; try with_reducible rfl)
  try simp only [Act.put, pa, p0, p1]
  refine wt (i := 1) (oi := ⟨some 8, _, _, _, _, _⟩) (v := ?_) rfl ?_ ?_
  rotate_left
  · (intro w hSw; (try dsimp only at hSw); have hX0 := (Keep.at hSw 0 rfl).cells; go_simp; try with_reducible rfl)
  try simp only [Act.put, pa, p0, p1]
  refine wt (i := 2) (oi := ⟨some 9, _, _, _, _, _⟩) (v := ?_) rfl ?_ ?_
  rotate_left
  · (intro w hSw; (try dsimp only at hSw); have hX0 := (Keep.at hSw 0 rfl).cells; go_simp; try with_reducible rfl)
  try simp only [Act.put, pa, p0, p1]
  refine wpAnyH_take (i := 3) (oi := ⟨some 10, _, _, _, _, _⟩) (v := .agg _) rfl (by kernel_rfl) (by kernel_rfl) (by kernel_rfl) (fun _ _ _ h => h) (yields_load_box (by kernel_rfl) 27 _ rfl _ rfl 27 _ _ (fun w h => Keep.at h 0 rfl) Tryd.underlying27 rfl (pk_size _ _ _)) (by assumption) ?_
  try simp only [Act.put, pa, p0, p1]
  refine wpAnyH_take (i := 4) (oi := ⟨some 11, _, _, _, _, _⟩) (v := .agg _) rfl (by kernel_rfl) (by kernel_rfl) (by kernel_rfl) (fun _ _ _ h => h) (yields_load_box (by kernel_rfl) 27 _ rfl _ rfl 27 _ _ (fun w h => Keep.at h 0 rfl) Tryd.underlying27 rfl (pk_size _ _ _)) (by assumption) ?_
  try simp only [Act.put, pa, p0, p1]
  refine wpAnyH_ready (rs := [5]) (by kernel_rfl) (by simp) ?_
  refine AllReadyH.cons (o := ⟨some 12, _, _, _, _, _⟩) rfl (fun K hK => ?_) AllReadyH.nil
  go_simp
  (go_at_call 76; refine Calls.mono (HO.out _ HK.out.env) ?_; rintro e w9 ⟨rfl, hb1⟩; replace HK := Lib.hid (HK.out.below hb1); clear hb1; go_simp)
  refine hK.out _ _ ?_ (fun hHeld => ?_)
  · (first | exact HK.out | exact HK.out.drew | exact HK.out.drewN _)
  clear hK K hHeld
  have hHeld := HK.out
  try simp only [Act.put, pa, p0, p1]
  refine wpAnyH_ready (rs := [6]) (by kernel_rfl) (by simp) ?_
  refine AllReadyH.cons (o := ⟨some 13, _, _, _, _, _⟩) rfl (fun K hK => ?_) AllReadyH.nil
  go_simp
  (go_at_call 24; refine Calls.mono (HS.out _ HK.out.env (HK.out.rowAt 0 rfl)) ?_; rintro e w9 ⟨rfl, hb1⟩; replace HK := Lib.hid (HK.out.below hb1); clear hb1; go_simp)
  refine hK.out _ _ ?_ (fun hHeld => ?_)
  · (first | exact HK.out | exact HK.out.drew | exact HK.out.drewN _)
  clear hK K hHeld
  have hHeld := HK.out
  try simp only [Act.put, pa, p0, p1]
  refine wt (i := 7) (oi := ⟨some 14, _, _, _, _, _⟩) (v := ?_) rfl ?_ ?_
  rotate_left
  · (intro w hSw; (try dsimp only at hSw); have hX0 := (Keep.at hSw 0 rfl).cells; go_simp; try with_reducible rfl)
  try simp only [Act.put, pa, p0, p1]
  refine wt (i := 8) (oi := ⟨some 15, _, _, _, _, _⟩) (v := ?_) rfl ?_ ?_
  rotate_left
  · (intro w hSw; (try dsimp only at hSw); have hX0 := (Keep.at hSw 0 rfl).cells; go_simp; try with_reducible rfl)
  try simp only [Act.put, pa, p0, p1]
  refine wt (i := 9) (oi := ⟨some 16, _, _, _, _, _⟩) (v := ?_) rfl ?_ ?_
  rotate_left
  · (intro w hSw; (try dsimp only at hSw); have hX0 := (Keep.at hSw 0 rfl).cells; go_simp; try with_reducible rfl)
  try simp only [Act.put, pa, p0, p1]
  refine wpAnyH_take (i := 10) (oi := ⟨some 17, _, _, _, _, _⟩) (v := .agg _) rfl (by kernel_rfl) (by kernel_rfl) (by kernel_rfl) (fun _ _ _ h => h) (yields_load_box (by kernel_rfl) 27 _ rfl _ rfl 27 _ _ (fun w h => Keep.at h 0 rfl) Tryd.underlying27 rfl (pk_size _ _ _)) (by assumption) ?_
  try simp only [Act.put, pa, p0, p1]
  refine wpAnyH_ready (rs := [11]) (by kernel_rfl) (by simp) ?_
  refine AllReadyH.cons (o := ⟨some 18, _, _, _, _, _⟩) rfl (fun K hK => ?_) AllReadyH.nil
  go_simp
  (go_at_call 77; refine Calls.mono (HL.out _ HK.out.env (HK.out.rowAt 0 rfl)) ?_; rintro e w9 ⟨rfl, hb1⟩; replace HK := Lib.hid (HK.out.below hb1); clear hb1; go_simp)
  refine hK.out _ _ ?_ (fun hHeld => ?_)
  · (first | exact HK.out | exact HK.out.drew | exact HK.out.drewN _)
  clear hK K hHeld
  have hHeld := HK.out
  try simp only [Act.put, pa, p0, p1]
  refine wt (i := 12) (oi := ⟨some 19, _, _, _, _, _⟩) (v := ?_) rfl ?_ ?_
  rotate_left
  · (intro w hSw; (try dsimp only at hSw); have hX0 := (Keep.at hSw 0 rfl).cells; go_simp; try with_reducible rfl)
  try simp only [Act.put, pa, p0, p1]
  refine wt (i := 13) (oi := ⟨some 20, _, _, _, _, _⟩) (v := ?_) rfl ?_ ?_
  rotate_left
  · (intro w hSw; (try dsimp only at hSw); have hX0 := (Keep.at hSw 0 rfl).cells; go_simp; try with_reducible rfl)
  try simp only [Act.put, pa, p0, p1]
  refine wt (i := 14) (oi := ⟨some 21, _, _, _, _, _⟩) (v := ?_) rfl ?_ ?_
  rotate_left
  · (intro w hSw; (try dsimp only at hSw); have hX0 := (Keep.at hSw 0 rfl).cells; go_simp; try with_reducible rfl)
  try simp only [Act.put, pa, p0, p1]
  refine wt (i := 15) (oi := ⟨some 22, _, _, _, _, _⟩) (v := ?_) rfl ?_ ?_
  rotate_left
  · (intro w hSw; (try dsimp only at hSw); have hX0 := (Keep.at hSw 0 rfl).cells; go_simp; try with_reducible rfl)
  try simp only [Act.put, pa, p0, p1]
  refine wt (i := 16) (oi := ⟨some 23, _, _, _, _, _⟩) (v := ?_) rfl ?_ ?_
  rotate_left
  · (intro w hSw; (try dsimp only at hSw); have hX0 := (Keep.at hSw 0 rfl).cells; go_simp; try with_reducible rfl)
  try simp only [Act.put, pa, p0, p1]
  refine wt (i := 17) (oi := ⟨some 24, _, _, _, _, _⟩) (v := ?_) rfl ?_ ?_
  rotate_left
  · (intro w hSw; (try dsimp only at hSw); have hX0 := (Keep.at hSw 0 rfl).cells; go_simp; try with_reducible rfl)
  try simp only [Act.put, pa, p0, p1]
  refine wt (i := 18) (oi := ⟨some 25, _, _, _, _, _⟩) (v := ?_) rfl ?_ ?_
  rotate_left
  · (intro w hSw; (try dsimp only at hSw); have hX0 := (Keep.at hSw 0 rfl).cells; go_simp; try with_reducible rfl)
  try simp only [Act.put, pa, p0, p1]
  refine wpAnyH_done (by kernel_rfl) ?_ _
  refine NoPanic.normal ?_
  have hX := (HK.out.at 0 rfl).cells
  go_wp2_with (first
    | ((with_reducible show wpList _ _ _ (⟨some 91, _, _, _, _, _⟩ :: _) _ _); refine wpList_load_box rfl 27 _ rfl _ rfl 27 _ (HK.out.at 0 rfl) _ Tryd.underlying27 rfl (pk_size _ _ _) ?_)
    | (go_at_call 79; (with_reducible refine Calls.mono (HN.out _) ?_); rintro e w1 ⟨rfl, hb1⟩; replace HK := Lib.hid (HK.out.below hb1); have hX := (HK.out.at 0 rfl).cells; clear hb1)
    | (go_at_call 80; (with_reducible refine Calls.mono (HH.out _) ?_); rintro e w1 ⟨rfl, rfl⟩)
    | (go_at_call 81; (with_reducible refine Calls.mono (HR.out _ HK.out.env (HK.out.rowAt 0 rfl)) ?_); rintro e w1 ⟨rfl, hb1⟩; replace HK := Lib.hid (HK.out.below hb1); have hX := (HK.out.at 0 rfl).cells; clear hb1))
  go_ret
  exact FIN.out _ _ HX.out HK.out.low
set_option maxRecDepth 100000 in
set_option maxHeartbeats 4000000 in
theorem right_e3a (p : Pk) (a : Option Addr) (c : Nat) (w : World) (hE : Env w) (hp : PkOk p) (ha : CellsA w a (subCells p.subs)) (f : ByteArray) (hF : ∀ w1, Calls Tryd.prog 75 #[.int .u8 (p.ty : Int)] w1 fun e w' => e = .returned (.string f) ∧ Below w1.heap.size w1 w') (hz : f.size ≤ 300000000) (hn : (f.toList == [45]) = false) (a2 : Option Addr) (c2 : Nat) (hO : ∀ w1, Env w1 → Calls Tryd.prog 76 #[.agg (pkV p a c)] w1 fun e w' => e = .returned (.agg (pkV (onlyS p) a2 c2)) ∧ Below w1.heap.size w1 w') (hS : ∀ w1, Env w1 → CellsA w1 a (subCells p.subs) → Calls Tryd.prog 24 #[.agg (pkV p a c), .agg (pkV (onlyS p) a2 c2)] w1 fun e w' => e = .returned (.bool true) ∧ Below w1.heap.size w1 w') (hL : ∀ w1, Env w1 → CellsA w1 a (subCells p.subs) → Calls Tryd.prog 77 #[.agg (pkV p a c)] w1 fun e w' => e = .returned (.bool true) ∧ Below w1.heap.size w1 w') (hq2 : decide ((2 : Int) < (p.qos : Int)) = false) (t1 : ((p.ty : Int) == 1) = false) (t2 : ((p.ty : Int) == 2) = false) (t3 : ((p.ty : Int) == 3) = true) (hnm : nameL (bl p.topic) = false) (hx : rightR p = false) : Calls Tryd.prog 60 #[.agg (pkV p a c)] w fun e w' => e = .returned (.bool (rightR p)) ∧ Below w.heap.size w w' := by
  have HF := Lib.hid hF
  have HP := Lib.hid hp
  have HX := Lib.hid hx
  have FIN := Lib.hid (show ∀ (n : Bool) (w' : World), rightR p = n → Below w.heap.size w w' → Ending.returned (.bool n) = .returned (.bool (rightR p)) ∧ Below w.heap.size w w' from by rintro n w' rfl h; exact ⟨rfl, h⟩)
  have HK := Lib.hid ((Keep.begin hE [(a, subCells p.subs)] (by intro r hr; simp at hr; subst hr; exact ha)).alloc' (pkV p a c) 27 w.heap.size rfl)
  obtain ⟨k0, k1, k2, k3, k4, k5, k6, k7, k8, k9, k10, k11, k12, k13, k14, k15, k16, k17, k18, k19, k20, k21, k22, k23⟩ := pk_at p a c
  have HO := Lib.hid hO
  have HS := Lib.hid hS
  clear hO hS
  have HL := Lib.hid hL
  clear hL
  have HC := Lib.hid (fun w1 => ref03_connect p a c w1 hp)
  have HN := Lib.hid (fun w1 => ref03_Name p.topic w1 hp.topic)
  have HH := Lib.hid (fun w1 => has_lit f 105 105 rfl w1 hz)
  have HR := Lib.hid (fun w1 hE ha => ref03_rest p a c w1 hE hp ha)
  rw [hnm] at HN
  clear hnm
  clear hF hp hx hE ha hz
  go_enter Tryd.func60, Tryd.ntmps60
  go_upto_region 1 with fail
  show Code.wp _ _ _ _ (w.alloc (.cells (pkV p a c) 27))
  generalize World.alloc w _ = w2 at HK ⊢
  have hX := (HK.out.at 0 rfl).cells
  go_upto_region 2 with (go_at_call 75; refine Calls.mono (HF.out _) ?_; rintro e w4 ⟨rfl, hb1⟩; replace HK := Lib.hid (HK.out.below hb1); clear hb1 hX HF)
  refine wp_region_noPanic ?_
  refine wp_region_held_drew (S := fun w' => Keep w [(w.heap.size, pkV p a c, 27)] [(a, subCells p.subs)] w') (by kernel_rfl) ?_ (fun hHeld => ?_)
  · (first | exact HK.out | exact HK.out.drew | exact HK.out.drewN _)
  replace HK := Lib.hid hHeld
  refine wt (i := 0) (oi := ⟨some 7, _, _, _, _, _⟩) (v := ?_) rfl ?_ ?_
  rotate_left
  · (intro w hSw; (try dsimp only at hSw); have hX0 := (Keep.at hSw 0 rfl).cells; go_simp; try with_reducible rfl)
  try simp only [Act.put, pa, p0, p1]
  refine wt (i := 1) (oi := ⟨some 8, _, _, _, _, _⟩) (v := ?_) rfl ?_ ?_
  rotate_left
  · (intro w hSw; (try dsimp only at hSw); have hX0 := (Keep.at hSw 0 rfl).cells; go_simp; try with_reducible rfl)
  try simp only [Act.put, pa, p0, p1]
  refine wt (i := 2) (oi := ⟨some 9, _, _, _, _, _⟩) (v := ?_) rfl ?_ ?_
  rotate_left
  · (intro w hSw; (try dsimp only at hSw); have hX0 := (Keep.at hSw 0 rfl).cells; go_simp; try with_reducible rfl)
  try simp only [Act.put, pa, p0, p1]
  refine wpAnyH_take (i := 3) (oi := ⟨some 10, _, _, _, _, _⟩) (v := .agg _) rfl (by kernel_rfl) (by kernel_rfl) (by kernel_rfl) (fun _ _ _ h => h) (yields_load_box (by kernel_rfl) 27 _ rfl _ rfl 27 _ _ (fun w h => Keep.at h 0 rfl) Tryd.underlying27 rfl (pk_size _ _ _)) (by assumption) ?_
  try simp only [Act.put, pa, p0, p1]
  refine wpAnyH_take (i := 4) (oi := ⟨some 11, _, _, _, _, _⟩) (v := .agg _) rfl (by kernel_rfl) (by kernel_rfl) (by kernel_rfl) (fun _ _ _ h => h) (yields_load_box (by kernel_rfl) 27 _ rfl _ rfl 27 _ _ (fun w h => Keep.at h 0 rfl) Tryd.underlying27 rfl (pk_size _ _ _)) (by assumption) ?_
  try simp only [Act.put, pa, p0, p1]
  refine wpAnyH_ready (rs := [5]) (by kernel_rfl) (by simp) ?_
  refine AllReadyH.cons (o := ⟨some 12, _, _, _, _, _⟩) rfl (fun K hK => ?_) AllReadyH.nil
  go_simp
  (go_at_call 76; refine Calls.mono (HO.out _ HK.out.env) ?_; rintro e w9 ⟨rfl, hb1⟩; replace HK := Lib.hid (HK.out.below hb1); clear hb1; go_simp)
  refine hK.out _ _ ?_ (fun hHeld => ?_)
  · (first | exact HK.out | exact HK.out.drew | exact HK.out.drewN _)
  clear hK K hHeld
  have hHeld := HK.out
  try simp only [Act.put, pa, p0, p1]
  refine wpAnyH_ready (rs := [6]) (by kernel_rfl) (by simp) ?_
  refine AllReadyH.cons (o := ⟨some 13, _, _, _, _, _⟩) rfl (fun K hK => ?_) AllReadyH.nil
  go_simp
  (go_at_call 24; refine Calls.mono (HS.out _ HK.out.env (HK.out.rowAt 0 rfl)) ?_; rintro e w9 ⟨rfl, hb1⟩; replace HK := Lib.hid (HK.out.below hb1); clear hb1; go_simp)
  refine hK.out _ _ ?_ (fun hHeld => ?_)
  · (first | exact HK.out | exact HK.out.drew | exact HK.out.drewN _)
  clear hK K hHeld
  have hHeld := HK.out
  try simp only [Act.put, pa, p0, p1]
  refine wt (i := 7) (oi := ⟨some 14, _, _, _, _, _⟩) (v := ?_) rfl ?_ ?_
  rotate_left
  · (intro w hSw; (try dsimp only at hSw); have hX0 := (Keep.at hSw 0 rfl).cells; go_simp; try with_reducible rfl)
  try simp only [Act.put, pa, p0, p1]
  refine wt (i := 8) (oi := ⟨some 15, _, _, _, _, _⟩) (v := ?_) rfl ?_ ?_
  rotate_left
  · (intro w hSw; (try dsimp only at hSw); have hX0 := (Keep.at hSw 0 rfl).cells; go_simp; try with_reducible rfl)
  try simp only [Act.put, pa, p0, p1]
  refine wt (i := 9) (oi := ⟨some 16, _, _, _, _, _⟩) (v := ?_) rfl ?_ ?_
  rotate_left
  · (intro w hSw; (try dsimp only at hSw); have hX0 := (Keep.at hSw 0 rfl).cells; go_simp; try with_reducible rfl)
  try simp only [Act.put, pa, p0, p1]
  refine wpAnyH_take (i := 10) (oi := ⟨some 17, _, _, _, _, _⟩) (v := .agg _) rfl (by kernel_rfl) (by kernel_rfl) (by kernel_rfl) (fun _ _ _ h => h) (yields_load_box (by kernel_rfl) 27 _ rfl _ rfl 27 _ _ (fun w h => Keep.at h 0 rfl) Tryd.underlying27 rfl (pk_size _ _ _)) (by assumption) ?_
  try simp only [Act.put, pa, p0, p1]
  refine wpAnyH_ready (rs := [11]) (by kernel_rfl) (by simp) ?_
  refine AllReadyH.cons (o := ⟨some 18, _, _, _, _, _⟩) rfl (fun K hK => ?_) AllReadyH.nil
  go_simp
  (go_at_call 77; refine Calls.mono (HL.out _ HK.out.env (HK.out.rowAt 0 rfl)) ?_; rintro e w9 ⟨rfl, hb1⟩; replace HK := Lib.hid (HK.out.below hb1); clear hb1; go_simp)
  refine hK.out _ _ ?_ (fun hHeld => ?_)
  · (first | exact HK.out | exact HK.out.drew | exact HK.out.drewN _)
  clear hK K hHeld
  have hHeld := HK.out
  try simp only [Act.put, pa, p0, p1]
  refine wt (i := 12) (oi := ⟨some 19, _, _, _, _, _⟩) (v := ?_) rfl ?_ ?_
  rotate_left
  · (intro w hSw; (try dsimp only at hSw); have hX0 := (Keep.at hSw 0 rfl).cells; go_simp; try with_reducible rfl)
  try simp only [Act.put, pa, p0, p1]
  refine wt (i := 13) (oi := ⟨some 20, _, _, _, _, _⟩) (v := ?_) rfl ?_ ?_
  rotate_left
  · (intro w hSw; (try dsimp only at hSw); have hX0 := (Keep.at hSw 0 rfl).cells; go_simp; try with_reducible rfl)
  try simp only [Act.put, pa, p0, p1]
  refine wt (i := 14) (oi := ⟨some 21, _, _, _, _, _⟩) (v := ?_) rfl ?_ ?_
  rotate_left
  · (intro w hSw; (try dsimp only at hSw); have hX0 := (Keep.at hSw 0 rfl).cells; go_simp; try with_reducible rfl)
  try simp only [Act.put, pa, p0, p1]
  refine wt (i := 15) (oi := ⟨some 22, _, _, _, _, _⟩) (v := ?_) rfl ?_ ?_
  rotate_left
  · (intro w hSw; (try dsimp only at hSw); have hX0 := (Keep.at hSw 0 rfl).cells; go_simp; try with_reducible rfl)
  try simp only [Act.put, pa, p0, p1]
  refine wt (i := 16) (oi := ⟨some 23, _, _, _, _, _⟩) (v := ?_) rfl ?_ ?_
  rotate_left
  · (intro w hSw; (try dsimp only at hSw); have hX0 := (Keep.at hSw 0 rfl).cells; go_simp; try with_reducible rfl)
  try simp only [Act.put, pa, p0, p1]
  refine wt (i := 17) (oi := ⟨some 24, _, _, _, _, _⟩) (v := ?_) rfl ?_ ?_
  rotate_left
  · (intro w hSw; (try dsimp only at hSw); have hX0 := (Keep.at hSw 0 rfl).cells; go_simp; try with_reducible rfl)
  try simp only [Act.put, pa, p0, p1]
  refine wt (i := 18) (oi := ⟨some 25, _, _, _, _, _⟩) (v := ?_) rfl ?_ ?_
  rotate_left
  · (intro w hSw; (try dsimp only at hSw); have hX0 := (Keep.at hSw 0 rfl).cells; go_simp; try with_reducible rfl)
  try simp only [Act.put, pa, p0, p1]
  refine wpAnyH_done (by kernel_rfl) ?_ _
  refine NoPanic.normal ?_
  have hX := (HK.out.at 0 rfl).cells
  go_wp2_with (first
    | ((with_reducible show wpList _ _ _ (⟨some 91, _, _, _, _, _⟩ :: _) _ _); refine wpList_load_box rfl 27 _ rfl _ rfl 27 _ (HK.out.at 0 rfl) _ Tryd.underlying27 rfl (pk_size _ _ _) ?_)
    | (go_at_call 79; (with_reducible refine Calls.mono (HN.out _) ?_); rintro e w1 ⟨rfl, hb1⟩; replace HK := Lib.hid (HK.out.below hb1); have hX := (HK.out.at 0 rfl).cells; clear hb1)
    | (go_at_call 80; (with_reducible refine Calls.mono (HH.out _) ?_); rintro e w1 ⟨rfl, rfl⟩)
    | (go_at_call 81; (with_reducible refine Calls.mono (HR.out _ HK.out.env (HK.out.rowAt 0 rfl)) ?_); rintro e w1 ⟨rfl, hb1⟩; replace HK := Lib.hid (HK.out.below hb1); have hX := (HK.out.at 0 rfl).cells; clear hb1))
  go_ret
  exact FIN.out _ _ HX.out HK.out.low
set_option maxRecDepth 100000 in
set_option maxHeartbeats 4000000 in
theorem right_e3b (p : Pk) (a : Option Addr) (c : Nat) (w : World) (hE : Env w) (hp : PkOk p) (ha : CellsA w a (subCells p.subs)) (f : ByteArray) (hF : ∀ w1, Calls Tryd.prog 75 #[.int .u8 (p.ty : Int)] w1 fun e w' => e = .returned (.string f) ∧ Below w1.heap.size w1 w') (hz : f.size ≤ 300000000) (hn : (f.toList == [45]) = false) (a2 : Option Addr) (c2 : Nat) (hO : ∀ w1, Env w1 → Calls Tryd.prog 76 #[.agg (pkV p a c)] w1 fun e w' => e = .returned (.agg (pkV (onlyS p) a2 c2)) ∧ Below w1.heap.size w1 w') (hS : ∀ w1, Env w1 → CellsA w1 a (subCells p.subs) → Calls Tryd.prog 24 #[.agg (pkV p a c), .agg (pkV (onlyS p) a2 c2)] w1 fun e w' => e = .returned (.bool true) ∧ Below w1.heap.size w1 w') (hL : ∀ w1, Env w1 → CellsA w1 a (subCells p.subs) → Calls Tryd.prog 77 #[.agg (pkV p a c)] w1 fun e w' => e = .returned (.bool true) ∧ Below w1.heap.size w1 w') (hq2 : decide ((2 : Int) < (p.qos : Int)) = false) (t1 : ((p.ty : Int) == 1) = false) (t2 : ((p.ty : Int) == 2) = false) (t3 : ((p.ty : Int) == 3) = true) (hnm : nameL (bl p.topic) = true) (hqe : ((p.qos : Int) == 0) = true) (hdu : p.dup = true) (hx : rightR p = false) : Calls Tryd.prog 60 #[.agg (pkV p a c)] w fun e w' => e = .returned (.bool (rightR p)) ∧ Below w.heap.size w w' := by
  have HF := Lib.hid hF
  have HP := Lib.hid hp
  have HX := Lib.hid hx
  have FIN := Lib.hid (show ∀ (n : Bool) (w' : World), rightR p = n → Below w.heap.size w w' → Ending.returned (.bool n) = .returned (.bool (rightR p)) ∧ Below w.heap.size w w' from by rintro n w' rfl h; exact ⟨rfl, h⟩)
  have HK := Lib.hid ((Keep.begin hE [(a, subCells p.subs)] (by intro r hr; simp at hr; subst hr; exact ha)).alloc' (pkV p a c) 27 w.heap.size rfl)
  obtain ⟨k0, k1, k2, k3, k4, k5, k6, k7, k8, k9, k10, k11, k12, k13, k14, k15, k16, k17, k18, k19, k20, k21, k22, k23⟩ := pk_at p a c
  have HO := Lib.hid hO
  have HS := Lib.hid hS
  clear hO hS
  have HL := Lib.hid hL
  clear hL
  have HC := Lib.hid (fun w1 => ref03_connect p a c w1 hp)
  have HN := Lib.hid (fun w1 => ref03_Name p.topic w1 hp.topic)
  have HH := Lib.hid (fun w1 => has_lit f 105 105 rfl w1 hz)
  have HR := Lib.hid (fun w1 hE ha => ref03_rest p a c w1 hE hp ha)
  rw [hnm] at HN
  clear hnm
  clear hF hp hx hE ha hz
  go_enter Tryd.func60, Tryd.ntmps60
  go_upto_region 1 with fail
  show Code.wp _ _ _ _ (w.alloc (.cells (pkV p a c) 27))
  generalize World.alloc w _ = w2 at HK ⊢
  have hX := (HK.out.at 0 rfl).cells
  go_upto_region 2 with (go_at_call 75; refine Calls.mono (HF.out _) ?_; rintro e w4 ⟨rfl, hb1⟩; replace HK := Lib.hid (HK.out.below hb1); clear hb1 hX HF)
  refine wp_region_noPanic ?_
  refine wp_region_held_drew (S := fun w' => Keep w [(w.heap.size, pkV p a c, 27)] [(a, subCells p.subs)] w') (by kernel_rfl) ?_ (fun hHeld => ?_)
  · (first | exact HK.out | exact HK.out.drew | exact HK.out.drewN _)
  replace HK := Lib.hid hHeld
  refine wt (i := 0) (oi := ⟨some 7, _, _, _, _, _⟩) (v := ?_) rfl ?_ ?_
  rotate_left
  · (intro w hSw; (try dsimp only at hSw); have hX0 := (Keep.at hSw 0 rfl).cells; go_simp; try with_reducible rfl)
  try simp only [Act.put, pa, p0, p1]
  refine wt (i := 1) (oi := ⟨some 8, _, _, _, _, _⟩) (v := ?_) rfl ?_ ?_
  rotate_left
  · (intro w hSw; (try dsimp only at hSw); have hX0 := (Keep.at hSw 0 rfl).cells; go_simp; try with_reducible rfl)
  try simp only [Act.put, pa, p0, p1]
  refine wt (i := 2) (oi := ⟨some 9, _, _, _, _, _⟩) (v := ?_) rfl ?_ ?_
  rotate_left
  · (intro w hSw; (try dsimp only at hSw); have hX0 := (Keep.at hSw 0 rfl).cells; go_simp; try with_reducible rfl)
  try simp only [Act.put, pa, p0, p1]
  refine wpAnyH_take (i := 3) (oi := ⟨some 10, _, _, _, _, _⟩) (v := .agg _) rfl (by kernel_rfl) (by kernel_rfl) (by kernel_rfl) (fun _ _ _ h => h) (yields_load_box (by kernel_rfl) 27 _ rfl _ rfl 27 _ _ (fun w h => Keep.at h 0 rfl) Tryd.underlying27 rfl (pk_size _ _ _)) (by assumption) ?_
  try simp only [Act.put, pa, p0, p1]
  refine wpAnyH_take (i := 4) (oi := ⟨some 11, _, _, _, _, _⟩) (v := .agg _) rfl (by kernel_rfl) (by kernel_rfl) (by kernel_rfl) (fun _ _ _ h => h) (yields_load_box (by kernel_rfl) 27 _ rfl _ rfl 27 _ _ (fun w h => Keep.at h 0 rfl) Tryd.underlying27 rfl (pk_size _ _ _)) (by assumption) ?_
  try simp only [Act.put, pa, p0, p1]
  refine wpAnyH_ready (rs := [5]) (by kernel_rfl) (by simp) ?_
  refine AllReadyH.cons (o := ⟨some 12, _, _, _, _, _⟩) rfl (fun K hK => ?_) AllReadyH.nil
  go_simp
  (go_at_call 76; refine Calls.mono (HO.out _ HK.out.env) ?_; rintro e w9 ⟨rfl, hb1⟩; replace HK := Lib.hid (HK.out.below hb1); clear hb1; go_simp)
  refine hK.out _ _ ?_ (fun hHeld => ?_)
  · (first | exact HK.out | exact HK.out.drew | exact HK.out.drewN _)
  clear hK K hHeld
  have hHeld := HK.out
  try simp only [Act.put, pa, p0, p1]
  refine wpAnyH_ready (rs := [6]) (by kernel_rfl) (by simp) ?_
  refine AllReadyH.cons (o := ⟨some 13, _, _, _, _, _⟩) rfl (fun K hK => ?_) AllReadyH.nil
  go_simp
  (go_at_call 24; refine Calls.mono (HS.out _ HK.out.env (HK.out.rowAt 0 rfl)) ?_; rintro e w9 ⟨rfl, hb1⟩; replace HK := Lib.hid (HK.out.below hb1); clear hb1; go_simp)
  refine hK.out _ _ ?_ (fun hHeld => ?_)
  · (first | exact HK.out | exact HK.out.drew | exact HK.out.drewN _)
  clear hK K hHeld
  have hHeld := HK.out
  try simp only [Act.put, pa, p0, p1]
  refine wt (i := 7) (oi := ⟨some 14, _, _, _, _, _⟩) (v := ?_) rfl ?_ ?_
  rotate_left
  · (intro w hSw; (try dsimp only at hSw); have hX0 := (Keep.at hSw 0 rfl).cells; go_simp; try with_reducible rfl)
  try simp only [Act.put, pa, p0, p1]
  refine wt (i := 8) (oi := ⟨some 15, _, _, _, _, _⟩) (v := ?_) rfl ?_ ?_
  rotate_left
  · (intro w hSw; (try dsimp only at hSw); have hX0 := (Keep.at hSw 0 rfl).cells; go_simp; try with_reducible rfl)
  try simp only [Act.put, pa, p0, p1]
  refine wt (i := 9) (oi := ⟨some 16, _, _, _, _, _⟩) (v := ?_) rfl ?_ ?_
  rotate_left
  · (intro w hSw; (try dsimp only at hSw); have hX0 := (Keep.at hSw 0 rfl).cells; go_simp; try with_reducible rfl)
  try simp only [Act.put, pa, p0, p1]
  refine wpAnyH_take (i := 10) (oi := ⟨some 17, _, _, _, _, _⟩) (v := .agg _) rfl (by kernel_rfl) (by kernel_rfl) (by kernel_rfl) (fun _ _ _ h => h) (yields_load_box (by kernel_rfl) 27 _ rfl _ rfl 27 _ _ (fun w h => Keep.at h 0 rfl) Tryd.underlying27 rfl (pk_size _ _ _)) (by assumption) ?_
  try simp only [Act.put, pa, p0, p1]
  refine wpAnyH_ready (rs := [11]) (by kernel_rfl) (by simp) ?_
  refine AllReadyH.cons (o := ⟨some 18, _, _, _, _, _⟩) rfl (fun K hK => ?_) AllReadyH.nil
  go_simp
  (go_at_call 77; refine Calls.mono (HL.out _ HK.out.env (HK.out.rowAt 0 rfl)) ?_; rintro e w9 ⟨rfl, hb1⟩; replace HK := Lib.hid (HK.out.below hb1); clear hb1; go_simp)
  refine hK.out _ _ ?_ (fun hHeld => ?_)
  · (first | exact HK.out | exact HK.out.drew | exact HK.out.drewN _)
  clear hK K hHeld
  have hHeld := HK.out
  try simp only [Act.put, pa, p0, p1]
  refine wt (i := 12) (oi := ⟨some 19, _, _, _, _, _⟩) (v := ?_) rfl ?_ ?_
  rotate_left
  · (intro w hSw; (try dsimp only at hSw); have hX0 := (Keep.at hSw 0 rfl).cells; go_simp; try with_reducible rfl)
  try simp only [Act.put, pa, p0, p1]
  refine wt (i := 13) (oi := ⟨some 20, _, _, _, _, _⟩) (v := ?_) rfl ?_ ?_
  rotate_left
  · (intro w hSw; (try dsimp only at hSw); have hX0 := (Keep.at hSw 0 rfl).cells; go_simp; try with_reducible rfl)
  try simp only [Act.put, pa, p0, p1]
  refine wt (i := 14) (oi := ⟨some 21, _, _, _, _, _⟩) (v := ?_) rfl ?_ ?_
  rotate_left
  · (intro w hSw; (try dsimp only at hSw); have hX0 := (Keep.at hSw 0 rfl).cells; go_simp; try with_reducible rfl)
  try simp only [Act.put, pa, p0, p1]
  refine wt (i := 15) (oi := ⟨some 22, _, _, _, _, _⟩) (v := ?_) rfl ?_ ?_
  rotate_left
  · (intro w hSw; (try dsimp only at hSw); have hX0 := (Keep.at hSw 0 rfl).cells; go_simp; try with_reducible rfl)
  try simp only [Act.put, pa, p0, p1]
  refine wt (i := 16) (oi := ⟨some 23, _, _, _, _, _⟩) (v := ?_) rfl ?_ ?_
  rotate_left
  · (intro w hSw; (try dsimp only at hSw); have hX0 := (Keep.at hSw 0 rfl).cells; go_simp; try with_reducible rfl)
  try simp only [Act.put, pa, p0, p1]
  refine wt (i := 17) (oi := ⟨some 24, _, _, _, _, _⟩) (v := ?_) rfl ?_ ?_
  rotate_left
  · (intro w hSw; (try dsimp only at hSw); have hX0 := (Keep.at hSw 0 rfl).cells; go_simp; try with_reducible rfl)
  try simp only [Act.put, pa, p0, p1]
  refine wt (i := 18) (oi := ⟨some 25, _, _, _, _, _⟩) (v := ?_) rfl ?_ ?_
  rotate_left
  · (intro w hSw; (try dsimp only at hSw); have hX0 := (Keep.at hSw 0 rfl).cells; go_simp; try with_reducible rfl)
  try simp only [Act.put, pa, p0, p1]
  refine wpAnyH_done (by kernel_rfl) ?_ _
  refine NoPanic.normal ?_
  have hX := (HK.out.at 0 rfl).cells
  go_wp2_with (first
    | ((with_reducible show wpList _ _ _ (⟨some 91, _, _, _, _, _⟩ :: _) _ _); refine wpList_load_box rfl 27 _ rfl _ rfl 27 _ (HK.out.at 0 rfl) _ Tryd.underlying27 rfl (pk_size _ _ _) ?_)
    | (go_at_call 79; (with_reducible refine Calls.mono (HN.out _) ?_); rintro e w1 ⟨rfl, hb1⟩; replace HK := Lib.hid (HK.out.below hb1); have hX := (HK.out.at 0 rfl).cells; clear hb1)
    | (go_at_call 80; (with_reducible refine Calls.mono (HH.out _) ?_); rintro e w1 ⟨rfl, rfl⟩)
    | (go_at_call 81; (with_reducible refine Calls.mono (HR.out _ HK.out.env (HK.out.rowAt 0 rfl)) ?_); rintro e w1 ⟨rfl, hb1⟩; replace HK := Lib.hid (HK.out.below hb1); have hX := (HK.out.at 0 rfl).cells; clear hb1))
  go_ret
  exact FIN.out _ _ HX.out HK.out.low
set_option maxRecDepth 100000 in
set_option maxHeartbeats 4000000 in
theorem right_e3c (p : Pk) (a : Option Addr) (c : Nat) (w : World) (hE : Env w) (hp : PkOk p) (ha : CellsA w a (subCells p.subs)) (f : ByteArray) (hF : ∀ w1, Calls Tryd.prog 75 #[.int .u8 (p.ty : Int)] w1 fun e w' => e = .returned (.string f) ∧ Below w1.heap.size w1 w') (hz : f.size ≤ 300000000) (hn : (f.toList == [45]) = false) (a2 : Option Addr) (c2 : Nat) (hO : ∀ w1, Env w1 → Calls Tryd.prog 76 #[.agg (pkV p a c)] w1 fun e w' => e = .returned (.agg (pkV (onlyS p) a2 c2)) ∧ Below w1.heap.size w1 w') (hS : ∀ w1, Env w1 → CellsA w1 a (subCells p.subs) → Calls Tryd.prog 24 #[.agg (pkV p a c), .agg (pkV (onlyS p) a2 c2)] w1 fun e w' => e = .returned (.bool true) ∧ Below w1.heap.size w1 w') (hL : ∀ w1, Env w1 → CellsA w1 a (subCells p.subs) → Calls Tryd.prog 77 #[.agg (pkV p a c)] w1 fun e w' => e = .returned (.bool true) ∧ Below w1.heap.size w1 w') (hq2 : decide ((2 : Int) < (p.qos : Int)) = false) (t1 : ((p.ty : Int) == 1) = false) (t2 : ((p.ty : Int) == 2) = false) (t3 : ((p.ty : Int) == 3) = true) (hnm : nameL (bl p.topic) = true) (hqe : ((p.qos : Int) == 0) = true) (hdu : p.dup = false) (hne : ((p.id : Int) != 0) = true) (hx : rightR p = false) : Calls Tryd.prog 60 #[.agg (pkV p a c)] w fun e w' => e = .returned (.bool (rightR p)) ∧ Below w.heap.size w w' := by
  have HF := Lib.hid hF
  have HP := Lib.hid hp
  have HX := Lib.hid hx
  have FIN := Lib.hid (show ∀ (n : Bool) (w' : World), rightR p = n → Below w.heap.size w w' → Ending.returned (.bool n) = .returned (.bool (rightR p)) ∧ Below w.heap.size w w' from by rintro n w' rfl h; exact ⟨rfl, h⟩)
  have HK := Lib.hid ((Keep.begin hE [(a, subCells p.subs)] (by intro r hr; simp at hr; subst hr; exact ha)).alloc' (pkV p a c) 27 w.heap.size rfl)
  obtain ⟨k0, k1, k2, k3, k4, k5, k6, k7, k8, k9, k10, k11, k12, k13, k14, k15, k16, k17, k18, k19, k20, k21, k22, k23⟩ := pk_at p a c
  have HO := Lib.hid hO
  have HS := Lib.hid hS
  clear hO hS
  have HL := Lib.hid hL
  clear hL
  have HC := Lib.hid (fun w1 => ref03_connect p a c w1 hp)
  have HN := Lib.hid (fun w1 => ref03_Name p.topic w1 hp.topic)
  have HH := Lib.hid (fun w1 => has_lit f 105 105 rfl w1 hz)
  have HR := Lib.hid (fun w1 hE ha => ref03_rest p a c w1 hE hp ha)
  rw [hnm] at HN
  clear hnm
  clear hF hp hx hE ha hz
  go_enter Tryd.func60, Tryd.ntmps60
  go_upto_region 1 with fail
  show Code.wp _ _ _ _ (w.alloc (.cells (pkV p a c) 27))
  generalize World.alloc w _ = w2 at HK ⊢
  have hX := (HK.out.at 0 rfl).cells
  go_upto_region 2 with (go_at_call 75; refine Calls.mono (HF.out _) ?_; rintro e w4 ⟨rfl, hb1⟩; replace HK := Lib.hid (HK.out.below hb1); clear hb1 hX HF)
  refine wp_region_noPanic ?_
  refine wp_region_held_drew (S := fun w' => Keep w [(w.heap.size, pkV p a c, 27)] [(a, subCells p.subs)] w') (by kernel_rfl) ?_ (fun hHeld => ?_)
  · (first | exact HK.out | exact HK.out.drew | exact HK.out.drewN _)
  replace HK := Lib.hid hHeld
  refine wt (i := 0) (oi := ⟨some 7, _, _, _, _, _⟩) (v := ?_) rfl ?_ ?_
  rotate_left
  · (intro w hSw; (try dsimp only at hSw); have hX0 := (Keep.at hSw 0 rfl).cells; go_simp; try with_reducible rfl)
  try simp only [Act.put, pa, p0, p1]
  refine wt (i := 1) (oi := ⟨some 8, _, _, _, _, _⟩) (v := ?_) rfl ?_ ?_
  rotate_left
  · (intro w hSw; (try dsimp only at hSw); have hX0 := (Keep.at hSw 0 rfl).cells; go_simp; try with_reducible rfl)
  try simp only [Act.put, pa, p0, p1]
  refine wt (i := 2) (oi := ⟨some 9, _, _, _, _, _⟩) (v := ?_) rfl ?_ ?_
  rotate_left
  · (intro w hSw; (try dsimp only at hSw); have hX0 := (Keep.at hSw 0 rfl).cells; go_simp; try with_reducible rfl)
  try simp only [Act.put, pa, p0, p1]
  refine wpAnyH_take (i := 3) (oi := ⟨some 10, _, _, _, _, _⟩) (v := .agg _) rfl (by kernel_rfl) (by kernel_rfl) (by kernel_rfl) (fun _ _ _ h => h) (yields_load_box (by kernel_rfl) 27 _ rfl _ rfl 27 _ _ (fun w h => Keep.at h 0 rfl) Tryd.underlying27 rfl (pk_size _ _ _)) (by assumption) ?_
  try simp only [Act.put, pa, p0, p1]
  refine wpAnyH_take (i := 4) (oi := ⟨some 11, _, _, _, _, _⟩) (v := .agg _) rfl (by kernel_rfl) (by kernel_rfl) (by kernel_rfl) (fun _ _ _ h => h) (yields_load_box (by kernel_rfl) 27 _ rfl _ rfl 27 _ _ (fun w h => Keep.at h 0 rfl) Tryd.underlying27 rfl (pk_size _ _ _)) (by assumption) ?_
  try simp only [Act.put, pa, p0, p1]
  refine wpAnyH_ready (rs := [5]) (by kernel_rfl) (by simp) ?_
  refine AllReadyH.cons (o := ⟨some 12, _, _, _, _, _⟩) rfl (fun K hK => ?_) AllReadyH.nil
  go_simp
  (go_at_call 76; refine Calls.mono (HO.out _ HK.out.env) ?_; rintro e w9 ⟨rfl, hb1⟩; replace HK := Lib.hid (HK.out.below hb1); clear hb1; go_simp)
  refine hK.out _ _ ?_ (fun hHeld => ?_)
  · (first | exact HK.out | exact HK.out.drew | exact HK.out.drewN _)
  clear hK K hHeld
  have hHeld := HK.out
  try simp only [Act.put, pa, p0, p1]
  refine wpAnyH_ready (rs := [6]) (by kernel_rfl) (by simp) ?_
  refine AllReadyH.cons (o := ⟨some 13, _, _, _, _, _⟩) rfl (fun K hK => ?_) AllReadyH.nil
  go_simp
  (go_at_call 24; refine Calls.mono (HS.out _ HK.out.env (HK.out.rowAt 0 rfl)) ?_; rintro e w9 ⟨rfl, hb1⟩; replace HK := Lib.hid (HK.out.below hb1); clear hb1; go_simp)
  refine hK.out _ _ ?_ (fun hHeld => ?_)
  · (first | exact HK.out | exact HK.out.drew | exact HK.out.drewN _)
  clear hK K hHeld
  have hHeld := HK.out
  try simp only [Act.put, pa, p0, p1]
  refine wt (i := 7) (oi := ⟨some 14, _, _, _, _, _⟩) (v := ?_) rfl ?_ ?_
  rotate_left
  · (intro w hSw; (try dsimp only at hSw); have hX0 := (Keep.at hSw 0 rfl).cells; go_simp; try with_reducible rfl)
  try simp only [Act.put, pa, p0, p1]
  refine wt (i := 8) (oi := ⟨some 15, _, _, _, _, _⟩) (v := ?_) rfl ?_ ?_
  rotate_left
  · (intro w hSw; (try dsimp only at hSw); have hX0 := (Keep.at hSw 0 rfl).cells; go_simp; try with_reducible rfl)
  try simp only [Act.put, pa, p0, p1]
  refine wt (i := 9) (oi := ⟨some 16, _, _, _, _, _⟩) (v := ?_) rfl ?_ ?_
  rotate_left
  · (intro w hSw; (try dsimp only at hSw); have hX0 := (Keep.at hSw 0 rfl).cells; go_simp; try with_reducible rfl)
  try simp only [Act.put, pa, p0, p1]
  refine wpAnyH_take (i := 10) (oi := ⟨some 17, _, _, _, _, _⟩) (v := .agg _) rfl (by kernel_rfl) (by kernel_rfl) (by kernel_rfl) (fun _ _ _ h => h) (yields_load_box (by kernel_rfl) 27 _ rfl _ rfl 27 _ _ (fun w h => Keep.at h 0 rfl) Tryd.underlying27 rfl (pk_size _ _ _)) (by assumption) ?_
  try simp only [Act.put, pa, p0, p1]
  refine wpAnyH_ready (rs := [11]) (by kernel_rfl) (by simp) ?_
  refine AllReadyH.cons (o := ⟨some 18, _, _, _, _, _⟩) rfl (fun K hK => ?_) AllReadyH.nil
  go_simp
  (go_at_call 77; refine Calls.mono (HL.out _ HK.out.env (HK.out.rowAt 0 rfl)) ?_; rintro e w9 ⟨rfl, hb1⟩; replace HK := Lib.hid (HK.out.below hb1); clear hb1; go_simp)
  refine hK.out _ _ ?_ (fun hHeld => ?_)
  · (first | exact HK.out | exact HK.out.drew | exact HK.out.drewN _)
  clear hK K hHeld
  have hHeld := HK.out
  try simp only [Act.put, pa, p0, p1]
  refine wt (i := 12) (oi := ⟨some 19, _, _, _, _, _⟩) (v := ?_) rfl ?_ ?_
  rotate_left
  · (intro w hSw; (try dsimp only at hSw); have hX0 := (Keep.at hSw 0 rfl).cells; go_simp; try with_reducible rfl)
  try simp only [Act.put, pa, p0, p1]
  refine wt (i := 13) (oi := ⟨some 20, _, _, _, _, _⟩) (v := ?_) rfl ?_ ?_
  rotate_left
  · (intro w hSw; (try dsimp only at hSw); have hX0 := (Keep.at hSw 0 rfl).cells; go_simp; try with_reducible rfl)
  try simp only [Act.put, pa, p0, p1]
  refine wt (i := 14) (oi := ⟨some 21, _, _, _, _, _⟩) (v := ?_) rfl ?_ ?_
  rotate_left
  · (intro w hSw; (try dsimp only at hSw); have hX0 := (Keep.at hSw 0 rfl).cells; go_simp; try with_reducible rfl)
  try simp only [Act.put, pa, p0, p1]
  refine wt (i := 15) (oi := ⟨some 22, _, _, _, _, _⟩) (v := ?_) rfl ?_ ?_
  rotate_left
  · (intro w hSw; (try dsimp only at hSw); have hX0 := (Keep.at hSw 0 rfl).cells; go_simp; try with_reducible rfl)
  try simp only [Act.put, pa, p0, p1]
  refine wt (i := 16) (oi := ⟨some 23, _, _, _, _, _⟩) (v := ?_) rfl ?_ ?_
  rotate_left
  · (intro w hSw; (try dsimp only at hSw); have hX0 := (Keep.at hSw 0 rfl).cells; go_simp; try with_reducible rfl)
  try simp only [Act.put, pa, p0, p1]
  refine wt (i := 17) (oi := ⟨some 24, _, _, _, _, _⟩) (v := ?_) rfl ?_ ?_
  rotate_left
  · (intro w hSw; (try dsimp only at hSw); have hX0 := (Keep.at hSw 0 rfl).cells; go_simp; try with_reducible rfl)
  try simp only [Act.put, pa, p0, p1]
  refine wt (i := 18) (oi := ⟨some 25, _, _, _, _, _⟩) (v := ?_) rfl ?_ ?_
  rotate_left
  · (intro w hSw; (try dsimp only at hSw); have hX0 := (Keep.at hSw 0 rfl).cells; go_simp; try with_reducible rfl)
  try simp only [Act.put, pa, p0, p1]
  refine wpAnyH_done (by kernel_rfl) ?_ _
  refine NoPanic.normal ?_
  have hX := (HK.out.at 0 rfl).cells
  go_wp2_with (first
    | ((with_reducible show wpList _ _ _ (⟨some 91, _, _, _, _, _⟩ :: _) _ _); refine wpList_load_box rfl 27 _ rfl _ rfl 27 _ (HK.out.at 0 rfl) _ Tryd.underlying27 rfl (pk_size _ _ _) ?_)
    | (go_at_call 79; (with_reducible refine Calls.mono (HN.out _) ?_); rintro e w1 ⟨rfl, hb1⟩; replace HK := Lib.hid (HK.out.below hb1); have hX := (HK.out.at 0 rfl).cells; clear hb1)
    | (go_at_call 80; (with_reducible refine Calls.mono (HH.out _) ?_); rintro e w1 ⟨rfl, rfl⟩)
    | (go_at_call 81; (with_reducible refine Calls.mono (HR.out _ HK.out.env (HK.out.rowAt 0 rfl)) ?_); rintro e w1 ⟨rfl, hb1⟩; replace HK := Lib.hid (HK.out.below hb1); have hX := (HK.out.at 0 rfl).cells; clear hb1))
  go_ret
  exact FIN.out _ _ HX.out HK.out.low
set_option maxRecDepth 100000 in
set_option maxHeartbeats 4000000 in
theorem right_e3d (p : Pk) (a : Option Addr) (c : Nat) (w : World) (hE : Env w) (hp : PkOk p) (ha : CellsA w a (subCells p.subs)) (f : ByteArray) (hF : ∀ w1, Calls Tryd.prog 75 #[.int .u8 (p.ty : Int)] w1 fun e w' => e = .returned (.string f) ∧ Below w1.heap.size w1 w') (hz : f.size ≤ 300000000) (hn : (f.toList == [45]) = false) (a2 : Option Addr) (c2 : Nat) (hO : ∀ w1, Env w1 → Calls Tryd.prog 76 #[.agg (pkV p a c)] w1 fun e w' => e = .returned (.agg (pkV (onlyS p) a2 c2)) ∧ Below w1.heap.size w1 w') (hS : ∀ w1, Env w1 → CellsA w1 a (subCells p.subs) → Calls Tryd.prog 24 #[.agg (pkV p a c), .agg (pkV (onlyS p) a2 c2)] w1 fun e w' => e = .returned (.bool true) ∧ Below w1.heap.size w1 w') (hL : ∀ w1, Env w1 → CellsA w1 a (subCells p.subs) → Calls Tryd.prog 77 #[.agg (pkV p a c)] w1 fun e w' => e = .returned (.bool true) ∧ Below w1.heap.size w1 w') (hq2 : decide ((2 : Int) < (p.qos : Int)) = false) (t1 : ((p.ty : Int) == 1) = false) (t2 : ((p.ty : Int) == 2) = false) (t3 : ((p.ty : Int) == 3) = true) (hnm : nameL (bl p.topic) = true) (hqe : ((p.qos : Int) == 0) = true) (hq0 : decide (0 < p.qos) = false) (hdu : p.dup = false) (hne : ((p.id : Int) != 0) = false) (hx : rightR p = decide (((restR p : Nat) : Int) ≤ 268435455)) : Calls Tryd.prog 60 #[.agg (pkV p a c)] w fun e w' => e = .returned (.bool (rightR p)) ∧ Below w.heap.size w w' := by
  have HF := Lib.hid hF
  have HP := Lib.hid hp
  have HX := Lib.hid hx
  have FIN := Lib.hid (show ∀ (n : Bool) (w' : World), rightR p = n → Below w.heap.size w w' → Ending.returned (.bool n) = .returned (.bool (rightR p)) ∧ Below w.heap.size w w' from by rintro n w' rfl h; exact ⟨rfl, h⟩)
  have HK := Lib.hid ((Keep.begin hE [(a, subCells p.subs)] (by intro r hr; simp at hr; subst hr; exact ha)).alloc' (pkV p a c) 27 w.heap.size rfl)
  obtain ⟨k0, k1, k2, k3, k4, k5, k6, k7, k8, k9, k10, k11, k12, k13, k14, k15, k16, k17, k18, k19, k20, k21, k22, k23⟩ := pk_at p a c
  have HO := Lib.hid hO
  have HS := Lib.hid hS
  clear hO hS
  have HL := Lib.hid hL
  clear hL
  have HC := Lib.hid (fun w1 => ref03_connect p a c w1 hp)
  have HN := Lib.hid (fun w1 => ref03_Name p.topic w1 hp.topic)
  have HH := Lib.hid (fun w1 => has_lit f 105 105 rfl w1 hz)
  have HR := Lib.hid (fun w1 hE ha => ref03_rest p a c w1 hE hp ha)
  rw [hnm] at HN
  clear hnm
  clear hF hp hx hE ha hz
  go_enter Tryd.func60, Tryd.ntmps60
  go_upto_region 1 with fail
  show Code.wp _ _ _ _ (w.alloc (.cells (pkV p a c) 27))
  generalize World.alloc w _ = w2 at HK ⊢
  have hX := (HK.out.at 0 rfl).cells
  go_upto_region 2 with (go_at_call 75; refine Calls.mono (HF.out _) ?_; rintro e w4 ⟨rfl, hb1⟩; replace HK := Lib.hid (HK.out.below hb1); clear hb1 hX HF)
  refine wp_region_noPanic ?_
  refine wp_region_held_drew (S := fun w' => Keep w [(w.heap.size, pkV p a c, 27)] [(a, subCells p.subs)] w') (by kernel_rfl) ?_ (fun hHeld => ?_)
  · (first | exact HK.out | exact HK.out.drew | exact HK.out.drewN _)
  replace HK := Lib.hid hHeld
  refine wt (i := 0) (oi := ⟨some 7, _, _, _, _, _⟩) (v := ?_) rfl ?_ ?_
  rotate_left
  · (intro w hSw; (try dsimp only at hSw); have hX0 := (Keep.at hSw 0 rfl).cells; go_simp; try with_reducible rfl)
  try simp only [Act.put, pa, p0, p1]
  refine wt (i := 1) (oi := ⟨some 8, _, _, _, _, _⟩) (v := ?_) rfl ?_ ?_
  rotate_left
  · (intro w hSw; (try dsimp only at hSw); have hX0 := (Keep.at hSw 0 rfl).cells; go_simp; try with_reducible rfl)
  try simp only [Act.put, pa, p0, p1]
  refine wt (i := 2) (oi := ⟨some 9, _, _, _, _, _⟩) (v := ?_) rfl ?_ ?_
  rotate_left
  · (intro w hSw; (try dsimp only at hSw); have hX0 := (Keep.at hSw 0 rfl).cells; go_simp; try with_reducible rfl)
  try simp only [Act.put, pa, p0, p1]
  refine wpAnyH_take (i := 3) (oi := ⟨some 10, _, _, _, _, _⟩) (v := .agg _) rfl (by kernel_rfl) (by kernel_rfl) (by kernel_rfl) (fun _ _ _ h => h) (yields_load_box (by kernel_rfl) 27 _ rfl _ rfl 27 _ _ (fun w h => Keep.at h 0 rfl) Tryd.underlying27 rfl (pk_size _ _ _)) (by assumption) ?_
  try simp only [Act.put, pa, p0, p1]
  refine wpAnyH_take (i := 4) (oi := ⟨some 11, _, _, _, _, _⟩) (v := .agg _) rfl (by kernel_rfl) (by kernel_rfl) (by kernel_rfl) (fun _ _ _ h => h) (yields_load_box (by kernel_rfl) 27 _ rfl _ rfl 27 _ _ (fun w h => Keep.at h 0 rfl) Tryd.underlying27 rfl (pk_size _ _ _)) (by assumption) ?_
  try simp only [Act.put, pa, p0, p1]
  refine wpAnyH_ready (rs := [5]) (by kernel_rfl) (by simp) ?_
  refine AllReadyH.cons (o := ⟨some 12, _, _, _, _, _⟩) rfl (fun K hK => ?_) AllReadyH.nil
  go_simp
  (go_at_call 76; refine Calls.mono (HO.out _ HK.out.env) ?_; rintro e w9 ⟨rfl, hb1⟩; replace HK := Lib.hid (HK.out.below hb1); clear hb1; go_simp)
  refine hK.out _ _ ?_ (fun hHeld => ?_)
  · (first | exact HK.out | exact HK.out.drew | exact HK.out.drewN _)
  clear hK K hHeld
  have hHeld := HK.out
  try simp only [Act.put, pa, p0, p1]
  refine wpAnyH_ready (rs := [6]) (by kernel_rfl) (by simp) ?_
  refine AllReadyH.cons (o := ⟨some 13, _, _, _, _, _⟩) rfl (fun K hK => ?_) AllReadyH.nil
  go_simp
  (go_at_call 24; refine Calls.mono (HS.out _ HK.out.env (HK.out.rowAt 0 rfl)) ?_; rintro e w9 ⟨rfl, hb1⟩; replace HK := Lib.hid (HK.out.below hb1); clear hb1; go_simp)
  refine hK.out _ _ ?_ (fun hHeld => ?_)
  · (first | exact HK.out | exact HK.out.drew | exact HK.out.drewN _)
  clear hK K hHeld
  have hHeld := HK.out
  try simp only [Act.put, pa, p0, p1]
  refine wt (i := 7) (oi := ⟨some 14, _, _, _, _, _⟩) (v := ?_) rfl ?_ ?_
  rotate_left
  · (intro w hSw; (try dsimp only at hSw); have hX0 := (Keep.at hSw 0 rfl).cells; go_simp; try with_reducible rfl)
  try simp only [Act.put, pa, p0, p1]
  refine wt (i := 8) (oi := ⟨some 15, _, _, _, _, _⟩) (v := ?_) rfl ?_ ?_
  rotate_left
  · (intro w hSw; (try dsimp only at hSw); have hX0 := (Keep.at hSw 0 rfl).cells; go_simp; try with_reducible rfl)
  try simp only [Act.put, pa, p0, p1]
  refine wt (i := 9) (oi := ⟨some 16, _, _, _, _, _⟩) (v := ?_) rfl ?_ ?_
  rotate_left
  · (intro w hSw; (try dsimp only at hSw); have hX0 := (Keep.at hSw 0 rfl).cells; go_simp; try with_reducible rfl)
  try simp only [Act.put, pa, p0, p1]
  refine wpAnyH_take (i := 10) (oi := ⟨some 17, _, _, _, _, _⟩) (v := .agg _) rfl (by kernel_rfl) (by kernel_rfl) (by kernel_rfl) (fun _ _ _ h => h) (yields_load_box (by kernel_rfl) 27 _ rfl _ rfl 27 _ _ (fun w h => Keep.at h 0 rfl) Tryd.underlying27 rfl (pk_size _ _ _)) (by assumption) ?_
  try simp only [Act.put, pa, p0, p1]
  refine wpAnyH_ready (rs := [11]) (by kernel_rfl) (by simp) ?_
  refine AllReadyH.cons (o := ⟨some 18, _, _, _, _, _⟩) rfl (fun K hK => ?_) AllReadyH.nil
  go_simp
  (go_at_call 77; refine Calls.mono (HL.out _ HK.out.env (HK.out.rowAt 0 rfl)) ?_; rintro e w9 ⟨rfl, hb1⟩; replace HK := Lib.hid (HK.out.below hb1); clear hb1; go_simp)
  refine hK.out _ _ ?_ (fun hHeld => ?_)
  · (first | exact HK.out | exact HK.out.drew | exact HK.out.drewN _)
  clear hK K hHeld
  have hHeld := HK.out
  try simp only [Act.put, pa, p0, p1]
  refine wt (i := 12) (oi := ⟨some 19, _, _, _, _, _⟩) (v := ?_) rfl ?_ ?_
  rotate_left
  · (intro w hSw; (try dsimp only at hSw); have hX0 := (Keep.at hSw 0 rfl).cells; go_simp; try with_reducible rfl)
  try simp only [Act.put, pa, p0, p1]
  refine wt (i := 13) (oi := ⟨some 20, _, _, _, _, _⟩) (v := ?_) rfl ?_ ?_
  rotate_left
  · (intro w hSw; (try dsimp only at hSw); have hX0 := (Keep.at hSw 0 rfl).cells; go_simp; try with_reducible rfl)
  try simp only [Act.put, pa, p0, p1]
  refine wt (i := 14) (oi := ⟨some 21, _, _, _, _, _⟩) (v := ?_) rfl ?_ ?_
  rotate_left
  · (intro w hSw; (try dsimp only at hSw); have hX0 := (Keep.at hSw 0 rfl).cells; go_simp; try with_reducible rfl)
  try simp only [Act.put, pa, p0, p1]
  refine wt (i := 15) (oi := ⟨some 22, _, _, _, _, _⟩) (v := ?_) rfl ?_ ?_
  rotate_left
  · (intro w hSw; (try dsimp only at hSw); have hX0 := (Keep.at hSw 0 rfl).cells; go_simp; try with_reducible rfl)
  try simp only [Act.put, pa, p0, p1]
  refine wt (i := 16) (oi := ⟨some 23, _, _, _, _, _⟩) (v := ?_) rfl ?_ ?_
  rotate_left
  · (intro w hSw; (try dsimp only at hSw); have hX0 := (Keep.at hSw 0 rfl).cells; go_simp; try with_reducible rfl)
  try simp only [Act.put, pa, p0, p1]
  refine wt (i := 17) (oi := ⟨some 24, _, _, _, _, _⟩) (v := ?_) rfl ?_ ?_
  rotate_left
  · (intro w hSw; (try dsimp only at hSw); have hX0 := (Keep.at hSw 0 rfl).cells; go_simp; try with_reducible rfl)
  try simp only [Act.put, pa, p0, p1]
  refine wt (i := 18) (oi := ⟨some 25, _, _, _, _, _⟩) (v := ?_) rfl ?_ ?_
  rotate_left
  · (intro w hSw; (try dsimp only at hSw); have hX0 := (Keep.at hSw 0 rfl).cells; go_simp; try with_reducible rfl)
  try simp only [Act.put, pa, p0, p1]
  refine wpAnyH_done (by kernel_rfl) ?_ _
  refine NoPanic.normal ?_
  have hX := (HK.out.at 0 rfl).cells
  go_wp2_with (first
    | ((with_reducible show wpList _ _ _ (⟨some 91, _, _, _, _, _⟩ :: _) _ _); refine wpList_load_box rfl 27 _ rfl _ rfl 27 _ (HK.out.at 0 rfl) _ Tryd.underlying27 rfl (pk_size _ _ _) ?_)
    | (go_at_call 79; (with_reducible refine Calls.mono (HN.out _) ?_); rintro e w1 ⟨rfl, hb1⟩; replace HK := Lib.hid (HK.out.below hb1); have hX := (HK.out.at 0 rfl).cells; clear hb1)
    | (go_at_call 80; (with_reducible refine Calls.mono (HH.out _) ?_); rintro e w1 ⟨rfl, rfl⟩)
    | (go_at_call 81; (with_reducible refine Calls.mono (HR.out _ HK.out.env (HK.out.rowAt 0 rfl)) ?_); rintro e w1 ⟨rfl, hb1⟩; replace HK := Lib.hid (HK.out.below hb1); have hX := (HK.out.at 0 rfl).cells; clear hb1))
  go_ret
  exact FIN.out _ _ HX.out HK.out.low
set_option maxRecDepth 100000 in
set_option maxHeartbeats 4000000 in
theorem right_e3e (p : Pk) (a : Option Addr) (c : Nat) (w : World) (hE : Env w) (hp : PkOk p) (ha : CellsA w a (subCells p.subs)) (f : ByteArray) (hF : ∀ w1, Calls Tryd.prog 75 #[.int .u8 (p.ty : Int)] w1 fun e w' => e = .returned (.string f) ∧ Below w1.heap.size w1 w') (hz : f.size ≤ 300000000) (hn : (f.toList == [45]) = false) (a2 : Option Addr) (c2 : Nat) (hO : ∀ w1, Env w1 → Calls Tryd.prog 76 #[.agg (pkV p a c)] w1 fun e w' => e = .returned (.agg (pkV (onlyS p) a2 c2)) ∧ Below w1.heap.size w1 w') (hS : ∀ w1, Env w1 → CellsA w1 a (subCells p.subs) → Calls Tryd.prog 24 #[.agg (pkV p a c), .agg (pkV (onlyS p) a2 c2)] w1 fun e w' => e = .returned (.bool true) ∧ Below w1.heap.size w1 w') (hL : ∀ w1, Env w1 → CellsA w1 a (subCells p.subs) → Calls Tryd.prog 77 #[.agg (pkV p a c)] w1 fun e w' => e = .returned (.bool true) ∧ Below w1.heap.size w1 w') (hq2 : decide ((2 : Int) < (p.qos : Int)) = false) (t1 : ((p.ty : Int) == 1) = false) (t2 : ((p.ty : Int) == 2) = false) (t3 : ((p.ty : Int) == 3) = true) (hnm : nameL (bl p.topic) = true) (hqe : ((p.qos : Int) == 0) = false) (hq0 : decide (0 < p.qos) = true) (hie : ((p.id : Int) == 0) = true) (hx : rightR p = false) : Calls Tryd.prog 60 #[.agg (pkV p a c)] w fun e w' => e = .returned (.bool (rightR p)) ∧ Below w.heap.size w w' := by
  have HF := Lib.hid hF
  have HP := Lib.hid hp
  have HX := Lib.hid hx
  have FIN := Lib.hid (show ∀ (n : Bool) (w' : World), rightR p = n → Below w.heap.size w w' → Ending.returned (.bool n) = .returned (.bool (rightR p)) ∧ Below w.heap.size w w' from by rintro n w' rfl h; exact ⟨rfl, h⟩)
  have HK := Lib.hid ((Keep.begin hE [(a, subCells p.subs)] (by intro r hr; simp at hr; subst hr; exact ha)).alloc' (pkV p a c) 27 w.heap.size rfl)
  obtain ⟨k0, k1, k2, k3, k4, k5, k6, k7, k8, k9, k10, k11, k12, k13, k14, k15, k16, k17, k18, k19, k20, k21, k22, k23⟩ := pk_at p a c
  have HO := Lib.hid hO
  have HS := Lib.hid hS
  clear hO hS
  have HL := Lib.hid hL
  clear hL
  have HC := Lib.hid (fun w1 => ref03_connect p a c w1 hp)
  have HN := Lib.hid (fun w1 => ref03_Name p.topic w1 hp.topic)
  have HH := Lib.hid (fun w1 => has_lit f 105 105 rfl w1 hz)
  have HR := Lib.hid (fun w1 hE ha => ref03_rest p a c w1 hE hp ha)
  rw [hnm] at HN
  clear hnm
  clear hF hp hx hE ha hz
  go_enter Tryd.func60, Tryd.ntmps60
  go_upto_region 1 with fail
  show Code.wp _ _ _ _ (w.alloc (.cells (pkV p a c) 27))
  generalize World.alloc w _ = w2 at HK ⊢
  have hX := (HK.out.at 0 rfl).cells
  go_upto_region 2 with (go_at_call 75; refine Calls.mono (HF.out _) ?_; rintro e w4 ⟨rfl, hb1⟩; replace HK := Lib.hid (HK.out.below hb1); clear hb1 hX HF)
  refine wp_region_noPanic ?_
  refine wp_region_held_drew (S := fun w' => Keep w [(w.heap.size, pkV p a c, 27)] [(a, subCells p.subs)] w') (by kernel_rfl) ?_ (fun hHeld => ?_)
  · (first | exact HK.out | exact HK.out.drew | exact HK.out.drewN _)
  replace HK := Lib.hid hHeld
  refine wt (i := 0) (oi := ⟨some 7, _, _, _, _, _⟩) (v := ?_) rfl ?_ ?_
  rotate_left
  · (intro w hSw; (try dsimp only at hSw); have hX0 := (Keep.at hSw 0 rfl).cells; go_simp; try with_reducible rfl)
  try simp only [Act.put, pa, p0, p1]
  refine wt (i := 1) (oi := ⟨some 8, _, _, _, _, _⟩) (v := ?_) rfl ?_ ?_
  rotate_left
  · (intro w hSw; (try dsimp only at hSw); have hX0 := (Keep.at hSw 0 rfl).cells; go_simp; try with_reducible rfl)
  try simp only [Act.put, pa, p0, p1]
  refine wt (i := 2) (oi := ⟨some 9, _, _, _, _, _⟩) (v := ?_) rfl ?_ ?_
  rotate_left
  · (intro w hSw; (try dsimp only at hSw); have hX0 := (Keep.at hSw 0 rfl).cells; go_simp; try with_reducible rfl)
  try simp only [Act.put, pa, p0, p1]
  refine wpAnyH_take (i := 3) (oi := ⟨some 10, _, _, _, _, _⟩) (v := .agg _) rfl (by kernel_rfl) (by kernel_rfl) (by kernel_rfl) (fun _ _ _ h => h) (yields_load_box (by kernel_rfl) 27 _ rfl _ rfl 27 _ _ (fun w h => Keep.at h 0 rfl) Tryd.underlying27 rfl (pk_size _ _ _)) (by assumption) ?_
  try simp only [Act.put, pa, p0, p1]
  refine wpAnyH_take (i := 4) (oi := ⟨some 11, _, _, _, _, _⟩) (v := .agg _) rfl (by kernel_rfl) (by kernel_rfl) (by kernel_rfl) (fun _ _ _ h => h) (yields_load_box (by kernel_rfl) 27 _ rfl _ rfl 27 _ _ (fun w h => Keep.at h 0 rfl) Tryd.underlying27 rfl (pk_size _ _ _)) (by assumption) ?_
  try simp only [Act.put, pa, p0, p1]
  refine wpAnyH_ready (rs := [5]) (by kernel_rfl) (by simp) ?_
  refine AllReadyH.cons (o := ⟨some 12, _, _, _, _, _⟩) rfl (fun K hK => ?_) AllReadyH.nil
  go_simp
  (go_at_call 76; refine Calls.mono (HO.out _ HK.out.env) ?_; rintro e w9 ⟨rfl, hb1⟩; replace HK := Lib.hid (HK.out.below hb1); clear hb1; go_simp)
  refine hK.out _ _ ?_ (fun hHeld => ?_)
  · (first | exact HK.out | exact HK.out.drew | exact HK.out.drewN _)
  clear hK K hHeld
  have hHeld := HK.out
  try simp only [Act.put, pa, p0, p1]
  refine wpAnyH_ready (rs := [6]) (by kernel_rfl) (by simp) ?_
  refine AllReadyH.cons (o := ⟨some 13, _, _, _, _, _⟩) rfl (fun K hK => ?_) AllReadyH.nil
  go_simp
  (go_at_call 24; refine Calls.mono (HS.out _ HK.out.env (HK.out.rowAt 0 rfl)) ?_; rintro e w9 ⟨rfl, hb1⟩; replace HK := Lib.hid (HK.out.below hb1); clear hb1; go_simp)
  refine hK.out _ _ ?_ (fun hHeld => ?_)
  · (first | exact HK.out | exact HK.out.drew | exact HK.out.drewN _)
  clear hK K hHeld
  have hHeld := HK.out
  try simp only [Act.put, pa, p0, p1]
  refine wt (i := 7) (oi := ⟨some 14, _, _, _, _, _⟩) (v := ?_) rfl ?_ ?_
  rotate_left
  · (intro w hSw; (try dsimp only at hSw); have hX0 := (Keep.at hSw 0 rfl).cells; go_simp; try with_reducible rfl)
  try simp only [Act.put, pa, p0, p1]
  refine wt (i := 8) (oi := ⟨some 15, _, _, _, _, _⟩) (v := ?_) rfl ?_ ?_
  rotate_left
  · (intro w hSw; (try dsimp only at hSw); have hX0 := (Keep.at hSw 0 rfl).cells; go_simp; try with_reducible rfl)
  try simp only [Act.put, pa, p0, p1]
  refine wt (i := 9) (oi := ⟨some 16, _, _, _, _, _⟩) (v := ?_) rfl ?_ ?_
  rotate_left
  · (intro w hSw; (try dsimp only at hSw); have hX0 := (Keep.at hSw 0 rfl).cells; go_simp; try with_reducible rfl)
  try simp only [Act.put, pa, p0, p1]
  refine wpAnyH_take (i := 10) (oi := ⟨some 17, _, _, _, _, _⟩) (v := .agg _) rfl (by kernel_rfl) (by kernel_rfl) (by kernel_rfl) (fun _ _ _ h => h) (yields_load_box (by kernel_rfl) 27 _ rfl _ rfl 27 _ _ (fun w h => Keep.at h 0 rfl) Tryd.underlying27 rfl (pk_size _ _ _)) (by assumption) ?_
  try simp only [Act.put, pa, p0, p1]
  refine wpAnyH_ready (rs := [11]) (by kernel_rfl) (by simp) ?_
  refine AllReadyH.cons (o := ⟨some 18, _, _, _, _, _⟩) rfl (fun K hK => ?_) AllReadyH.nil
  go_simp
  (go_at_call 77; refine Calls.mono (HL.out _ HK.out.env (HK.out.rowAt 0 rfl)) ?_; rintro e w9 ⟨rfl, hb1⟩; replace HK := Lib.hid (HK.out.below hb1); clear hb1; go_simp)
  refine hK.out _ _ ?_ (fun hHeld => ?_)
  · (first | exact HK.out | exact HK.out.drew | exact HK.out.drewN _)
  clear hK K hHeld
  have hHeld := HK.out
  try simp only [Act.put, pa, p0, p1]
  refine wt (i := 12) (oi := ⟨some 19, _, _, _, _, _⟩) (v := ?_) rfl ?_ ?_
  rotate_left
  · (intro w hSw; (try dsimp only at hSw); have hX0 := (Keep.at hSw 0 rfl).cells; go_simp; try with_reducible rfl)
  try simp only [Act.put, pa, p0, p1]
  refine wt (i := 13) (oi := ⟨some 20, _, _, _, _, _⟩) (v := ?_) rfl ?_ ?_
  rotate_left
  · (intro w hSw; (try dsimp only at hSw); have hX0 := (Keep.at hSw 0 rfl).cells; go_simp; try with_reducible rfl)
  try simp only [Act.put, pa, p0, p1]
  refine wt (i := 14) (oi := ⟨some 21, _, _, _, _, _⟩) (v := ?_) rfl ?_ ?_
  rotate_left
  · (intro w hSw; (try dsimp only at hSw); have hX0 := (Keep.at hSw 0 rfl).cells; go_simp; try with_reducible rfl)
  try simp only [Act.put, pa, p0, p1]
  refine wt (i := 15) (oi := ⟨some 22, _, _, _, _, _⟩) (v := ?_) rfl ?_ ?_
  rotate_left
  · (intro w hSw; (try dsimp only at hSw); have hX0 := (Keep.at hSw 0 rfl).cells; go_simp; try with_reducible rfl)
  try simp only [Act.put, pa, p0, p1]
  refine wt (i := 16) (oi := ⟨some 23, _, _, _, _, _⟩) (v := ?_) rfl ?_ ?_
  rotate_left
  · (intro w hSw; (try dsimp only at hSw); have hX0 := (Keep.at hSw 0 rfl).cells; go_simp; try with_reducible rfl)
  try simp only [Act.put, pa, p0, p1]
  refine wt (i := 17) (oi := ⟨some 24, _, _, _, _, _⟩) (v := ?_) rfl ?_ ?_
  rotate_left
  · (intro w hSw; (try dsimp only at hSw); have hX0 := (Keep.at hSw 0 rfl).cells; go_simp; try with_reducible rfl)
  try simp only [Act.put, pa, p0, p1]
  refine wt (i := 18) (oi := ⟨some 25, _, _, _, _, _⟩) (v := ?_) rfl ?_ ?_
  rotate_left
  · (intro w hSw; (try dsimp only at hSw); have hX0 := (Keep.at hSw 0 rfl).cells; go_simp; try with_reducible rfl)
  try simp only [Act.put, pa, p0, p1]
  refine wpAnyH_done (by kernel_rfl) ?_ _
  refine NoPanic.normal ?_
  have hX := (HK.out.at 0 rfl).cells
  go_wp2_with (first
    | ((with_reducible show wpList _ _ _ (⟨some 91, _, _, _, _, _⟩ :: _) _ _); refine wpList_load_box rfl 27 _ rfl _ rfl 27 _ (HK.out.at 0 rfl) _ Tryd.underlying27 rfl (pk_size _ _ _) ?_)
    | (go_at_call 79; (with_reducible refine Calls.mono (HN.out _) ?_); rintro e w1 ⟨rfl, hb1⟩; replace HK := Lib.hid (HK.out.below hb1); have hX := (HK.out.at 0 rfl).cells; clear hb1)
    | (go_at_call 80; (with_reducible refine Calls.mono (HH.out _) ?_); rintro e w1 ⟨rfl, rfl⟩)
    | (go_at_call 81; (with_reducible refine Calls.mono (HR.out _ HK.out.env (HK.out.rowAt 0 rfl)) ?_); rintro e w1 ⟨rfl, hb1⟩; replace HK := Lib.hid (HK.out.below hb1); have hX := (HK.out.at 0 rfl).cells; clear hb1))
  go_ret
  exact FIN.out _ _ HX.out HK.out.low
set_option maxRecDepth 100000 in
set_option maxHeartbeats 4000000 in
theorem right_e3f (p : Pk) (a : Option Addr) (c : Nat) (w : World) (hE : Env w) (hp : PkOk p) (ha : CellsA w a (subCells p.subs)) (f : ByteArray) (hF : ∀ w1, Calls Tryd.prog 75 #[.int .u8 (p.ty : Int)] w1 fun e w' => e = .returned (.string f) ∧ Below w1.heap.size w1 w') (hz : f.size ≤ 300000000) (hn : (f.toList == [45]) = false) (a2 : Option Addr) (c2 : Nat) (hO : ∀ w1, Env w1 → Calls Tryd.prog 76 #[.agg (pkV p a c)] w1 fun e w' => e = .returned (.agg (pkV (onlyS p) a2 c2)) ∧ Below w1.heap.size w1 w') (hS : ∀ w1, Env w1 → CellsA w1 a (subCells p.subs) → Calls Tryd.prog 24 #[.agg (pkV p a c), .agg (pkV (onlyS p) a2 c2)] w1 fun e w' => e = .returned (.bool true) ∧ Below w1.heap.size w1 w') (hL : ∀ w1, Env w1 → CellsA w1 a (subCells p.subs) → Calls Tryd.prog 77 #[.agg (pkV p a c)] w1 fun e w' => e = .returned (.bool true) ∧ Below w1.heap.size w1 w') (hq2 : decide ((2 : Int) < (p.qos : Int)) = false) (t1 : ((p.ty : Int) == 1) = false) (t2 : ((p.ty : Int) == 2) = false) (t3 : ((p.ty : Int) == 3) = true) (hnm : nameL (bl p.topic) = true) (hqe : ((p.qos : Int) == 0) = false) (hq0 : decide (0 < p.qos) = true) (hie : ((p.id : Int) == 0) = false) (hx : rightR p = decide (((restR p : Nat) : Int) ≤ 268435455)) : Calls Tryd.prog 60 #[.agg (pkV p a c)] w fun e w' => e = .returned (.bool (rightR p)) ∧ Below w.heap.size w w' := by
  have HF := Lib.hid hF
  have HP := Lib.hid hp
  have HX := Lib.hid hx
  have FIN := Lib.hid (show ∀ (n : Bool) (w' : World), rightR p = n → Below w.heap.size w w' → Ending.returned (.bool n) = .returned (.bool (rightR p)) ∧ Below w.heap.size w w' from by rintro n w' rfl h; exact ⟨rfl, h⟩)
  have HK := Lib.hid ((Keep.begin hE [(a, subCells p.subs)] (by intro r hr; simp at hr; subst hr; exact ha)).alloc' (pkV p a c) 27 w.heap.size rfl)
  obtain ⟨k0, k1, k2, k3, k4, k5, k6, k7, k8, k9, k10, k11, k12, k13, k14, k15, k16, k17, k18, k19, k20, k21, k22, k23⟩ := pk_at p a c
  have HO := Lib.hid hO
  have HS := Lib.hid hS
  clear hO hS
  have HL := Lib.hid hL
  clear hL
  have HC := Lib.hid (fun w1 => ref03_connect p a c w1 hp)
  have HN := Lib.hid (fun w1 => ref03_Name p.topic w1 hp.topic)
  have HH := Lib.hid (fun w1 => has_lit f 105 105 rfl w1 hz)
  have HR := Lib.hid (fun w1 hE ha => ref03_rest p a c w1 hE hp ha)
  rw [hnm] at HN
  clear hnm
  clear hF hp hx hE ha hz
  go_enter Tryd.func60, Tryd.ntmps60
  go_upto_region 1 with fail
  show Code.wp _ _ _ _ (w.alloc (.cells (pkV p a c) 27))
  generalize World.alloc w _ = w2 at HK ⊢
  have hX := (HK.out.at 0 rfl).cells
  go_upto_region 2 with (go_at_call 75; refine Calls.mono (HF.out _) ?_; rintro e w4 ⟨rfl, hb1⟩; replace HK := Lib.hid (HK.out.below hb1); clear hb1 hX HF)
  refine wp_region_noPanic ?_
  refine wp_region_held_drew (S := fun w' => Keep w [(w.heap.size, pkV p a c, 27)] [(a, subCells p.subs)] w') (by kernel_rfl) ?_ (fun hHeld => ?_)
  · (first | exact HK.out | exact HK.out.drew | exact HK.out.drewN _)
  replace HK := Lib.hid hHeld
  refine wt (i := 0) (oi := ⟨some 7, _, _, _, _, _⟩) (v := ?_) rfl ?_ ?_
  rotate_left
  · (intro w hSw; (try dsimp only at hSw); have hX0 := (Keep.at hSw 0 rfl).cells; go_simp; try with_reducible rfl)
  try simp only [Act.put, pa, p0, p1]
  refine wt (i := 1) (oi := ⟨some 8, _, _, _, _, _⟩) (v := ?_) rfl ?_ ?_
  rotate_left
  · (intro w hSw; (try dsimp only at hSw); have hX0 := (Keep.at hSw 0 rfl).cells; go_simp; try with_reducible rfl)
  try simp only [Act.put, pa, p0, p1]
  refine wt (i := 2) (oi := ⟨some 9, _, _, _, _, _⟩) (v := ?_) rfl ?_ ?_
  rotate_left
  · (intro w hSw; (try dsimp only at hSw); have hX0 := (Keep.at hSw 0 rfl).cells; go_simp; try with_reducible rfl)
  try simp only [Act.put, pa, p0, p1]
  refine wpAnyH_take (i := 3) (oi := ⟨some 10, _, _, _, _, _⟩) (v := .agg _) rfl (by kernel_rfl) (by kernel_rfl) (by kernel_rfl) (fun _ _ _ h => h) (yields_load_box (by kernel_rfl) 27 _ rfl _ rfl 27 _ _ (fun w h => Keep.at h 0 rfl) Tryd.underlying27 rfl (pk_size _ _ _)) (by assumption) ?_
  try simp only [Act.put, pa, p0, p1]
  refine wpAnyH_take (i := 4) (oi := ⟨some 11, _, _, _, _, _⟩) (v := .agg _) rfl (by kernel_rfl) (by kernel_rfl) (by kernel_rfl) (fun _ _ _ h => h) (yields_load_box (by kernel_rfl) 27 _ rfl _ rfl 27 _ _ (fun w h => Keep.at h 0 rfl) Tryd.underlying27 rfl (pk_size _ _ _)) (by assumption) ?_
  try simp only [Act.put, pa, p0, p1]
  refine wpAnyH_ready (rs := [5]) (by kernel_rfl) (by simp) ?_
  refine AllReadyH.cons (o := ⟨some 12, _, _, _, _, _⟩) rfl (fun K hK => ?_) AllReadyH.nil
  go_simp
  (go_at_call 76; refine Calls.mono (HO.out _ HK.out.env) ?_; rintro e w9 ⟨rfl, hb1⟩; replace HK := Lib.hid (HK.out.below hb1); clear hb1; go_simp)
  refine hK.out _ _ ?_ (fun hHeld => ?_)
  · (first | exact HK.out | exact HK.out.drew | exact HK.out.drewN _)
  clear hK K hHeld
  have hHeld := HK.out
  try simp only [Act.put, pa, p0, p1]
  refine wpAnyH_ready (rs := [6]) (by kernel_rfl) (by simp) ?_
  refine AllReadyH.cons (o := ⟨some 13, _, _, _, _, _⟩) rfl (fun K hK => ?_) AllReadyH.nil
  go_simp
  (go_at_call 24; refine Calls.mono (HS.out _ HK.out.env (HK.out.rowAt 0 rfl)) ?_; rintro e w9 ⟨rfl, hb1⟩; replace HK := Lib.hid (HK.out.below hb1); clear hb1; go_simp)
  refine hK.out _ _ ?_ (fun hHeld => ?_)
  · (first | exact HK.out | exact HK.out.drew | exact HK.out.drewN _)
  clear hK K hHeld
  have hHeld := HK.out
  try simp only [Act.put, pa, p0, p1]
  refine wt (i := 7) (oi := ⟨some 14, _, _, _, _, _⟩) (v := ?_) rfl ?_ ?_
  rotate_left
  · (intro w hSw; (try dsimp only at hSw); have hX0 := (Keep.at hSw 0 rfl).cells; go_simp; try with_reducible rfl)
  try simp only [Act.put, pa, p0, p1]
  refine wt (i := 8) (oi := ⟨some 15, _, _, _, _, _⟩) (v := ?_) rfl ?_ ?_
  rotate_left
  · (intro w hSw; (try dsimp only at hSw); have hX0 := (Keep.at hSw 0 rfl).cells; go_simp; try with_reducible rfl)
  try simp only [Act.put, pa, p0, p1]
  refine wt (i := 9) (oi := ⟨some 16, _, _, _, _, _⟩) (v := ?_) rfl ?_ ?_
  rotate_left
  · (intro w hSw; (try dsimp only at hSw); have hX0 := (Keep.at hSw 0 rfl).cells; go_simp; try with_reducible rfl)
  try simp only [Act.put, pa, p0, p1]
  refine wpAnyH_take (i := 10) (oi := ⟨some 17, _, _, _, _, _⟩) (v := .agg _) rfl (by kernel_rfl) (by kernel_rfl) (by kernel_rfl) (fun _ _ _ h => h) (yields_load_box (by kernel_rfl) 27 _ rfl _ rfl 27 _ _ (fun w h => Keep.at h 0 rfl) Tryd.underlying27 rfl (pk_size _ _ _)) (by assumption) ?_
  try simp only [Act.put, pa, p0, p1]
  refine wpAnyH_ready (rs := [11]) (by kernel_rfl) (by simp) ?_
  refine AllReadyH.cons (o := ⟨some 18, _, _, _, _, _⟩) rfl (fun K hK => ?_) AllReadyH.nil
  go_simp
  (go_at_call 77; refine Calls.mono (HL.out _ HK.out.env (HK.out.rowAt 0 rfl)) ?_; rintro e w9 ⟨rfl, hb1⟩; replace HK := Lib.hid (HK.out.below hb1); clear hb1; go_simp)
  refine hK.out _ _ ?_ (fun hHeld => ?_)
  · (first | exact HK.out | exact HK.out.drew | exact HK.out.drewN _)
  clear hK K hHeld
  have hHeld := HK.out
  try simp only [Act.put, pa, p0, p1]
  refine wt (i := 12) (oi := ⟨some 19, _, _, _, _, _⟩) (v := ?_) rfl ?_ ?_
  rotate_left
  · (intro w hSw; (try dsimp only at hSw); have hX0 := (Keep.at hSw 0 rfl).cells; go_simp; try with_reducible rfl)
  try simp only [Act.put, pa, p0, p1]
  refine wt (i := 13) (oi := ⟨some 20, _, _, _, _, _⟩) (v := ?_) rfl ?_ ?_
  rotate_left
  · (intro w hSw; (try dsimp only at hSw); have hX0 := (Keep.at hSw 0 rfl).cells; go_simp; try with_reducible rfl)
  try simp only [Act.put, pa, p0, p1]
  refine wt (i := 14) (oi := ⟨some 21, _, _, _, _, _⟩) (v := ?_) rfl ?_ ?_
  rotate_left
  · (intro w hSw; (try dsimp only at hSw); have hX0 := (Keep.at hSw 0 rfl).cells; go_simp; try with_reducible rfl)
  try simp only [Act.put, pa, p0, p1]
  refine wt (i := 15) (oi := ⟨some 22, _, _, _, _, _⟩) (v := ?_) rfl ?_ ?_
  rotate_left
  · (intro w hSw; (try dsimp only at hSw); have hX0 := (Keep.at hSw 0 rfl).cells; go_simp; try with_reducible rfl)
  try simp only [Act.put, pa, p0, p1]
  refine wt (i := 16) (oi := ⟨some 23, _, _, _, _, _⟩) (v := ?_) rfl ?_ ?_
  rotate_left
  · (intro w hSw; (try dsimp only at hSw); have hX0 := (Keep.at hSw 0 rfl).cells; go_simp; try with_reducible rfl)
  try simp only [Act.put, pa, p0, p1]
  refine wt (i := 17) (oi := ⟨some 24, _, _, _, _, _⟩) (v := ?_) rfl ?_ ?_
  rotate_left
  · (intro w hSw; (try dsimp only at hSw); have hX0 := (Keep.at hSw 0 rfl).cells; go_simp; try with_reducible rfl)
  try simp only [Act.put, pa, p0, p1]
  refine wt (i := 18) (oi := ⟨some 25, _, _, _, _, _⟩) (v := ?_) rfl ?_ ?_
  rotate_left
  · (intro w hSw; (try dsimp only at hSw); have hX0 := (Keep.at hSw 0 rfl).cells; go_simp; try with_reducible rfl)
  try simp only [Act.put, pa, p0, p1]
  refine wpAnyH_done (by kernel_rfl) ?_ _
  refine NoPanic.normal ?_
  have hX := (HK.out.at 0 rfl).cells
  go_wp2_with (first
    | ((with_reducible show wpList _ _ _ (⟨some 91, _, _, _, _, _⟩ :: _) _ _); refine wpList_load_box rfl 27 _ rfl _ rfl 27 _ (HK.out.at 0 rfl) _ Tryd.underlying27 rfl (pk_size _ _ _) ?_)
    | (go_at_call 79; (with_reducible refine Calls.mono (HN.out _) ?_); rintro e w1 ⟨rfl, hb1⟩; replace HK := Lib.hid (HK.out.below hb1); have hX := (HK.out.at 0 rfl).cells; clear hb1)
    | (go_at_call 80; (with_reducible refine Calls.mono (HH.out _) ?_); rintro e w1 ⟨rfl, rfl⟩)
    | (go_at_call 81; (with_reducible refine Calls.mono (HR.out _ HK.out.env (HK.out.rowAt 0 rfl)) ?_); rintro e w1 ⟨rfl, hb1⟩; replace HK := Lib.hid (HK.out.below hb1); have hX := (HK.out.at 0 rfl).cells; clear hb1))
  go_ret
  exact FIN.out _ _ HX.out HK.out.low
set_option maxRecDepth 100000 in
set_option maxHeartbeats 4000000 in
theorem right_e4a (p : Pk) (a : Option Addr) (c : Nat) (w : World) (hE : Env w) (hp : PkOk p) (ha : CellsA w a (subCells p.subs)) (f : ByteArray) (hF : ∀ w1, Calls Tryd.prog 75 #[.int .u8 (p.ty : Int)] w1 fun e w' => e = .returned (.string f) ∧ Below w1.heap.size w1 w') (hz : f.size ≤ 300000000) (hn : (f.toList == [45]) = false) (a2 : Option Addr) (c2 : Nat) (hO : ∀ w1, Env w1 → Calls Tryd.prog 76 #[.agg (pkV p a c)] w1 fun e w' => e = .returned (.agg (pkV (onlyS p) a2 c2)) ∧ Below w1.heap.size w1 w') (hS : ∀ w1, Env w1 → CellsA w1 a (subCells p.subs) → Calls Tryd.prog 24 #[.agg (pkV p a c), .agg (pkV (onlyS p) a2 c2)] w1 fun e w' => e = .returned (.bool true) ∧ Below w1.heap.size w1 w') (hL : ∀ w1, Env w1 → CellsA w1 a (subCells p.subs) → Calls Tryd.prog 77 #[.agg (pkV p a c)] w1 fun e w' => e = .returned (.bool true) ∧ Below w1.heap.size w1 w') (hq2 : decide ((2 : Int) < (p.qos : Int)) = false) (t1 : ((p.ty : Int) == 1) = false) (t2 : ((p.ty : Int) == 2) = false) (t3 : ((p.ty : Int) == 3) = false) (hhi : hasL (bl f) 105 = true) (hie : ((p.id : Int) == 0) = true) (hx : rightR p = false) : Calls Tryd.prog 60 #[.agg (pkV p a c)] w fun e w' => e = .returned (.bool (rightR p)) ∧ Below w.heap.size w w' := by
  have HF := Lib.hid hF
  have HP := Lib.hid hp
  have HX := Lib.hid hx
  have FIN := Lib.hid (show ∀ (n : Bool) (w' : World), rightR p = n → Below w.heap.size w w' → Ending.returned (.bool n) = .returned (.bool (rightR p)) ∧ Below w.heap.size w w' from by rintro n w' rfl h; exact ⟨rfl, h⟩)
  have HK := Lib.hid ((Keep.begin hE [(a, subCells p.subs)] (by intro r hr; simp at hr; subst hr; exact ha)).alloc' (pkV p a c) 27 w.heap.size rfl)
  obtain ⟨k0, k1, k2, k3, k4, k5, k6, k7, k8, k9, k10, k11, k12, k13, k14, k15, k16, k17, k18, k19, k20, k21, k22, k23⟩ := pk_at p a c
  have HO := Lib.hid hO
  have HS := Lib.hid hS
  clear hO hS
  have HL := Lib.hid hL
  clear hL
  have HC := Lib.hid (fun w1 => ref03_connect p a c w1 hp)
  have HN := Lib.hid (fun w1 => ref03_Name p.topic w1 hp.topic)
  have HH := Lib.hid (fun w1 => has_lit f 105 105 rfl w1 hz)
  have HR := Lib.hid (fun w1 hE ha => ref03_rest p a c w1 hE hp ha)
  rw [hhi] at HH
  clear hhi
  clear hF hp hx hE ha hz
  go_enter Tryd.func60, Tryd.ntmps60
  go_upto_region 1 with fail
  show Code.wp _ _ _ _ (w.alloc (.cells (pkV p a c) 27))
  generalize World.alloc w _ = w2 at HK ⊢
  have hX := (HK.out.at 0 rfl).cells
  go_upto_region 2 with (go_at_call 75; refine Calls.mono (HF.out _) ?_; rintro e w4 ⟨rfl, hb1⟩; replace HK := Lib.hid (HK.out.below hb1); clear hb1 hX HF)
  refine wp_region_noPanic ?_
  refine wp_region_held_drew (S := fun w' => Keep w [(w.heap.size, pkV p a c, 27)] [(a, subCells p.subs)] w') (by kernel_rfl) ?_ (fun hHeld => ?_)
  · (first | exact HK.out | exact HK.out.drew | exact HK.out.drewN _)
  replace HK := Lib.hid hHeld
  refine wt (i := 0) (oi := ⟨some 7, _, _, _, _, _⟩) (v := ?_) rfl ?_ ?_
  rotate_left
  · (intro w hSw; (try dsimp only at hSw); have hX0 := (Keep.at hSw 0 rfl).cells; go_simp; try with_reducible rfl)
  try simp only [Act.put, pa, p0, p1]
  refine wt (i := 1) (oi := ⟨some 8, _, _, _, _, _⟩) (v := ?_) rfl ?_ ?_
  rotate_left
  · (intro w hSw; (try dsimp only at hSw); have hX0 := (Keep.at hSw 0 rfl).cells; go_simp; try with_reducible rfl)
  try simp only [Act.put, pa, p0, p1]
  refine wt (i := 2) (oi := ⟨some 9, _, _, _, _, _⟩) (v := ?_) rfl ?_ ?_
  rotate_left
  · (intro w hSw; (try dsimp only at hSw); have hX0 := (Keep.at hSw 0 rfl).cells; go_simp; try with_reducible rfl)
  try simp only [Act.put, pa, p0, p1]
  refine wpAnyH_take (i := 3) (oi := ⟨some 10, _, _, _, _, _⟩) (v := .agg _) rfl (by kernel_rfl) (by kernel_rfl) (by kernel_rfl) (fun _ _ _ h => h) (yields_load_box (by kernel_rfl) 27 _ rfl _ rfl 27 _ _ (fun w h => Keep.at h 0 rfl) Tryd.underlying27 rfl (pk_size _ _ _)) (by assumption) ?_
  try simp only [Act.put, pa, p0, p1]
  refine wpAnyH_take (i := 4) (oi := ⟨some 11, _, _, _, _, _⟩) (v := .agg _) rfl (by kernel_rfl) (by kernel_rfl) (by kernel_rfl) (fun _ _ _ h => h) (yields_load_box (by kernel_rfl) 27 _ rfl _ rfl 27 _ _ (fun w h => Keep.at h 0 rfl) Tryd.underlying27 rfl (pk_size _ _ _)) (by assumption) ?_
  try simp only [Act.put, pa, p0, p1]
  refine wpAnyH_ready (rs := [5]) (by kernel_rfl) (by simp) ?_
  refine AllReadyH.cons (o := ⟨some 12, _, _, _, _, _⟩) rfl (fun K hK => ?_) AllReadyH.nil
  go_simp
  (go_at_call 76; refine Calls.mono (HO.out _ HK.out.env) ?_; rintro e w9 ⟨rfl, hb1⟩; replace HK := Lib.hid (HK.out.below hb1); clear hb1; go_simp)
  refine hK.out _ _ ?_ (fun hHeld => ?_)
  · (first | exact HK.out | exact HK.out.drew | exact HK.out.drewN _)
  clear hK K hHeld
  have hHeld := HK.out
  try simp only [Act.put, pa, p0, p1]
  refine wpAnyH_ready (rs := [6]) (by kernel_rfl) (by simp) ?_
  refine AllReadyH.cons (o := ⟨some 13, _, _, _, _, _⟩) rfl (fun K hK => ?_) AllReadyH.nil
  go_simp
  (go_at_call 24; refine Calls.mono (HS.out _ HK.out.env (HK.out.rowAt 0 rfl)) ?_; rintro e w9 ⟨rfl, hb1⟩; replace HK := Lib.hid (HK.out.below hb1); clear hb1; go_simp)
  refine hK.out _ _ ?_ (fun hHeld => ?_)
  · (first | exact HK.out | exact HK.out.drew | exact HK.out.drewN _)
  clear hK K hHeld
  have hHeld := HK.out
  try simp only [Act.put, pa, p0, p1]
  refine wt (i := 7) (oi := ⟨some 14, _, _, _, _, _⟩) (v := ?_) rfl ?_ ?_
  rotate_left
  · (intro w hSw; (try dsimp only at hSw); have hX0 := (Keep.at hSw 0 rfl).cells; go_simp; try with_reducible rfl)
  try simp only [Act.put, pa, p0, p1]
  refine wt (i := 8) (oi := ⟨some 15, _, _, _, _, _⟩) (v := ?_) rfl ?_ ?_
  rotate_left
  · (intro w hSw; (try dsimp only at hSw); have hX0 := (Keep.at hSw 0 rfl).cells; go_simp; try with_reducible rfl)
  try simp only [Act.put, pa, p0, p1]
  refine wt (i := 9) (oi := ⟨some 16, _, _, _, _, _⟩) (v := ?_) rfl ?_ ?_
  rotate_left
  · (intro w hSw; (try dsimp only at hSw); have hX0 := (Keep.at hSw 0 rfl).cells; go_simp; try with_reducible rfl)
  try simp only [Act.put, pa, p0, p1]
  refine wpAnyH_take (i := 10) (oi := ⟨some 17, _, _, _, _, _⟩) (v := .agg _) rfl (by kernel_rfl) (by kernel_rfl) (by kernel_rfl) (fun _ _ _ h => h) (yields_load_box (by kernel_rfl) 27 _ rfl _ rfl 27 _ _ (fun w h => Keep.at h 0 rfl) Tryd.underlying27 rfl (pk_size _ _ _)) (by assumption) ?_
  try simp only [Act.put, pa, p0, p1]
  refine wpAnyH_ready (rs := [11]) (by kernel_rfl) (by simp) ?_
  refine AllReadyH.cons (o := ⟨some 18, _, _, _, _, _⟩) rfl (fun K hK => ?_) AllReadyH.nil
  go_simp
  (go_at_call 77; refine Calls.mono (HL.out _ HK.out.env (HK.out.rowAt 0 rfl)) ?_; rintro e w9 ⟨rfl, hb1⟩; replace HK := Lib.hid (HK.out.below hb1); clear hb1; go_simp)
  refine hK.out _ _ ?_ (fun hHeld => ?_)
  · (first | exact HK.out | exact HK.out.drew | exact HK.out.drewN _)
  clear hK K hHeld
  have hHeld := HK.out
  try simp only [Act.put, pa, p0, p1]
  refine wt (i := 12) (oi := ⟨some 19, _, _, _, _, _⟩) (v := ?_) rfl ?_ ?_
  rotate_left
  · (intro w hSw; (try dsimp only at hSw); have hX0 := (Keep.at hSw 0 rfl).cells; go_simp; try with_reducible rfl)
  try simp only [Act.put, pa, p0, p1]
  refine wt (i := 13) (oi := ⟨some 20, _, _, _, _, _⟩) (v := ?_) rfl ?_ ?_
  rotate_left
  · (intro w hSw; (try dsimp only at hSw); have hX0 := (Keep.at hSw 0 rfl).cells; go_simp; try with_reducible rfl)
  try simp only [Act.put, pa, p0, p1]
  refine wt (i := 14) (oi := ⟨some 21, _, _, _, _, _⟩) (v := ?_) rfl ?_ ?_
  rotate_left
  · (intro w hSw; (try dsimp only at hSw); have hX0 := (Keep.at hSw 0 rfl).cells; go_simp; try with_reducible rfl)
  try simp only [Act.put, pa, p0, p1]
  refine wt (i := 15) (oi := ⟨some 22, _, _, _, _, _⟩) (v := ?_) rfl ?_ ?_
  rotate_left
  · (intro w hSw; (try dsimp only at hSw); have hX0 := (Keep.at hSw 0 rfl).cells; go_simp; try with_reducible rfl)
  try simp only [Act.put, pa, p0, p1]
  refine wt (i := 16) (oi := ⟨some 23, _, _, _, _, _⟩) (v := ?_) rfl ?_ ?_
  rotate_left
  · (intro w hSw; (try dsimp only at hSw); have hX0 := (Keep.at hSw 0 rfl).cells; go_simp; try with_reducible rfl)
  try simp only [Act.put, pa, p0, p1]
  refine wt (i := 17) (oi := ⟨some 24, _, _, _, _, _⟩) (v := ?_) rfl ?_ ?_
  rotate_left
  · (intro w hSw; (try dsimp only at hSw); have hX0 := (Keep.at hSw 0 rfl).cells; go_simp; try with_reducible rfl)
  try simp only [Act.put, pa, p0, p1]
  refine wt (i := 18) (oi := ⟨some 25, _, _, _, _, _⟩) (v := ?_) rfl ?_ ?_
  rotate_left
  · (intro w hSw; (try dsimp only at hSw); have hX0 := (Keep.at hSw 0 rfl).cells; go_simp; try with_reducible rfl)
  try simp only [Act.put, pa, p0, p1]
  refine wpAnyH_done (by kernel_rfl) ?_ _
  refine NoPanic.normal ?_
  have hX := (HK.out.at 0 rfl).cells
  go_wp2_with (first
    | ((with_reducible show wpList _ _ _ (⟨some 91, _, _, _, _, _⟩ :: _) _ _); refine wpList_load_box rfl 27 _ rfl _ rfl 27 _ (HK.out.at 0 rfl) _ Tryd.underlying27 rfl (pk_size _ _ _) ?_)
    | (go_at_call 79; (with_reducible refine Calls.mono (HN.out _) ?_); rintro e w1 ⟨rfl, hb1⟩; replace HK := Lib.hid (HK.out.below hb1); have hX := (HK.out.at 0 rfl).cells; clear hb1)
    | (go_at_call 80; (with_reducible refine Calls.mono (HH.out _) ?_); rintro e w1 ⟨rfl, rfl⟩)
    | (go_at_call 81; (with_reducible refine Calls.mono (HR.out _ HK.out.env (HK.out.rowAt 0 rfl)) ?_); rintro e w1 ⟨rfl, hb1⟩; replace HK := Lib.hid (HK.out.below hb1); have hX := (HK.out.at 0 rfl).cells; clear hb1))
  go_ret
  exact FIN.out _ _ HX.out HK.out.low
set_option maxRecDepth 100000 in
set_option maxHeartbeats 4000000 in
theorem right_e4b (p : Pk) (a : Option Addr) (c : Nat) (w : World) (hE : Env w) (hp : PkOk p) (ha : CellsA w a (subCells p.subs)) (f : ByteArray) (hF : ∀ w1, Calls Tryd.prog 75 #[.int .u8 (p.ty : Int)] w1 fun e w' => e = .returned (.string f) ∧ Below w1.heap.size w1 w') (hz : f.size ≤ 300000000) (hn : (f.toList == [45]) = false) (a2 : Option Addr) (c2 : Nat) (hO : ∀ w1, Env w1 → Calls Tryd.prog 76 #[.agg (pkV p a c)] w1 fun e w' => e = .returned (.agg (pkV (onlyS p) a2 c2)) ∧ Below w1.heap.size w1 w') (hS : ∀ w1, Env w1 → CellsA w1 a (subCells p.subs) → Calls Tryd.prog 24 #[.agg (pkV p a c), .agg (pkV (onlyS p) a2 c2)] w1 fun e w' => e = .returned (.bool true) ∧ Below w1.heap.size w1 w') (hL : ∀ w1, Env w1 → CellsA w1 a (subCells p.subs) → Calls Tryd.prog 77 #[.agg (pkV p a c)] w1 fun e w' => e = .returned (.bool true) ∧ Below w1.heap.size w1 w') (hq2 : decide ((2 : Int) < (p.qos : Int)) = false) (t1 : ((p.ty : Int) == 1) = false) (t2 : ((p.ty : Int) == 2) = false) (t3 : ((p.ty : Int) == 3) = false) (hhi : hasL (bl f) 105 = true) (hie : ((p.id : Int) == 0) = false) (hx : rightR p = decide (((restR p : Nat) : Int) ≤ 268435455)) : Calls Tryd.prog 60 #[.agg (pkV p a c)] w fun e w' => e = .returned (.bool (rightR p)) ∧ Below w.heap.size w w' := by
  have HF := Lib.hid hF
  have HP := Lib.hid hp
  have HX := Lib.hid hx
  have FIN := Lib.hid (show ∀ (n : Bool) (w' : World), rightR p = n → Below w.heap.size w w' → Ending.returned (.bool n) = .returned (.bool (rightR p)) ∧ Below w.heap.size w w' from by rintro n w' rfl h; exact ⟨rfl, h⟩)
  have HK := Lib.hid ((Keep.begin hE [(a, subCells p.subs)] (by intro r hr; simp at hr; subst hr; exact ha)).alloc' (pkV p a c) 27 w.heap.size rfl)
  obtain ⟨k0, k1, k2, k3, k4, k5, k6, k7, k8, k9, k10, k11, k12, k13, k14, k15, k16, k17, k18, k19, k20, k21, k22, k23⟩ := pk_at p a c
  have HO := Lib.hid hO
  have HS := Lib.hid hS
  clear hO hS
  have HL := Lib.hid hL
  clear hL
  have HC := Lib.hid (fun w1 => ref03_connect p a c w1 hp)
  have HN := Lib.hid (fun w1 => ref03_Name p.topic w1 hp.topic)
  have HH := Lib.hid (fun w1 => has_lit f 105 105 rfl w1 hz)
  have HR := Lib.hid (fun w1 hE ha => ref03_rest p a c w1 hE hp ha)
  rw [hhi] at HH
  clear hhi
  clear hF hp hx hE ha hz
  go_enter Tryd.func60, Tryd.ntmps60
  go_upto_region 1 with fail
  show Code.wp _ _ _ _ (w.alloc (.cells (pkV p a c) 27))
  generalize World.alloc w _ = w2 at HK ⊢
  have hX := (HK.out.at 0 rfl).cells
  go_upto_region 2 with (go_at_call 75; refine Calls.mono (HF.out _) ?_; rintro e w4 ⟨rfl, hb1⟩; replace HK := Lib.hid (HK.out.below hb1); clear hb1 hX HF)
  refine wp_region_noPanic ?_
  refine wp_region_held_drew (S := fun w' => Keep w [(w.heap.size, pkV p a c, 27)] [(a, subCells p.subs)] w') (by kernel_rfl) ?_ (fun hHeld => ?_)
  · (first | exact HK.out | exact HK.out.drew | exact HK.out.drewN _)
  replace HK := Lib.hid hHeld
  refine wt (i := 0) (oi := ⟨some 7, _, _, _, _, _⟩) (v := ?_) rfl ?_ ?_
  rotate_left
  · (intro w hSw; (try dsimp only at hSw); have hX0 := (Keep.at hSw 0 rfl).cells; go_simp; try with_reducible rfl)
  try simp only [Act.put, pa, p0, p1]
  refine wt (i := 1) (oi := ⟨some 8, _, _, _, _, _⟩) (v := ?_) rfl ?_ ?_
  rotate_left
  · (intro w hSw; (try dsimp only at hSw); have hX0 := (Keep.at hSw 0 rfl).cells; go_simp; try with_reducible rfl)
  try simp only [Act.put, pa, p0, p1]
  refine wt (i := 2) (oi := ⟨some 9, _, _, _, _, _⟩) (v := ?_) rfl ?_ ?_
  rotate_left
  · (intro w hSw; (try dsimp only at hSw); have hX0 := (Keep.at hSw 0 rfl).cells; go_simp; try with_reducible rfl)
  try simp only [Act.put, pa, p0, p1]
  refine wpAnyH_take (i := 3) (oi := ⟨some 10, _, _, _, _, _⟩) (v := .agg _) rfl (by kernel_rfl) (by kernel_rfl) (by kernel_rfl) (fun _ _ _ h => h) (yields_load_box (by kernel_rfl) 27 _ rfl _ rfl 27 _ _ (fun w h => Keep.at h 0 rfl) Tryd.underlying27 rfl (pk_size _ _ _)) (by assumption) ?_
  try simp only [Act.put, pa, p0, p1]
  refine wpAnyH_take (i := 4) (oi := ⟨some 11, _, _, _, _, _⟩) (v := .agg _) rfl (by kernel_rfl) (by kernel_rfl) (by kernel_rfl) (fun _ _ _ h => h) (yields_load_box (by kernel_rfl) 27 _ rfl _ rfl 27 _ _ (fun w h => Keep.at h 0 rfl) Tryd.underlying27 rfl (pk_size _ _ _)) (by assumption) ?_
  try simp only [Act.put, pa, p0, p1]
  refine wpAnyH_ready (rs := [5]) (by kernel_rfl) (by simp) ?_
  refine AllReadyH.cons (o := ⟨some 12, _, _, _, _, _⟩) rfl (fun K hK => ?_) AllReadyH.nil
  go_simp
  (go_at_call 76; refine Calls.mono (HO.out _ HK.out.env) ?_; rintro e w9 ⟨rfl, hb1⟩; replace HK := Lib.hid (HK.out.below hb1); clear hb1; go_simp)
  refine hK.out _ _ ?_ (fun hHeld => ?_)
  · (first | exact HK.out | exact HK.out.drew | exact HK.out.drewN _)
  clear hK K hHeld
  have hHeld := HK.out
  try simp only [Act.put, pa, p0, p1]
  refine wpAnyH_ready (rs := [6]) (by kernel_rfl) (by simp) ?_
  refine AllReadyH.cons (o := ⟨some 13, _, _, _, _, _⟩) rfl (fun K hK => ?_) AllReadyH.nil
  go_simp
  (go_at_call 24; refine Calls.mono (HS.out _ HK.out.env (HK.out.rowAt 0 rfl)) ?_; rintro e w9 ⟨rfl, hb1⟩; replace HK := Lib.hid (HK.out.below hb1); clear hb1; go_simp)
  refine hK.out _ _ ?_ (fun hHeld => ?_)
  · (first | exact HK.out | exact HK.out.drew | exact HK.out.drewN _)
  clear hK K hHeld
  have hHeld := HK.out
  try simp only [Act.put, pa, p0, p1]
  refine wt (i := 7) (oi := ⟨some 14, _, _, _, _, _⟩) (v := ?_) rfl ?_ ?_
  rotate_left
  · (intro w hSw; (try dsimp only at hSw); have hX0 := (Keep.at hSw 0 rfl).cells; go_simp; try with_reducible rfl)
  try simp only [Act.put, pa, p0, p1]
  refine wt (i := 8) (oi := ⟨some 15, _, _, _, _, _⟩) (v := ?_) rfl ?_ ?_
  rotate_left
  · (intro w hSw; (try dsimp only at hSw); have hX0 := (Keep.at hSw 0 rfl).cells; go_simp; try with_reducible rfl)
  try simp only [Act.put, pa, p0, p1]
  refine wt (i := 9) (oi := ⟨some 16, _, _, _, _, _⟩) (v := ?_) rfl ?_ ?_
  rotate_left
  · (intro w hSw; (try dsimp only at hSw); have hX0 := (Keep.at hSw 0 rfl).cells; go_simp; try with_reducible rfl)
  try simp only [Act.put, pa, p0, p1]
  refine wpAnyH_take (i := 10) (oi := ⟨some 17, _, _, _, _, _⟩) (v := .agg _) rfl (by kernel_rfl) (by kernel_rfl) (by kernel_rfl) (fun _ _ _ h => h) (yields_load_box (by kernel_rfl) 27 _ rfl _ rfl 27 _ _ (fun w h => Keep.at h 0 rfl) Tryd.underlying27 rfl (pk_size _ _ _)) (by assumption) ?_
  try simp only [Act.put, pa, p0, p1]
  refine wpAnyH_ready (rs := [11]) (by kernel_rfl) (by simp) ?_
  refine AllReadyH.cons (o := ⟨some 18, _, _, _, _, _⟩) rfl (fun K hK => ?_) AllReadyH.nil
  go_simp
  (go_at_call 77; refine Calls.mono (HL.out _ HK.out.env (HK.out.rowAt 0 rfl)) ?_; rintro e w9 ⟨rfl, hb1⟩; replace HK := Lib.hid (HK.out.below hb1); clear hb1; go_simp)
  refine hK.out _ _ ?_ (fun hHeld => ?_)
  · (first | exact HK.out | exact HK.out.drew | exact HK.out.drewN _)
  clear hK K hHeld
  have hHeld := HK.out
  try simp only [Act.put, pa, p0, p1]
  refine wt (i := 12) (oi := ⟨some 19, _, _, _, _, _⟩) (v := ?_) rfl ?_ ?_
  rotate_left
  · (intro w hSw; (try dsimp only at hSw); have hX0 := (Keep.at hSw 0 rfl).cells; go_simp; try with_reducible rfl)
  try simp only [Act.put, pa, p0, p1]
  refine wt (i := 13) (oi := ⟨some 20, _, _, _, _, _⟩) (v := ?_) rfl ?_ ?_
  rotate_left
  · (intro w hSw; (try dsimp only at hSw); have hX0 := (Keep.at hSw 0 rfl).cells; go_simp; try with_reducible rfl)
  try simp only [Act.put, pa, p0, p1]
  refine wt (i := 14) (oi := ⟨some 21, _, _, _, _, _⟩) (v := ?_) rfl ?_ ?_
  rotate_left
  · (intro w hSw; (try dsimp only at hSw); have hX0 := (Keep.at hSw 0 rfl).cells; go_simp; try with_reducible rfl)
  try simp only [Act.put, pa, p0, p1]
  refine wt (i := 15) (oi := ⟨some 22, _, _, _, _, _⟩) (v := ?_) rfl ?_ ?_
  rotate_left
  · (intro w hSw; (try dsimp only at hSw); have hX0 := (Keep.at hSw 0 rfl).cells; go_simp; try with_reducible rfl)
  try simp only [Act.put, pa, p0, p1]
  refine wt (i := 16) (oi := ⟨some 23, _, _, _, _, _⟩) (v := ?_) rfl ?_ ?_
  rotate_left
  · (intro w hSw; (try dsimp only at hSw); have hX0 := (Keep.at hSw 0 rfl).cells; go_simp; try with_reducible rfl)
  try simp only [Act.put, pa, p0, p1]
  refine wt (i := 17) (oi := ⟨some 24, _, _, _, _, _⟩) (v := ?_) rfl ?_ ?_
  rotate_left
  · (intro w hSw; (try dsimp only at hSw); have hX0 := (Keep.at hSw 0 rfl).cells; go_simp; try with_reducible rfl)
  try simp only [Act.put, pa, p0, p1]
  refine wt (i := 18) (oi := ⟨some 25, _, _, _, _, _⟩) (v := ?_) rfl ?_ ?_
  rotate_left
  · (intro w hSw; (try dsimp only at hSw); have hX0 := (Keep.at hSw 0 rfl).cells; go_simp; try with_reducible rfl)
  try simp only [Act.put, pa, p0, p1]
  refine wpAnyH_done (by kernel_rfl) ?_ _
  refine NoPanic.normal ?_
  have hX := (HK.out.at 0 rfl).cells
  go_wp2_with (first
    | ((with_reducible show wpList _ _ _ (⟨some 91, _, _, _, _, _⟩ :: _) _ _); refine wpList_load_box rfl 27 _ rfl _ rfl 27 _ (HK.out.at 0 rfl) _ Tryd.underlying27 rfl (pk_size _ _ _) ?_)
    | (go_at_call 79; (with_reducible refine Calls.mono (HN.out _) ?_); rintro e w1 ⟨rfl, hb1⟩; replace HK := Lib.hid (HK.out.below hb1); have hX := (HK.out.at 0 rfl).cells; clear hb1)
    | (go_at_call 80; (with_reducible refine Calls.mono (HH.out _) ?_); rintro e w1 ⟨rfl, rfl⟩)
    | (go_at_call 81; (with_reducible refine Calls.mono (HR.out _ HK.out.env (HK.out.rowAt 0 rfl)) ?_); rintro e w1 ⟨rfl, hb1⟩; replace HK := Lib.hid (HK.out.below hb1); have hX := (HK.out.at 0 rfl).cells; clear hb1))
  go_ret
  exact FIN.out _ _ HX.out HK.out.low
set_option maxRecDepth 100000 in
set_option maxHeartbeats 4000000 in
theorem right_e4c (p : Pk) (a : Option Addr) (c : Nat) (w : World) (hE : Env w) (hp : PkOk p) (ha : CellsA w a (subCells p.subs)) (f : ByteArray) (hF : ∀ w1, Calls Tryd.prog 75 #[.int .u8 (p.ty : Int)] w1 fun e w' => e = .returned (.string f) ∧ Below w1.heap.size w1 w') (hz : f.size ≤ 300000000) (hn : (f.toList == [45]) = false) (a2 : Option Addr) (c2 : Nat) (hO : ∀ w1, Env w1 → Calls Tryd.prog 76 #[.agg (pkV p a c)] w1 fun e w' => e = .returned (.agg (pkV (onlyS p) a2 c2)) ∧ Below w1.heap.size w1 w') (hS : ∀ w1, Env w1 → CellsA w1 a (subCells p.subs) → Calls Tryd.prog 24 #[.agg (pkV p a c), .agg (pkV (onlyS p) a2 c2)] w1 fun e w' => e = .returned (.bool true) ∧ Below w1.heap.size w1 w') (hL : ∀ w1, Env w1 → CellsA w1 a (subCells p.subs) → Calls Tryd.prog 77 #[.agg (pkV p a c)] w1 fun e w' => e = .returned (.bool true) ∧ Below w1.heap.size w1 w') (hq2 : decide ((2 : Int) < (p.qos : Int)) = false) (t1 : ((p.ty : Int) == 1) = false) (t2 : ((p.ty : Int) == 2) = false) (t3 : ((p.ty : Int) == 3) = false) (hhi : hasL (bl f) 105 = false) (hx : rightR p = decide (((restR p : Nat) : Int) ≤ 268435455)) : Calls Tryd.prog 60 #[.agg (pkV p a c)] w fun e w' => e = .returned (.bool (rightR p)) ∧ Below w.heap.size w w' := by
  have HF := Lib.hid hF
  have HP := Lib.hid hp
  have HX := Lib.hid hx
  have FIN := Lib.hid (show ∀ (n : Bool) (w' : World), rightR p = n → Below w.heap.size w w' → Ending.returned (.bool n) = .returned (.bool (rightR p)) ∧ Below w.heap.size w w' from by rintro n w' rfl h; exact ⟨rfl, h⟩)
  have HK := Lib.hid ((Keep.begin hE [(a, subCells p.subs)] (by intro r hr; simp at hr; subst hr; exact ha)).alloc' (pkV p a c) 27 w.heap.size rfl)
  obtain ⟨k0, k1, k2, k3, k4, k5, k6, k7, k8, k9, k10, k11, k12, k13, k14, k15, k16, k17, k18, k19, k20, k21, k22, k23⟩ := pk_at p a c
  have HO := Lib.hid hO
  have HS := Lib.hid hS
  clear hO hS
  have HL := Lib.hid hL
  clear hL
  have HC := Lib.hid (fun w1 => ref03_connect p a c w1 hp)
  have HN := Lib.hid (fun w1 => ref03_Name p.topic w1 hp.topic)
  have HH := Lib.hid (fun w1 => has_lit f 105 105 rfl w1 hz)
  have HR := Lib.hid (fun w1 hE ha => ref03_rest p a c w1 hE hp ha)
  rw [hhi] at HH
  clear hhi
  clear hF hp hx hE ha hz
  go_enter Tryd.func60, Tryd.ntmps60
  go_upto_region 1 with fail
  show Code.wp _ _ _ _ (w.alloc (.cells (pkV p a c) 27))
  generalize World.alloc w _ = w2 at HK ⊢
  have hX := (HK.out.at 0 rfl).cells
  go_upto_region 2 with (go_at_call 75; refine Calls.mono (HF.out _) ?_; rintro e w4 ⟨rfl, hb1⟩; replace HK := Lib.hid (HK.out.below hb1); clear hb1 hX HF)
  refine wp_region_noPanic ?_
  refine wp_region_held_drew (S := fun w' => Keep w [(w.heap.size, pkV p a c, 27)] [(a, subCells p.subs)] w') (by kernel_rfl) ?_ (fun hHeld => ?_)
  · (first | exact HK.out | exact HK.out.drew | exact HK.out.drewN _)
  replace HK := Lib.hid hHeld
  refine wt (i := 0) (oi := ⟨some 7, _, _, _, _, _⟩) (v := ?_) rfl ?_ ?_
  rotate_left
  · (intro w hSw; (try dsimp only at hSw); have hX0 := (Keep.at hSw 0 rfl).cells; go_simp; try with_reducible rfl)
  try simp only [Act.put, pa, p0, p1]
  refine wt (i := 1) (oi := ⟨some 8, _, _, _, _, _⟩) (v := ?_) rfl ?_ ?_
  rotate_left
  · (intro w hSw; (try dsimp only at hSw); have hX0 := (Keep.at hSw 0 rfl).cells; go_simp; try with_reducible rfl)
  try simp only [Act.put, pa, p0, p1]
  refine wt (i := 2) (oi := ⟨some 9, _, _, _, _, _⟩) (v := ?_) rfl ?_ ?_
  rotate_left
  · (intro w hSw; (try dsimp only at hSw); have hX0 := (Keep.at hSw 0 rfl).cells; go_simp; try with_reducible rfl)
  try simp only [Act.put, pa, p0, p1]
  refine wpAnyH_take (i := 3) (oi := ⟨some 10, _, _, _, _, _⟩) (v := .agg _) rfl (by kernel_rfl) (by kernel_rfl) (by kernel_rfl) (fun _ _ _ h => h) (yields_load_box (by kernel_rfl) 27 _ rfl _ rfl 27 _ _ (fun w h => Keep.at h 0 rfl) Tryd.underlying27 rfl (pk_size _ _ _)) (by assumption) ?_
  try simp only [Act.put, pa, p0, p1]
  refine wpAnyH_take (i := 4) (oi := ⟨some 11, _, _, _, _, _⟩) (v := .agg _) rfl (by kernel_rfl) (by kernel_rfl) (by kernel_rfl) (fun _ _ _ h => h) (yields_load_box (by kernel_rfl) 27 _ rfl _ rfl 27 _ _ (fun w h => Keep.at h 0 rfl) Tryd.underlying27 rfl (pk_size _ _ _)) (by assumption) ?_
  try simp only [Act.put, pa, p0, p1]
  refine wpAnyH_ready (rs := [5]) (by kernel_rfl) (by simp) ?_
  refine AllReadyH.cons (o := ⟨some 12, _, _, _, _, _⟩) rfl (fun K hK => ?_) AllReadyH.nil
  go_simp
  (go_at_call 76; refine Calls.mono (HO.out _ HK.out.env) ?_; rintro e w9 ⟨rfl, hb1⟩; replace HK := Lib.hid (HK.out.below hb1); clear hb1; go_simp)
  refine hK.out _ _ ?_ (fun hHeld => ?_)
  · (first | exact HK.out | exact HK.out.drew | exact HK.out.drewN _)
  clear hK K hHeld
  have hHeld := HK.out
  try simp only [Act.put, pa, p0, p1]
  refine wpAnyH_ready (rs := [6]) (by kernel_rfl) (by simp) ?_
  refine AllReadyH.cons (o := ⟨some 13, _, _, _, _, _⟩) rfl (fun K hK => ?_) AllReadyH.nil
  go_simp
  (go_at_call 24; refine Calls.mono (HS.out _ HK.out.env (HK.out.rowAt 0 rfl)) ?_; rintro e w9 ⟨rfl, hb1⟩; replace HK := Lib.hid (HK.out.below hb1); clear hb1; go_simp)
  refine hK.out _ _ ?_ (fun hHeld => ?_)
  · (first | exact HK.out | exact HK.out.drew | exact HK.out.drewN _)
  clear hK K hHeld
  have hHeld := HK.out
  try simp only [Act.put, pa, p0, p1]
  refine wt (i := 7) (oi := ⟨some 14, _, _, _, _, _⟩) (v := ?_) rfl ?_ ?_
  rotate_left
  · (intro w hSw; (try dsimp only at hSw); have hX0 := (Keep.at hSw 0 rfl).cells; go_simp; try with_reducible rfl)
  try simp only [Act.put, pa, p0, p1]
  refine wt (i := 8) (oi := ⟨some 15, _, _, _, _, _⟩) (v := ?_) rfl ?_ ?_
  rotate_left
  · (intro w hSw; (try dsimp only at hSw); have hX0 := (Keep.at hSw 0 rfl).cells; go_simp; try with_reducible rfl)
  try simp only [Act.put, pa, p0, p1]
  refine wt (i := 9) (oi := ⟨some 16, _, _, _, _, _⟩) (v := ?_) rfl ?_ ?_
  rotate_left
  · (intro w hSw; (try dsimp only at hSw); have hX0 := (Keep.at hSw 0 rfl).cells; go_simp; try with_reducible rfl)
  try simp only [Act.put, pa, p0, p1]
  refine wpAnyH_take (i := 10) (oi := ⟨some 17, _, _, _, _, _⟩) (v := .agg _) rfl (by kernel_rfl) (by kernel_rfl) (by kernel_rfl) (fun _ _ _ h => h) (yields_load_box (by kernel_rfl) 27 _ rfl _ rfl 27 _ _ (fun w h => Keep.at h 0 rfl) Tryd.underlying27 rfl (pk_size _ _ _)) (by assumption) ?_
  try simp only [Act.put, pa, p0, p1]
  refine wpAnyH_ready (rs := [11]) (by kernel_rfl) (by simp) ?_
  refine AllReadyH.cons (o := ⟨some 18, _, _, _, _, _⟩) rfl (fun K hK => ?_) AllReadyH.nil
  go_simp
  (go_at_call 77; refine Calls.mono (HL.out _ HK.out.env (HK.out.rowAt 0 rfl)) ?_; rintro e w9 ⟨rfl, hb1⟩; replace HK := Lib.hid (HK.out.below hb1); clear hb1; go_simp)
  refine hK.out _ _ ?_ (fun hHeld => ?_)
  · (first | exact HK.out | exact HK.out.drew | exact HK.out.drewN _)
  clear hK K hHeld
  have hHeld := HK.out
  try simp only [Act.put, pa, p0, p1]
  refine wt (i := 12) (oi := ⟨some 19, _, _, _, _, _⟩) (v := ?_) rfl ?_ ?_
  rotate_left
  · (intro w hSw; (try dsimp only at hSw); have hX0 := (Keep.at hSw 0 rfl).cells; go_simp; try with_reducible rfl)
  try simp only [Act.put, pa, p0, p1]
  refine wt (i := 13) (oi := ⟨some 20, _, _, _, _, _⟩) (v := ?_) rfl ?_ ?_
  rotate_left
  · (intro w hSw; (try dsimp only at hSw); have hX0 := (Keep.at hSw 0 rfl).cells; go_simp; try with_reducible rfl)
  try simp only [Act.put, pa, p0, p1]
  refine wt (i := 14) (oi := ⟨some 21, _, _, _, _, _⟩) (v := ?_) rfl ?_ ?_
  rotate_left
  · (intro w hSw; (try dsimp only at hSw); have hX0 := (Keep.at hSw 0 rfl).cells; go_simp; try with_reducible rfl)
  try simp only [Act.put, pa, p0, p1]
  refine wt (i := 15) (oi := ⟨some 22, _, _, _, _, _⟩) (v := ?_) rfl ?_ ?_
  rotate_left
  · (intro w hSw; (try dsimp only at hSw); have hX0 := (Keep.at hSw 0 rfl).cells; go_simp; try with_reducible rfl)
  try simp only [Act.put, pa, p0, p1]
  refine wt (i := 16) (oi := ⟨some 23, _, _, _, _, _⟩) (v := ?_) rfl ?_ ?_
  rotate_left
  · (intro w hSw; (try dsimp only at hSw); have hX0 := (Keep.at hSw 0 rfl).cells; go_simp; try with_reducible rfl)
  try simp only [Act.put, pa, p0, p1]
  refine wt (i := 17) (oi := ⟨some 24, _, _, _, _, _⟩) (v := ?_) rfl ?_ ?_
  rotate_left
  · (intro w hSw; (try dsimp only at hSw); have hX0 := (Keep.at hSw 0 rfl).cells; go_simp; try with_reducible rfl)
  try simp only [Act.put, pa, p0, p1]
  refine wt (i := 18) (oi := ⟨some 25, _, _, _, _, _⟩) (v := ?_) rfl ?_ ?_
  rotate_left
  · (intro w hSw; (try dsimp only at hSw); have hX0 := (Keep.at hSw 0 rfl).cells; go_simp; try with_reducible rfl)
  try simp only [Act.put, pa, p0, p1]
  refine wpAnyH_done (by kernel_rfl) ?_ _
  refine NoPanic.normal ?_
  have hX := (HK.out.at 0 rfl).cells
  go_wp2_with (first
    | ((with_reducible show wpList _ _ _ (⟨some 91, _, _, _, _, _⟩ :: _) _ _); refine wpList_load_box rfl 27 _ rfl _ rfl 27 _ (HK.out.at 0 rfl) _ Tryd.underlying27 rfl (pk_size _ _ _) ?_)
    | (go_at_call 79; (with_reducible refine Calls.mono (HN.out _) ?_); rintro e w1 ⟨rfl, hb1⟩; replace HK := Lib.hid (HK.out.below hb1); have hX := (HK.out.at 0 rfl).cells; clear hb1)
    | (go_at_call 80; (with_reducible refine Calls.mono (HH.out _) ?_); rintro e w1 ⟨rfl, rfl⟩)
    | (go_at_call 81; (with_reducible refine Calls.mono (HR.out _ HK.out.env (HK.out.rowAt 0 rfl)) ?_); rintro e w1 ⟨rfl, hb1⟩; replace HK := Lib.hid (HK.out.below hb1); have hX := (HK.out.at 0 rfl).cells; clear hb1))
  go_ret
  exact FIN.out _ _ HX.out HK.out.low
def bitsOf (t : Nat) : Bits := ⟨decide (t = 3), decide (t = 3), decide (t = 1), decide (t = 2), decide (t = 3), decide (3 ≤ t ∧ t ≤ 11), decide (t = 3), decide (t = 3), decide (t = 1), decide (t = 2), decide (t = 8 ∨ t = 10), decide (t = 9)⟩
theorem ty_cases {t : Nat} (h : 1 ≤ t ∧ t ≤ 14) : t = 1 ∨ t = 2 ∨ t = 3 ∨ t = 4 ∨ t = 5 ∨ t = 6 ∨ t = 7 ∨ t = 8 ∨ t = 9 ∨ t = 10 ∨ t = 11 ∨ t = 12 ∨ t = 13 ∨ t = 14 := by omega
theorem bits_only (p : Pk) (h : 1 ≤ p.ty ∧ p.ty ≤ 14) : only9 p (bitsOf p.ty) = onlyS p := by
  obtain ⟨ty, dup, qos, ret, id, topic, payload, level, clean, keep, client, hasWill, wtopic, wpayload, wqos, wret, hasUser, hasPass, user, pass, present, code, subs, codes⟩ := p
  simp only at h
  rcases ty_cases h with rfl | rfl | rfl | rfl | rfl | rfl | rfl | rfl | rfl | rfl | rfl | rfl | rfl | rfl
  all_goals simp [only9, only8, only7, only6, only5, only4, only3, only2, only1, bitsOf, onlyS, onlyF, Pk.zero]
theorem ref03_Only (p : Pk) (a : Option Addr) (c : Nat) (w : World) (hE : Env w) (hp : PkOk p) (h : 1 ≤ p.ty ∧ p.ty ≤ 14) :
    Calls Tryd.prog 76 #[.agg (pkV p a c)] w fun e w' => e = .returned (.agg (pkV (onlyS p) (if p.ty = 8 ∨ p.ty = 10 then a else none) (if p.ty = 8 ∨ p.ty = 10 then c else 0))) ∧ Below w.heap.size w w' := by
  have hz : (fieldsB p.ty).size ≤ 300000000 := by
    rcases ty_cases h with e | e | e | e | e | e | e | e | e | e | e | e | e | e <;> rw [e] <;> decide
  have k := ref03_onlyB p a c (fieldsB p.ty) (bitsOf p.ty) w hE (fun w1 => ref03_Fields p.ty hp.ty w1) hz
  rw [bits_only p h] at k
  have e1 : (if (bitsOf p.ty).b = true then a else none) = (if p.ty = 8 ∨ p.ty = 10 then a else none) := by simp [bitsOf]
  have e2 : (if (bitsOf p.ty).b = true then c else 0) = (if p.ty = 8 ∨ p.ty = 10 then c else 0) := by simp [bitsOf]
  rw [e1, e2] at k
  apply k
  all_goals (rcases ty_cases h with e | e | e | e | e | e | e | e | e | e | e | e | e | e <;> rw [e] <;> decide)
theorem onlyS_ok {p : Pk} (h : PkOk p) : PkOk (onlyS p) := by
  have k := onlyF_ok h
  have hs : (onlyS p).subs = (if p.ty = 8 ∨ p.ty = 10 then p.subs else []) := rfl
  refine ⟨k.ty, k.qos, k.id, k.level, k.keep, k.wqos, k.code, k.topic, k.payload, k.client, k.wtopic, k.wpayload, k.user, k.pass, k.codes, ?_, ?_⟩
  · rw [hs]; split
    · exact h.few
    · simp
  · rw [hs]; split
    · exact h.each
    · intro x hx; cases hx
theorem fields_dash (t : Nat) (h : ¬ (1 ≤ t ∧ t ≤ 14)) : fieldsB t = b1 [45] := by
  unfold fieldsB
  (repeat' split) <;> first | rfl | (exfalso; omega)
theorem fields_i {t : Nat} (h : 1 ≤ t ∧ t ≤ 14) : hasL (bl (fieldsB t)) 105 = hasI t := by
  rcases ty_cases h with e | e | e | e | e | e | e | e | e | e | e | e | e | e <;> rw [e] <;> decide
theorem ref03_Right (p : Pk) (a : Option Addr) (c : Nat) (w : World) (hE : Env w) (hp : PkOk p) (ha : CellsA w a (subCells p.subs)) : Calls Tryd.prog 60 #[.agg (pkV p a c)] w fun e w' => e = .returned (.bool (rightR p)) ∧ Below w.heap.size w w' := by
  have hF := fun w1 => ref03_Fields p.ty hp.ty w1
  by_cases h : 1 ≤ p.ty ∧ p.ty ≤ 14
  rotate_left
  · rw [fields_dash _ h] at hF
    exact right_a p a c w hE hp ha _ hF (by decide) (by rw [Lib.toList_data]; rfl) (by unfold rightR; simp [h])
  have hz : (fieldsB p.ty).size ≤ 300000000 := by
    rcases ty_cases h with e | e | e | e | e | e | e | e | e | e | e | e | e | e <;> rw [e] <;> decide
  have hn : ((fieldsB p.ty).toList == [45]) = false := by
    rcases ty_cases h with e | e | e | e | e | e | e | e | e | e | e | e | e | e <;> rw [e, Lib.toList_data] <;> rfl
  have hhi := fields_i h
  have hO := fun w1 hE => ref03_Only p a c w1 hE hp h
  have hA1 : decide (1 ≤ p.ty ∧ p.ty ≤ 14) = true := decide_eq_true h
  obtain ⟨a2, ha2⟩ : ∃ x, (if p.ty = 8 ∨ p.ty = 10 then a else none) = x := ⟨_, rfl⟩
  obtain ⟨c2, hc2⟩ : ∃ x, (if p.ty = 8 ∨ p.ty = 10 then c else 0) = x := ⟨_, rfl⟩
  rw [ha2, hc2] at hO
  have hrow : ∀ w1, CellsA w1 a (subCells p.subs) → CellsA w1 a2 (subCells (onlyS p).subs) := by
    intro w1 k
    show CellsA w1 a2 (subCells (if p.ty = 8 ∨ p.ty = 10 then p.subs else []))
    rw [← ha2]
    split
    · exact k
    · exact CellsA.nil _ _
  have hS := fun w1 hE (k : CellsA w1 a (subCells p.subs)) => ref03_Same p (onlyS p) a a2 c c2 w1 hE hp (onlyS_ok hp) k (hrow w1 k)
  have hL := fun w1 hE k => ref03_lists p a c w1 hE hp k
  clear ha2 hc2 hrow
  generalize fieldsB p.ty = f at *
  obtain ⟨s, hs⟩ : ∃ s, decide (p = onlyS p) = s := ⟨_, rfl⟩
  obtain ⟨l, hl⟩ : ∃ s, listsR p = s := ⟨_, rfl⟩
  rw [hs] at hS
  rw [hl] at hL
  have hRR : rightR p = (s && l && decide (p.qos ≤ 2) && (!decide (p.ty = 1) || connectR p) && (!decide (p.ty = 2) || decide (p.code ≤ 5) && !(p.present && decide (0 < p.code))) &&
    (if p.ty = 3 then nameL (bl p.topic) && !(decide (p.qos = 0) && (p.dup || decide (p.id ≠ 0))) && !(decide (0 < p.qos) && decide (p.id = 0)) else !(hasI p.ty && decide (p.id = 0))) && decide (restR p ≤ 268435455)) := by
    unfold rightR
    rw [hA1, hs, hl]; rfl
  have hre : decide (restR p ≤ 268435455) = decide (((restR p : Nat) : Int) ≤ 268435455) := by rw [Bool.eq_iff_iff]; simp; omega
  rw [hre] at hRR
  cases s
  · exact right_b p a c w hE hp ha f hF hz hn a2 c2 hO hS (by rw [hRR]; simp)
  cases l
  · exact right_c p a c w hE hp ha f hF hz hn a2 c2 hO hS hL (by rw [hRR]; simp)
  simp only [Bool.true_and] at hRR
  by_cases hq : 2 < p.qos
  · exact right_d p a c w hE hp ha f hF hz hn a2 c2 hO hS hL (by rw [decide_eq_true_eq]; omega) (by rw [hRR, decide_eq_false (show ¬ p.qos ≤ 2 by omega)]; simp)
  have hq2 : decide ((2 : Int) < (p.qos : Int)) = false := by rw [decide_eq_false_iff_not]; omega
  rw [decide_eq_true (show p.qos ≤ 2 by omega)] at hRR
  by_cases h1 : p.ty = 1
  · have t1 : ((p.ty : Int) == 1) = true := by rw [h1]; rfl
    have t2 : ((p.ty : Int) == 2) = false := by rw [h1]; rfl
    have t3 : ((p.ty : Int) == 3) = false := by rw [h1]; rfl
    have hh : hasI p.ty = false := by rw [h1]; rfl
    cases hc : connectR p
    · exact right_e1 p a c w hE hp ha f hF hz hn a2 c2 hO hS hL hq2 t1 t2 t3 hc (by rw [hRR]; simp [h1, hc])
    · exact right_e1t p a c w hE hp ha f hF hz hn a2 c2 hO hS hL hq2 t1 t2 t3 hc (hhi.trans hh) (by rw [hRR, hh]; simp [h1, hc])
  have t1 : ((p.ty : Int) == 1) = false := by rw [beq_eq_false_iff_ne]; omega
  by_cases h2 : p.ty = 2
  · have t2 : ((p.ty : Int) == 2) = true := by rw [h2]; rfl
    have t3 : ((p.ty : Int) == 3) = false := by rw [h2]; rfl
    have hh : hasI p.ty = false := by rw [h2]; rfl
    by_cases h5 : p.code ≤ 5
    · have c5 : decide ((5 : Int) < (p.code : Int)) = false := by rw [decide_eq_false_iff_not]; omega
      cases hp2 : p.present
      · exact right_e2d p a c w hE hp ha f hF hz hn a2 c2 hO hS hL hq2 t1 t2 t3 c5 hp2 (hhi.trans hh) (by rw [hRR, hh]; simp [h2, h5, hp2])
      · by_cases h0 : 0 < p.code
        · exact right_e2b p a c w hE hp ha f hF hz hn a2 c2 hO hS hL hq2 t1 t2 t3 c5 hp2 (decide_eq_true h0) (by rw [hRR, hh, decide_eq_true h0]; simp [h2, h5, hp2])
        · exact right_e2c p a c w hE hp ha f hF hz hn a2 c2 hO hS hL hq2 t1 t2 t3 c5 hp2 (decide_eq_false h0) (hhi.trans hh) (by rw [hRR, hh, decide_eq_false h0]; simp [h2, h5, hp2])
    · exact right_e2a p a c w hE hp ha f hF hz hn a2 c2 hO hS hL hq2 t1 t2 t3 (by rw [decide_eq_true_eq]; omega) (by rw [hRR]; simp [h2, h5])
  have t2 : ((p.ty : Int) == 2) = false := by rw [beq_eq_false_iff_ne]; omega
  by_cases h3 : p.ty = 3
  · have t3 : ((p.ty : Int) == 3) = true := by rw [h3]; rfl
    cases hnm : nameL (bl p.topic)
    · exact right_e3a p a c w hE hp ha f hF hz hn a2 c2 hO hS hL hq2 t1 t2 t3 hnm (by rw [hRR]; simp [h3, hnm])
    · by_cases hq0 : p.qos = 0
      · have qe : ((p.qos : Int) == 0) = true := by rw [hq0]; rfl
        have q0 : decide (0 < p.qos) = false := by rw [hq0]; rfl
        cases hd : p.dup
        · by_cases hi : p.id = 0
          · have ine : ((p.id : Int) != 0) = false := by rw [hi]; rfl
            exact right_e3d p a c w hE hp ha f hF hz hn a2 c2 hO hS hL hq2 t1 t2 t3 hnm qe q0 hd ine (by rw [hRR]; simp [h3, hnm, hq0, hd, hi])
          · have ine : ((p.id : Int) != 0) = true := by rw [bne_iff_ne]; omega
            exact right_e3c p a c w hE hp ha f hF hz hn a2 c2 hO hS hL hq2 t1 t2 t3 hnm qe hd ine (by rw [hRR]; simp [h3, hnm, hq0, hd, hi])
        · exact right_e3b p a c w hE hp ha f hF hz hn a2 c2 hO hS hL hq2 t1 t2 t3 hnm qe hd (by rw [hRR]; simp [h3, hnm, hq0, hd])
      · have qe : ((p.qos : Int) == 0) = false := by rw [beq_eq_false_iff_ne]; omega
        have q0 : decide (0 < p.qos) = true := by rw [decide_eq_true_eq]; omega
        by_cases hi : p.id = 0
        · have ie : ((p.id : Int) == 0) = true := by rw [hi]; rfl
          exact right_e3e p a c w hE hp ha f hF hz hn a2 c2 hO hS hL hq2 t1 t2 t3 hnm qe q0 ie (by rw [hRR, q0]; simp [h3, hnm, hq0, hi])
        · have ie : ((p.id : Int) == 0) = false := by rw [beq_eq_false_iff_ne]; omega
          exact right_e3f p a c w hE hp ha f hF hz hn a2 c2 hO hS hL hq2 t1 t2 t3 hnm qe q0 ie (by rw [hRR, q0]; simp [h3, hnm, hq0, hi])
  have t3 : ((p.ty : Int) == 3) = false := by rw [beq_eq_false_iff_ne]; omega
  rw [if_neg h3] at hRR
  cases hh : hasI p.ty
  · exact right_e4c p a c w hE hp ha f hF hz hn a2 c2 hO hS hL hq2 t1 t2 t3 (hhi.trans hh) (by rw [hRR, hh]; simp [h1, h2])
  · by_cases hi : p.id = 0
    · have ie : ((p.id : Int) == 0) = true := by rw [hi]; rfl
      exact right_e4a p a c w hE hp ha f hF hz hn a2 c2 hO hS hL hq2 t1 t2 t3 (hhi.trans hh) ie (by rw [hRR, hh]; simp [h1, h2, hi])
    · have ie : ((p.id : Int) == 0) = false := by rw [beq_eq_false_iff_ne]; omega
      exact right_e4b p a c w hE hp ha f hF hz hn a2 c2 hO hS hL hq2 t1 t2 t3 (hhi.trans hh) ie (by rw [hRR, hh]; simp [h1, h2, hi])
end Go.Proofs.YtfljdlaelanliaaDoor
