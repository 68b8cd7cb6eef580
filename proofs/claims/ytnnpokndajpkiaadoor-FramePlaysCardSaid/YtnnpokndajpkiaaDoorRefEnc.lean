import Derived.Test.YtnnpokndajpkiaaDoorRefNum
import Derived.Test.YtnnpokndajpkiaaDoorPacketSame
namespace Go.Proofs.YtnnpokndajpkiaaDoor
open Go.RowKit
set_option maxRecDepth 100000 in
set_option maxHeartbeats 4000000 in
theorem ref04_one (n : Nat) (h : n < 256) (w : World) (hE : Env w) : Calls Tryd.prog 93 #[.int .i64 (n : Int)] w fun e w' => e = .returned (.string (bB [byteN n])) ∧ Below w.heap.size w w' := by
  have HK := Lib.hid (Keep.begin hE [] (by intro r hr; cases hr)); have FIN := Lib.hid (show ∀ (s : ByteArray) (w' : World), s = bB [byteN n] → Below w.heap.size w w' → Ending.returned (.string s) = .returned (.string (bB [byteN n])) ∧ Below w.heap.size w w' from by rintro s w' rfl h; exact ⟨rfl, h⟩); clear hE; go_enter Tryd.func93, Tryd.ntmps93
  go_wp2_with ((with_reducible show wpList _ _ _ (⟨some 5, .buildSlice _ _ _, _, _, _, _⟩ :: _) _ _); refine Great.wpList_buildSliceTo rfl 28 5 1 _ rfl _ rfl _ rfl Tryd.underlying28 (List.toArray (natV [n])) (by kernel_rfl) ?_; replace HK := Lib.hid (HK.out.allocRow (natV [n]) 5); generalize hgw : World.alloc _ _ = wg at HK ⊢; clear hgw; have kc := conv_nats (P := Tryd.prog) wg 28 5 Tryd.underlying28 Tryd.underlying5 _ 1 [n] 1 rfl (HK.out.rowAt 0 rfl) 9 Tryd.underlying9)
  go_ret
  exact FIN.out _ _ (str1 n) HK.out.low
theorem ref04_one' (z : Int) (n : Nat) (hz : z = (n : Int)) (h : n < 256) (w : World) (hE : Env w) : Calls Tryd.prog 93 #[.int .i64 z] w fun e w' => e = .returned (.string (bB [byteN n])) ∧ Below w.heap.size w w' := hz ▸ ref04_one n h w hE
theorem ref04_yes (b : Bool) (n : Nat) (w : World) : Calls Tryd.prog 81 #[.bool b, .int .i64 (n : Int)] w fun e w' => e = .returned (.int .i64 ((bitN b n : Nat) : Int)) ∧ Below w.heap.size w w' := by
  cases b; all_goals
    go_enter Tryd.func81, Tryd.ntmps81
    go_wp2_with fail
    go_ret
    exact ⟨rfl, Below.refl _ _⟩
theorem ref04_yes' (b : Bool) (z : Int) (n : Nat) (hz : z = (n : Int)) (w : World) : Calls Tryd.prog 81 #[.bool b, .int .i64 z] w fun e w' => e = .returned (.int .i64 ((bitN b n : Nat) : Int)) ∧ Below w.heap.size w w' := hz ▸ ref04_yes b n w
set_option maxRecDepth 100000 in
set_option maxHeartbeats 4000000 in
theorem ref04_word (n : Nat) (h : n ≤ 65535) (w : World) (hE : Env w) : Calls Tryd.prog 94 #[.int .u16 (n : Int)] w fun e w' => e = .returned (.string (bB (wordB n))) ∧ Below w.heap.size w w' := by
  have HK := Lib.hid (Keep.begin hE [] (by intro r hr; cases hr)); clear hE; go_enter Tryd.func94, Tryd.ntmps94
  go_wp2_with (first
    | ((with_reducible show wpList _ _ _ (⟨some 8, .buildSlice _ _ _, _, _, _, _⟩ :: _) _ _); refine Great.wpList_buildSliceTo rfl 55 3 1 _ rfl _ rfl _ rfl Tryd.underlying55 (List.toArray ([.int .i64 (n : Int)])) (by kernel_rfl) ?_; replace HK := Lib.hid (HK.out.allocRow ([.int .i64 (n : Int)]) 3); generalize hgw : World.alloc _ _ = w8 at HK ⊢; clear hgw)
    | (go_at_call 117; refine Calls.mono (ref01_Word n h _ _ _ _ HK.out.env (HK.out.rowAt 0 rfl)) ?_; rintro e w1 ⟨rfl, hb1⟩; replace HK := Lib.hid (HK.out.below hb1); clear hb1))
  go_ret
  exact ⟨rfl, HK.out.low⟩
theorem ref04_data (s : ByteArray) (h : s.size ≤ 65535) (w : World) (hE : Env w) : Calls Tryd.prog 92 #[.string s] w fun e w' => e = .returned (.string (bB (dataB s))) ∧ Below w.heap.size w w' := by
  have HK := Lib.hid (Keep.begin hE [] (by intro r hr; cases hr)); clear hE; go_enter Tryd.func92, Tryd.ntmps92
  go_wp2_with (go_at_call 116; refine Calls.mono (ref02_PutData s h _ HK.out.env) ?_; rintro e w1 ⟨rfl, hb1⟩; replace HK := Lib.hid (HK.out.below hb1); clear hb1)
  go_ret
  exact ⟨rfl, HK.out.low⟩
set_option maxRecDepth 100000 in
set_option maxHeartbeats 4000000 in
theorem first_1 (p : Pk) (a : Option Addr) (c : Nat) (w : World) (hE : Env w) (ht : p.ty = 1) : Calls Tryd.prog 65 #[.agg (pkV p a c)] w fun e w' => e = .returned (.int .i64 ((16 * p.ty + flagsN p : Nat) : Int)) ∧ Below w.heap.size w w' := by
  have HK := Lib.hid ((Keep.begin hE [] (by intro r hr; cases hr)).alloc' (pkV p a c) 40 w.heap.size rfl); obtain ⟨k0, k1, k2, k3, k4, k5, k6, k7, k8, k9, k10, k11, k12, k13, k14, k15, k16, k17, k18, k19, k20, k21, k22, k23⟩ := pk_at p a c; replace k0 : (pkV p a c)[0]? = some (.int .u8 1) := by rw [k0, ht]; rfl
  have hfl : flagsN p = 0 := by unfold flagsN; simp [ht]
  have FIN := Lib.hid (show ∀ (k : Int) (w' : World), k = ((16 * p.ty + flagsN p : Nat) : Int) → Below w.heap.size w w' → Ending.returned (.int .i64 k) = .returned (.int .i64 ((16 * p.ty + flagsN p : Nat) : Int)) ∧ Below w.heap.size w w' from by rintro k w' rfl h; exact ⟨rfl, h⟩); clear hE; go_enter Tryd.func65, Tryd.ntmps65
  go_upto_region 1 with fail
  show Code.wp _ _ _ _ (w.alloc (.cells (pkV p a c) 40)); generalize World.alloc w _ = w2 at HK ⊢; go_upto_region 2 with ((with_reducible show wpList _ _ _ (⟨some 4, .buildSlice _ _ _, _, _, _, _⟩ :: _) _ _); refine Great.wpList_buildSliceTo rfl 55 3 15 _ rfl _ rfl _ rfl Tryd.underlying55 (List.toArray ([.int .i64 0, .int .i64 0, .int .i64 0, .int .i64 0, .int .i64 0, .int .i64 0, .int .i64 2, .int .i64 0, .int .i64 2, .int .i64 0, .int .i64 2, .int .i64 0, .int .i64 0, .int .i64 0, .int .i64 0])) (by kernel_rfl) ?_; replace HK := Lib.hid (HK.out.allocRow ([.int .i64 0, .int .i64 0, .int .i64 0, .int .i64 0, .int .i64 0, .int .i64 0, .int .i64 2, .int .i64 0, .int .i64 2, .int .i64 0, .int .i64 2, .int .i64 0, .int .i64 0, .int .i64 0, .int .i64 0]) 3); generalize hgw : World.alloc _ _ = w3 at HK ⊢; clear hgw; have hc := cells_at (HK.out.rowAt 0 rfl) 1 _ rfl; rw [Addr.add_lit] at hc; have hX := (HK.out.at 0 rfl).cells)
  have hX := (HK.out.at 0 rfl).cells; go_wp2_with fail
  go_ret
  exact FIN.out _ _ (by rw [ht, hfl] <;> rfl) HK.out.low
set_option maxRecDepth 100000 in
set_option maxHeartbeats 4000000 in
theorem first_2 (p : Pk) (a : Option Addr) (c : Nat) (w : World) (hE : Env w) (ht : p.ty = 2) : Calls Tryd.prog 65 #[.agg (pkV p a c)] w fun e w' => e = .returned (.int .i64 ((16 * p.ty + flagsN p : Nat) : Int)) ∧ Below w.heap.size w w' := by
  have HK := Lib.hid ((Keep.begin hE [] (by intro r hr; cases hr)).alloc' (pkV p a c) 40 w.heap.size rfl); obtain ⟨k0, k1, k2, k3, k4, k5, k6, k7, k8, k9, k10, k11, k12, k13, k14, k15, k16, k17, k18, k19, k20, k21, k22, k23⟩ := pk_at p a c; replace k0 : (pkV p a c)[0]? = some (.int .u8 2) := by rw [k0, ht]; rfl
  have hfl : flagsN p = 0 := by unfold flagsN; simp [ht]
  have FIN := Lib.hid (show ∀ (k : Int) (w' : World), k = ((16 * p.ty + flagsN p : Nat) : Int) → Below w.heap.size w w' → Ending.returned (.int .i64 k) = .returned (.int .i64 ((16 * p.ty + flagsN p : Nat) : Int)) ∧ Below w.heap.size w w' from by rintro k w' rfl h; exact ⟨rfl, h⟩); clear hE; go_enter Tryd.func65, Tryd.ntmps65
  go_upto_region 1 with fail
  show Code.wp _ _ _ _ (w.alloc (.cells (pkV p a c) 40)); generalize World.alloc w _ = w2 at HK ⊢; go_upto_region 2 with ((with_reducible show wpList _ _ _ (⟨some 4, .buildSlice _ _ _, _, _, _, _⟩ :: _) _ _); refine Great.wpList_buildSliceTo rfl 55 3 15 _ rfl _ rfl _ rfl Tryd.underlying55 (List.toArray ([.int .i64 0, .int .i64 0, .int .i64 0, .int .i64 0, .int .i64 0, .int .i64 0, .int .i64 2, .int .i64 0, .int .i64 2, .int .i64 0, .int .i64 2, .int .i64 0, .int .i64 0, .int .i64 0, .int .i64 0])) (by kernel_rfl) ?_; replace HK := Lib.hid (HK.out.allocRow ([.int .i64 0, .int .i64 0, .int .i64 0, .int .i64 0, .int .i64 0, .int .i64 0, .int .i64 2, .int .i64 0, .int .i64 2, .int .i64 0, .int .i64 2, .int .i64 0, .int .i64 0, .int .i64 0, .int .i64 0]) 3); generalize hgw : World.alloc _ _ = w3 at HK ⊢; clear hgw; have hc := cells_at (HK.out.rowAt 0 rfl) 2 _ rfl; rw [Addr.add_lit] at hc; have hX := (HK.out.at 0 rfl).cells)
  have hX := (HK.out.at 0 rfl).cells; go_wp2_with fail
  go_ret
  exact FIN.out _ _ (by rw [ht, hfl] <;> rfl) HK.out.low
set_option maxRecDepth 100000 in
set_option maxHeartbeats 4000000 in
theorem first_3 (p : Pk) (a : Option Addr) (c : Nat) (w : World) (hE : Env w) (ht : p.ty = 3) (hq : p.qos ≤ 2) : Calls Tryd.prog 65 #[.agg (pkV p a c)] w fun e w' => e = .returned (.int .i64 ((16 * p.ty + flagsN p : Nat) : Int)) ∧ Below w.heap.size w w' := by
  have HK := Lib.hid ((Keep.begin hE [] (by intro r hr; cases hr)).alloc' (pkV p a c) 40 w.heap.size rfl); obtain ⟨k0, k1, k2, k3, k4, k5, k6, k7, k8, k9, k10, k11, k12, k13, k14, k15, k16, k17, k18, k19, k20, k21, k22, k23⟩ := pk_at p a c; replace k0 : (pkV p a c)[0]? = some (.int .u8 3) := by rw [k0, ht]; rfl
  have hfl : flagsN p = bitN p.dup 8 + 2 * p.qos + bitN p.ret 1 := by unfold flagsN; rw [if_pos ht]
  have b1 : bitN p.dup 8 ≤ 8 := by unfold bitN; split <;> omega
  have b2 : bitN p.ret 1 ≤ 1 := by unfold bitN; split <;> omega
  have H1 := Lib.hid (fun w1 => ref04_yes' p.dup 8 8 rfl w1); have H2 := Lib.hid (fun w1 => ref04_yes' p.ret 1 1 rfl w1); generalize bitN p.dup 8 = x1 at *; generalize bitN p.ret 1 = x2 at *; have FIN := Lib.hid (show ∀ (k : Int) (w' : World), k = ((16 * p.ty + flagsN p : Nat) : Int) → Below w.heap.size w w' → Ending.returned (.int .i64 k) = .returned (.int .i64 ((16 * p.ty + flagsN p : Nat) : Int)) ∧ Below w.heap.size w w' from by rintro k w' rfl h; exact ⟨rfl, h⟩); clear hE; go_enter Tryd.func65, Tryd.ntmps65
  go_upto_region 1 with fail
  show Code.wp _ _ _ _ (w.alloc (.cells (pkV p a c) 40)); generalize World.alloc w _ = w2 at HK ⊢; go_upto_region 2 with ((with_reducible show wpList _ _ _ (⟨some 4, .buildSlice _ _ _, _, _, _, _⟩ :: _) _ _); refine Great.wpList_buildSliceTo rfl 55 3 15 _ rfl _ rfl _ rfl Tryd.underlying55 (List.toArray ([.int .i64 0, .int .i64 0, .int .i64 0, .int .i64 0, .int .i64 0, .int .i64 0, .int .i64 2, .int .i64 0, .int .i64 2, .int .i64 0, .int .i64 2, .int .i64 0, .int .i64 0, .int .i64 0, .int .i64 0])) (by kernel_rfl) ?_; replace HK := Lib.hid (HK.out.allocRow ([.int .i64 0, .int .i64 0, .int .i64 0, .int .i64 0, .int .i64 0, .int .i64 0, .int .i64 2, .int .i64 0, .int .i64 2, .int .i64 0, .int .i64 2, .int .i64 0, .int .i64 0, .int .i64 0, .int .i64 0]) 3); generalize hgw : World.alloc _ _ = w3 at HK ⊢; clear hgw; have hc := cells_at (HK.out.rowAt 0 rfl) 3 _ rfl; rw [Addr.add_lit] at hc; have hX := (HK.out.at 0 rfl).cells)
  have hX := (HK.out.at 0 rfl).cells; replace HK := Lib.hid (HK.out.sub (L' := [(w.heap.size, pkV p a c, 40)]) (R' := []) (List.Sublist.refl _) (fun r hr => by cases hr)); go_upto_region 3 with fail
  clear hX; refine wp_region_noPanic ?_; refine wp_region_held_drew (S := fun w' => Keep w [(w.heap.size, pkV p a c, 40)] [] w') (by kernel_rfl) ?_ (fun hHeld => ?_)
  · (first | exact HK.out | exact HK.out.drew | exact HK.out.drewN _)
  replace HK := Lib.hid hHeld; refine wpAnyH_take (i := 0) (oi := ⟨some 12, _, _, _, _, _⟩) (v := ?_) rfl (by kernel_rfl) (by kernel_rfl) (by kernel_rfl) (fun _ _ _ h => h) (Or.inl ⟨by rfl, ?_⟩) (by assumption) ?_; rotate_left
  · (intro w hSw; (try dsimp only at hSw); have hX0 := (Keep.at hSw 0 rfl).cells; go_simp; try with_reducible rfl)
  try simp only [Act.put, List.setIfInBounds_toArray, List.set_cons_zero, List.set_cons_succ]
  refine wpAnyH_take (i := 1) (oi := ⟨some 13, _, _, _, _, _⟩) (v := ?_) rfl (by kernel_rfl) (by kernel_rfl) (by kernel_rfl) (fun _ _ _ h => h) (Or.inl ⟨by rfl, ?_⟩) (by assumption) ?_; rotate_left
  · (intro w hSw; (try dsimp only at hSw); have hX0 := (Keep.at hSw 0 rfl).cells; go_simp; try with_reducible rfl)
  try simp only [Act.put, List.setIfInBounds_toArray, List.set_cons_zero, List.set_cons_succ]
  refine wpAnyH_take (i := 3) (oi := ⟨some 15, _, _, _, _, _⟩) (v := ?_) rfl (by kernel_rfl) (by kernel_rfl) (by kernel_rfl) (fun _ _ _ h => h) (Or.inl ⟨by rfl, ?_⟩) (by assumption) ?_; rotate_left
  · (intro w hSw; (try dsimp only at hSw); have hX0 := (Keep.at hSw 0 rfl).cells; go_simp; try with_reducible rfl)
  try simp only [Act.put, List.setIfInBounds_toArray, List.set_cons_zero, List.set_cons_succ]
  refine wpAnyH_take (i := 4) (oi := ⟨some 16, _, _, _, _, _⟩) (v := ?_) rfl (by kernel_rfl) (by kernel_rfl) (by kernel_rfl) (fun _ _ _ h => h) (Or.inl ⟨by rfl, ?_⟩) (by assumption) ?_; rotate_left
  · (intro w hSw; (try dsimp only at hSw); have hX0 := (Keep.at hSw 0 rfl).cells; go_simp; try with_reducible rfl)
  try simp only [Act.put, List.setIfInBounds_toArray, List.set_cons_zero, List.set_cons_succ]
  refine wpAnyH_take (i := 5) (oi := ⟨some 17, _, _, _, _, _⟩) (v := ?_) rfl (by kernel_rfl) (by kernel_rfl) (by kernel_rfl) (fun _ _ _ h => h) (Or.inl ⟨by rfl, ?_⟩) (by assumption) ?_; rotate_left
  · (intro w hSw; (try dsimp only at hSw); have hX0 := (Keep.at hSw 0 rfl).cells; go_simp; try with_reducible rfl)
  try simp only [Act.put, List.setIfInBounds_toArray, List.set_cons_zero, List.set_cons_succ]
  refine wpAnyH_take (i := 6) (oi := ⟨some 18, _, _, _, _, _⟩) (v := ?_) rfl (by kernel_rfl) (by kernel_rfl) (by kernel_rfl) (fun _ _ _ h => h) (Or.inl ⟨by rfl, ?_⟩) (by assumption) ?_; rotate_left
  · (intro w hSw; (try dsimp only at hSw); have hX0 := (Keep.at hSw 0 rfl).cells; go_simp; try with_reducible rfl)
  try simp only [Act.put, List.setIfInBounds_toArray, List.set_cons_zero, List.set_cons_succ]
  refine wpAnyH_take (i := 8) (oi := ⟨some 20, _, _, _, _, _⟩) (v := ?_) rfl (by kernel_rfl) (by kernel_rfl) (by kernel_rfl) (fun _ _ _ h => h) (Or.inl ⟨by rfl, ?_⟩) (by assumption) ?_; rotate_left
  · (intro w hSw; (try dsimp only at hSw); have hX0 := (Keep.at hSw 0 rfl).cells; go_simp; try with_reducible rfl)
  try simp only [Act.put, List.setIfInBounds_toArray, List.set_cons_zero, List.set_cons_succ]
  refine wpAnyH_take (i := 9) (oi := ⟨some 21, _, _, _, _, _⟩) (v := ?_) rfl (by kernel_rfl) (by kernel_rfl) (by kernel_rfl) (fun _ _ _ h => h) (Or.inl ⟨by rfl, ?_⟩) (by assumption) ?_; rotate_left
  · (intro w hSw; (try dsimp only at hSw); have hX0 := (Keep.at hSw 0 rfl).cells; go_simp; try with_reducible rfl)
  try simp only [Act.put, List.setIfInBounds_toArray, List.set_cons_zero, List.set_cons_succ]
  refine wpAnyH_ready (rs := [2]) (by kernel_rfl) (by simp) ?_; refine AllReadyH.cons (o := ⟨some 14, _, _, _, _, _⟩) rfl (fun K hK => ?_) AllReadyH.nil; go_simp
  (go_at_call 81; refine Calls.mono (H1.out _) ?_; rintro e w9 ⟨rfl, hb1⟩; replace HK := Lib.hid (HK.out.below hb1); clear hb1; go_simp)
  refine hK.out _ _ ?_ (fun hHeld => ?_)
  · (first | exact HK.out | exact HK.out.drew | exact HK.out.drewN _)
  clear hK K hHeld; have hHeld := HK.out; try simp only [Act.put, List.setIfInBounds_toArray, List.set_cons_zero, List.set_cons_succ]
  refine wpAnyH_take (i := 7) (oi := ⟨some 19, _, _, _, _, _⟩) (v := ?_) rfl (by kernel_rfl) (by kernel_rfl) (by kernel_rfl) (fun _ _ _ h => h) (Or.inl ⟨by rfl, ?_⟩) (by assumption) ?_; rotate_left
  · (intro w hSw; (try dsimp only at hSw); have hX0 := (Keep.at hSw 0 rfl).cells; go_simp; try with_reducible rfl)
  try simp only [Act.put, List.setIfInBounds_toArray, List.set_cons_zero, List.set_cons_succ]
  refine wpAnyH_ready (rs := [10]) (by kernel_rfl) (by simp) ?_; refine AllReadyH.cons (o := ⟨some 22, _, _, _, _, _⟩) rfl (fun K hK => ?_) AllReadyH.nil; go_simp
  (go_at_call 81; refine Calls.mono (H2.out _) ?_; rintro e w9 ⟨rfl, hb1⟩; replace HK := Lib.hid (HK.out.below hb1); clear hb1; go_simp)
  refine hK.out _ _ ?_ (fun hHeld => ?_)
  · (first | exact HK.out | exact HK.out.drew | exact HK.out.drewN _)
  clear hK K hHeld; have hHeld := HK.out; try simp only [Act.put, List.setIfInBounds_toArray, List.set_cons_zero, List.set_cons_succ]
  refine wpAnyH_take (i := 11) (oi := ⟨some 23, _, _, _, _, _⟩) (v := ?_) rfl (by kernel_rfl) (by kernel_rfl) (by kernel_rfl) (fun _ _ _ h => h) (Or.inl ⟨by rfl, ?_⟩) (by assumption) ?_; rotate_left
  · (intro w hSw; (try dsimp only at hSw); have hX0 := (Keep.at hSw 0 rfl).cells; go_simp; try with_reducible rfl)
  try simp only [Act.put, List.setIfInBounds_toArray, List.set_cons_zero, List.set_cons_succ]
  refine wpAnyH_take (i := 12) (oi := ⟨some 3, _, _, _, _, _⟩) (v := ?_) rfl (by kernel_rfl) (by kernel_rfl) (by kernel_rfl) (fun _ _ _ h => h) (Or.inl ⟨by rfl, ?_⟩) (by assumption) ?_; rotate_left
  · (intro w hSw; (try dsimp only at hSw); have hX0 := (Keep.at hSw 0 rfl).cells; go_simp; try with_reducible rfl)
  try simp only [Act.put, List.setIfInBounds_toArray, List.set_cons_zero, List.set_cons_succ]
  refine wpAnyH_done (by kernel_rfl) ?_ _; refine NoPanic.normal ?_; have hX := (HK.out.at 0 rfl).cells; go_wp2_with fail
  go_ret
  exact FIN.out _ _ (by rw [ht, hfl]; push_cast; omega) HK.out.low
set_option maxRecDepth 100000 in
set_option maxHeartbeats 4000000 in
theorem first_4 (p : Pk) (a : Option Addr) (c : Nat) (w : World) (hE : Env w) (ht : p.ty = 4) : Calls Tryd.prog 65 #[.agg (pkV p a c)] w fun e w' => e = .returned (.int .i64 ((16 * p.ty + flagsN p : Nat) : Int)) ∧ Below w.heap.size w w' := by
  have HK := Lib.hid ((Keep.begin hE [] (by intro r hr; cases hr)).alloc' (pkV p a c) 40 w.heap.size rfl); obtain ⟨k0, k1, k2, k3, k4, k5, k6, k7, k8, k9, k10, k11, k12, k13, k14, k15, k16, k17, k18, k19, k20, k21, k22, k23⟩ := pk_at p a c; replace k0 : (pkV p a c)[0]? = some (.int .u8 4) := by rw [k0, ht]; rfl
  have hfl : flagsN p = 0 := by unfold flagsN; simp [ht]
  have FIN := Lib.hid (show ∀ (k : Int) (w' : World), k = ((16 * p.ty + flagsN p : Nat) : Int) → Below w.heap.size w w' → Ending.returned (.int .i64 k) = .returned (.int .i64 ((16 * p.ty + flagsN p : Nat) : Int)) ∧ Below w.heap.size w w' from by rintro k w' rfl h; exact ⟨rfl, h⟩); clear hE; go_enter Tryd.func65, Tryd.ntmps65
  go_upto_region 1 with fail
  show Code.wp _ _ _ _ (w.alloc (.cells (pkV p a c) 40)); generalize World.alloc w _ = w2 at HK ⊢; go_upto_region 2 with ((with_reducible show wpList _ _ _ (⟨some 4, .buildSlice _ _ _, _, _, _, _⟩ :: _) _ _); refine Great.wpList_buildSliceTo rfl 55 3 15 _ rfl _ rfl _ rfl Tryd.underlying55 (List.toArray ([.int .i64 0, .int .i64 0, .int .i64 0, .int .i64 0, .int .i64 0, .int .i64 0, .int .i64 2, .int .i64 0, .int .i64 2, .int .i64 0, .int .i64 2, .int .i64 0, .int .i64 0, .int .i64 0, .int .i64 0])) (by kernel_rfl) ?_; replace HK := Lib.hid (HK.out.allocRow ([.int .i64 0, .int .i64 0, .int .i64 0, .int .i64 0, .int .i64 0, .int .i64 0, .int .i64 2, .int .i64 0, .int .i64 2, .int .i64 0, .int .i64 2, .int .i64 0, .int .i64 0, .int .i64 0, .int .i64 0]) 3); generalize hgw : World.alloc _ _ = w3 at HK ⊢; clear hgw; have hc := cells_at (HK.out.rowAt 0 rfl) 4 _ rfl; rw [Addr.add_lit] at hc; have hX := (HK.out.at 0 rfl).cells)
  have hX := (HK.out.at 0 rfl).cells; go_wp2_with fail
  go_ret
  exact FIN.out _ _ (by rw [ht, hfl] <;> rfl) HK.out.low
set_option maxRecDepth 100000 in
set_option maxHeartbeats 4000000 in
theorem first_5 (p : Pk) (a : Option Addr) (c : Nat) (w : World) (hE : Env w) (ht : p.ty = 5) : Calls Tryd.prog 65 #[.agg (pkV p a c)] w fun e w' => e = .returned (.int .i64 ((16 * p.ty + flagsN p : Nat) : Int)) ∧ Below w.heap.size w w' := by
  have HK := Lib.hid ((Keep.begin hE [] (by intro r hr; cases hr)).alloc' (pkV p a c) 40 w.heap.size rfl); obtain ⟨k0, k1, k2, k3, k4, k5, k6, k7, k8, k9, k10, k11, k12, k13, k14, k15, k16, k17, k18, k19, k20, k21, k22, k23⟩ := pk_at p a c; replace k0 : (pkV p a c)[0]? = some (.int .u8 5) := by rw [k0, ht]; rfl
  have hfl : flagsN p = 0 := by unfold flagsN; simp [ht]
  have FIN := Lib.hid (show ∀ (k : Int) (w' : World), k = ((16 * p.ty + flagsN p : Nat) : Int) → Below w.heap.size w w' → Ending.returned (.int .i64 k) = .returned (.int .i64 ((16 * p.ty + flagsN p : Nat) : Int)) ∧ Below w.heap.size w w' from by rintro k w' rfl h; exact ⟨rfl, h⟩); clear hE; go_enter Tryd.func65, Tryd.ntmps65
  go_upto_region 1 with fail
  show Code.wp _ _ _ _ (w.alloc (.cells (pkV p a c) 40)); generalize World.alloc w _ = w2 at HK ⊢; go_upto_region 2 with ((with_reducible show wpList _ _ _ (⟨some 4, .buildSlice _ _ _, _, _, _, _⟩ :: _) _ _); refine Great.wpList_buildSliceTo rfl 55 3 15 _ rfl _ rfl _ rfl Tryd.underlying55 (List.toArray ([.int .i64 0, .int .i64 0, .int .i64 0, .int .i64 0, .int .i64 0, .int .i64 0, .int .i64 2, .int .i64 0, .int .i64 2, .int .i64 0, .int .i64 2, .int .i64 0, .int .i64 0, .int .i64 0, .int .i64 0])) (by kernel_rfl) ?_; replace HK := Lib.hid (HK.out.allocRow ([.int .i64 0, .int .i64 0, .int .i64 0, .int .i64 0, .int .i64 0, .int .i64 0, .int .i64 2, .int .i64 0, .int .i64 2, .int .i64 0, .int .i64 2, .int .i64 0, .int .i64 0, .int .i64 0, .int .i64 0]) 3); generalize hgw : World.alloc _ _ = w3 at HK ⊢; clear hgw; have hc := cells_at (HK.out.rowAt 0 rfl) 5 _ rfl; rw [Addr.add_lit] at hc; have hX := (HK.out.at 0 rfl).cells)
  have hX := (HK.out.at 0 rfl).cells; go_wp2_with fail
  go_ret
  exact FIN.out _ _ (by rw [ht, hfl] <;> rfl) HK.out.low
set_option maxRecDepth 100000 in
set_option maxHeartbeats 4000000 in
theorem first_6 (p : Pk) (a : Option Addr) (c : Nat) (w : World) (hE : Env w) (ht : p.ty = 6) : Calls Tryd.prog 65 #[.agg (pkV p a c)] w fun e w' => e = .returned (.int .i64 ((16 * p.ty + flagsN p : Nat) : Int)) ∧ Below w.heap.size w w' := by
  have HK := Lib.hid ((Keep.begin hE [] (by intro r hr; cases hr)).alloc' (pkV p a c) 40 w.heap.size rfl); obtain ⟨k0, k1, k2, k3, k4, k5, k6, k7, k8, k9, k10, k11, k12, k13, k14, k15, k16, k17, k18, k19, k20, k21, k22, k23⟩ := pk_at p a c; replace k0 : (pkV p a c)[0]? = some (.int .u8 6) := by rw [k0, ht]; rfl
  have hfl : flagsN p = 2 := by unfold flagsN; simp [ht]
  have FIN := Lib.hid (show ∀ (k : Int) (w' : World), k = ((16 * p.ty + flagsN p : Nat) : Int) → Below w.heap.size w w' → Ending.returned (.int .i64 k) = .returned (.int .i64 ((16 * p.ty + flagsN p : Nat) : Int)) ∧ Below w.heap.size w w' from by rintro k w' rfl h; exact ⟨rfl, h⟩); clear hE; go_enter Tryd.func65, Tryd.ntmps65
  go_upto_region 1 with fail
  show Code.wp _ _ _ _ (w.alloc (.cells (pkV p a c) 40)); generalize World.alloc w _ = w2 at HK ⊢; go_upto_region 2 with ((with_reducible show wpList _ _ _ (⟨some 4, .buildSlice _ _ _, _, _, _, _⟩ :: _) _ _); refine Great.wpList_buildSliceTo rfl 55 3 15 _ rfl _ rfl _ rfl Tryd.underlying55 (List.toArray ([.int .i64 0, .int .i64 0, .int .i64 0, .int .i64 0, .int .i64 0, .int .i64 0, .int .i64 2, .int .i64 0, .int .i64 2, .int .i64 0, .int .i64 2, .int .i64 0, .int .i64 0, .int .i64 0, .int .i64 0])) (by kernel_rfl) ?_; replace HK := Lib.hid (HK.out.allocRow ([.int .i64 0, .int .i64 0, .int .i64 0, .int .i64 0, .int .i64 0, .int .i64 0, .int .i64 2, .int .i64 0, .int .i64 2, .int .i64 0, .int .i64 2, .int .i64 0, .int .i64 0, .int .i64 0, .int .i64 0]) 3); generalize hgw : World.alloc _ _ = w3 at HK ⊢; clear hgw; have hc := cells_at (HK.out.rowAt 0 rfl) 6 _ rfl; rw [Addr.add_lit] at hc; have hX := (HK.out.at 0 rfl).cells)
  have hX := (HK.out.at 0 rfl).cells; go_wp2_with fail
  go_ret
  exact FIN.out _ _ (by rw [ht, hfl] <;> rfl) HK.out.low
set_option maxRecDepth 100000 in
set_option maxHeartbeats 4000000 in
theorem first_7 (p : Pk) (a : Option Addr) (c : Nat) (w : World) (hE : Env w) (ht : p.ty = 7) : Calls Tryd.prog 65 #[.agg (pkV p a c)] w fun e w' => e = .returned (.int .i64 ((16 * p.ty + flagsN p : Nat) : Int)) ∧ Below w.heap.size w w' := by
  have HK := Lib.hid ((Keep.begin hE [] (by intro r hr; cases hr)).alloc' (pkV p a c) 40 w.heap.size rfl); obtain ⟨k0, k1, k2, k3, k4, k5, k6, k7, k8, k9, k10, k11, k12, k13, k14, k15, k16, k17, k18, k19, k20, k21, k22, k23⟩ := pk_at p a c; replace k0 : (pkV p a c)[0]? = some (.int .u8 7) := by rw [k0, ht]; rfl
  have hfl : flagsN p = 0 := by unfold flagsN; simp [ht]
  have FIN := Lib.hid (show ∀ (k : Int) (w' : World), k = ((16 * p.ty + flagsN p : Nat) : Int) → Below w.heap.size w w' → Ending.returned (.int .i64 k) = .returned (.int .i64 ((16 * p.ty + flagsN p : Nat) : Int)) ∧ Below w.heap.size w w' from by rintro k w' rfl h; exact ⟨rfl, h⟩); clear hE; go_enter Tryd.func65, Tryd.ntmps65
  go_upto_region 1 with fail
  show Code.wp _ _ _ _ (w.alloc (.cells (pkV p a c) 40)); generalize World.alloc w _ = w2 at HK ⊢; go_upto_region 2 with ((with_reducible show wpList _ _ _ (⟨some 4, .buildSlice _ _ _, _, _, _, _⟩ :: _) _ _); refine Great.wpList_buildSliceTo rfl 55 3 15 _ rfl _ rfl _ rfl Tryd.underlying55 (List.toArray ([.int .i64 0, .int .i64 0, .int .i64 0, .int .i64 0, .int .i64 0, .int .i64 0, .int .i64 2, .int .i64 0, .int .i64 2, .int .i64 0, .int .i64 2, .int .i64 0, .int .i64 0, .int .i64 0, .int .i64 0])) (by kernel_rfl) ?_; replace HK := Lib.hid (HK.out.allocRow ([.int .i64 0, .int .i64 0, .int .i64 0, .int .i64 0, .int .i64 0, .int .i64 0, .int .i64 2, .int .i64 0, .int .i64 2, .int .i64 0, .int .i64 2, .int .i64 0, .int .i64 0, .int .i64 0, .int .i64 0]) 3); generalize hgw : World.alloc _ _ = w3 at HK ⊢; clear hgw; have hc := cells_at (HK.out.rowAt 0 rfl) 7 _ rfl; rw [Addr.add_lit] at hc; have hX := (HK.out.at 0 rfl).cells)
  have hX := (HK.out.at 0 rfl).cells; go_wp2_with fail
  go_ret
  exact FIN.out _ _ (by rw [ht, hfl] <;> rfl) HK.out.low
set_option maxRecDepth 100000 in
set_option maxHeartbeats 4000000 in
theorem first_8 (p : Pk) (a : Option Addr) (c : Nat) (w : World) (hE : Env w) (ht : p.ty = 8) : Calls Tryd.prog 65 #[.agg (pkV p a c)] w fun e w' => e = .returned (.int .i64 ((16 * p.ty + flagsN p : Nat) : Int)) ∧ Below w.heap.size w w' := by
  have HK := Lib.hid ((Keep.begin hE [] (by intro r hr; cases hr)).alloc' (pkV p a c) 40 w.heap.size rfl); obtain ⟨k0, k1, k2, k3, k4, k5, k6, k7, k8, k9, k10, k11, k12, k13, k14, k15, k16, k17, k18, k19, k20, k21, k22, k23⟩ := pk_at p a c; replace k0 : (pkV p a c)[0]? = some (.int .u8 8) := by rw [k0, ht]; rfl
  have hfl : flagsN p = 2 := by unfold flagsN; simp [ht]
  have FIN := Lib.hid (show ∀ (k : Int) (w' : World), k = ((16 * p.ty + flagsN p : Nat) : Int) → Below w.heap.size w w' → Ending.returned (.int .i64 k) = .returned (.int .i64 ((16 * p.ty + flagsN p : Nat) : Int)) ∧ Below w.heap.size w w' from by rintro k w' rfl h; exact ⟨rfl, h⟩); clear hE; go_enter Tryd.func65, Tryd.ntmps65
  go_upto_region 1 with fail
  show Code.wp _ _ _ _ (w.alloc (.cells (pkV p a c) 40)); generalize World.alloc w _ = w2 at HK ⊢; go_upto_region 2 with ((with_reducible show wpList _ _ _ (⟨some 4, .buildSlice _ _ _, _, _, _, _⟩ :: _) _ _); refine Great.wpList_buildSliceTo rfl 55 3 15 _ rfl _ rfl _ rfl Tryd.underlying55 (List.toArray ([.int .i64 0, .int .i64 0, .int .i64 0, .int .i64 0, .int .i64 0, .int .i64 0, .int .i64 2, .int .i64 0, .int .i64 2, .int .i64 0, .int .i64 2, .int .i64 0, .int .i64 0, .int .i64 0, .int .i64 0])) (by kernel_rfl) ?_; replace HK := Lib.hid (HK.out.allocRow ([.int .i64 0, .int .i64 0, .int .i64 0, .int .i64 0, .int .i64 0, .int .i64 0, .int .i64 2, .int .i64 0, .int .i64 2, .int .i64 0, .int .i64 2, .int .i64 0, .int .i64 0, .int .i64 0, .int .i64 0]) 3); generalize hgw : World.alloc _ _ = w3 at HK ⊢; clear hgw; have hc := cells_at (HK.out.rowAt 0 rfl) 8 _ rfl; rw [Addr.add_lit] at hc; have hX := (HK.out.at 0 rfl).cells)
  have hX := (HK.out.at 0 rfl).cells; go_wp2_with fail
  go_ret
  exact FIN.out _ _ (by rw [ht, hfl] <;> rfl) HK.out.low
set_option maxRecDepth 100000 in
set_option maxHeartbeats 4000000 in
theorem first_9 (p : Pk) (a : Option Addr) (c : Nat) (w : World) (hE : Env w) (ht : p.ty = 9) : Calls Tryd.prog 65 #[.agg (pkV p a c)] w fun e w' => e = .returned (.int .i64 ((16 * p.ty + flagsN p : Nat) : Int)) ∧ Below w.heap.size w w' := by
  have HK := Lib.hid ((Keep.begin hE [] (by intro r hr; cases hr)).alloc' (pkV p a c) 40 w.heap.size rfl); obtain ⟨k0, k1, k2, k3, k4, k5, k6, k7, k8, k9, k10, k11, k12, k13, k14, k15, k16, k17, k18, k19, k20, k21, k22, k23⟩ := pk_at p a c; replace k0 : (pkV p a c)[0]? = some (.int .u8 9) := by rw [k0, ht]; rfl
  have hfl : flagsN p = 0 := by unfold flagsN; simp [ht]
  have FIN := Lib.hid (show ∀ (k : Int) (w' : World), k = ((16 * p.ty + flagsN p : Nat) : Int) → Below w.heap.size w w' → Ending.returned (.int .i64 k) = .returned (.int .i64 ((16 * p.ty + flagsN p : Nat) : Int)) ∧ Below w.heap.size w w' from by rintro k w' rfl h; exact ⟨rfl, h⟩); clear hE; go_enter Tryd.func65, Tryd.ntmps65
  go_upto_region 1 with fail
  show Code.wp _ _ _ _ (w.alloc (.cells (pkV p a c) 40)); generalize World.alloc w _ = w2 at HK ⊢; go_upto_region 2 with ((with_reducible show wpList _ _ _ (⟨some 4, .buildSlice _ _ _, _, _, _, _⟩ :: _) _ _); refine Great.wpList_buildSliceTo rfl 55 3 15 _ rfl _ rfl _ rfl Tryd.underlying55 (List.toArray ([.int .i64 0, .int .i64 0, .int .i64 0, .int .i64 0, .int .i64 0, .int .i64 0, .int .i64 2, .int .i64 0, .int .i64 2, .int .i64 0, .int .i64 2, .int .i64 0, .int .i64 0, .int .i64 0, .int .i64 0])) (by kernel_rfl) ?_; replace HK := Lib.hid (HK.out.allocRow ([.int .i64 0, .int .i64 0, .int .i64 0, .int .i64 0, .int .i64 0, .int .i64 0, .int .i64 2, .int .i64 0, .int .i64 2, .int .i64 0, .int .i64 2, .int .i64 0, .int .i64 0, .int .i64 0, .int .i64 0]) 3); generalize hgw : World.alloc _ _ = w3 at HK ⊢; clear hgw; have hc := cells_at (HK.out.rowAt 0 rfl) 9 _ rfl; rw [Addr.add_lit] at hc; have hX := (HK.out.at 0 rfl).cells)
  have hX := (HK.out.at 0 rfl).cells; go_wp2_with fail
  go_ret
  exact FIN.out _ _ (by rw [ht, hfl] <;> rfl) HK.out.low
set_option maxRecDepth 100000 in
set_option maxHeartbeats 4000000 in
theorem first_10 (p : Pk) (a : Option Addr) (c : Nat) (w : World) (hE : Env w) (ht : p.ty = 10) : Calls Tryd.prog 65 #[.agg (pkV p a c)] w fun e w' => e = .returned (.int .i64 ((16 * p.ty + flagsN p : Nat) : Int)) ∧ Below w.heap.size w w' := by
  have HK := Lib.hid ((Keep.begin hE [] (by intro r hr; cases hr)).alloc' (pkV p a c) 40 w.heap.size rfl); obtain ⟨k0, k1, k2, k3, k4, k5, k6, k7, k8, k9, k10, k11, k12, k13, k14, k15, k16, k17, k18, k19, k20, k21, k22, k23⟩ := pk_at p a c; replace k0 : (pkV p a c)[0]? = some (.int .u8 10) := by rw [k0, ht]; rfl
  have hfl : flagsN p = 2 := by unfold flagsN; simp [ht]
  have FIN := Lib.hid (show ∀ (k : Int) (w' : World), k = ((16 * p.ty + flagsN p : Nat) : Int) → Below w.heap.size w w' → Ending.returned (.int .i64 k) = .returned (.int .i64 ((16 * p.ty + flagsN p : Nat) : Int)) ∧ Below w.heap.size w w' from by rintro k w' rfl h; exact ⟨rfl, h⟩); clear hE; go_enter Tryd.func65, Tryd.ntmps65
  go_upto_region 1 with fail
  show Code.wp _ _ _ _ (w.alloc (.cells (pkV p a c) 40)); generalize World.alloc w _ = w2 at HK ⊢; go_upto_region 2 with ((with_reducible show wpList _ _ _ (⟨some 4, .buildSlice _ _ _, _, _, _, _⟩ :: _) _ _); refine Great.wpList_buildSliceTo rfl 55 3 15 _ rfl _ rfl _ rfl Tryd.underlying55 (List.toArray ([.int .i64 0, .int .i64 0, .int .i64 0, .int .i64 0, .int .i64 0, .int .i64 0, .int .i64 2, .int .i64 0, .int .i64 2, .int .i64 0, .int .i64 2, .int .i64 0, .int .i64 0, .int .i64 0, .int .i64 0])) (by kernel_rfl) ?_; replace HK := Lib.hid (HK.out.allocRow ([.int .i64 0, .int .i64 0, .int .i64 0, .int .i64 0, .int .i64 0, .int .i64 0, .int .i64 2, .int .i64 0, .int .i64 2, .int .i64 0, .int .i64 2, .int .i64 0, .int .i64 0, .int .i64 0, .int .i64 0]) 3); generalize hgw : World.alloc _ _ = w3 at HK ⊢; clear hgw; have hc := cells_at (HK.out.rowAt 0 rfl) 10 _ rfl; rw [Addr.add_lit] at hc; have hX := (HK.out.at 0 rfl).cells)
  have hX := (HK.out.at 0 rfl).cells; go_wp2_with fail
  go_ret
  exact FIN.out _ _ (by rw [ht, hfl] <;> rfl) HK.out.low
set_option maxRecDepth 100000 in
set_option maxHeartbeats 4000000 in
theorem first_11 (p : Pk) (a : Option Addr) (c : Nat) (w : World) (hE : Env w) (ht : p.ty = 11) : Calls Tryd.prog 65 #[.agg (pkV p a c)] w fun e w' => e = .returned (.int .i64 ((16 * p.ty + flagsN p : Nat) : Int)) ∧ Below w.heap.size w w' := by
  have HK := Lib.hid ((Keep.begin hE [] (by intro r hr; cases hr)).alloc' (pkV p a c) 40 w.heap.size rfl); obtain ⟨k0, k1, k2, k3, k4, k5, k6, k7, k8, k9, k10, k11, k12, k13, k14, k15, k16, k17, k18, k19, k20, k21, k22, k23⟩ := pk_at p a c; replace k0 : (pkV p a c)[0]? = some (.int .u8 11) := by rw [k0, ht]; rfl
  have hfl : flagsN p = 0 := by unfold flagsN; simp [ht]
  have FIN := Lib.hid (show ∀ (k : Int) (w' : World), k = ((16 * p.ty + flagsN p : Nat) : Int) → Below w.heap.size w w' → Ending.returned (.int .i64 k) = .returned (.int .i64 ((16 * p.ty + flagsN p : Nat) : Int)) ∧ Below w.heap.size w w' from by rintro k w' rfl h; exact ⟨rfl, h⟩); clear hE; go_enter Tryd.func65, Tryd.ntmps65
  go_upto_region 1 with fail
  show Code.wp _ _ _ _ (w.alloc (.cells (pkV p a c) 40)); generalize World.alloc w _ = w2 at HK ⊢; go_upto_region 2 with ((with_reducible show wpList _ _ _ (⟨some 4, .buildSlice _ _ _, _, _, _, _⟩ :: _) _ _); refine Great.wpList_buildSliceTo rfl 55 3 15 _ rfl _ rfl _ rfl Tryd.underlying55 (List.toArray ([.int .i64 0, .int .i64 0, .int .i64 0, .int .i64 0, .int .i64 0, .int .i64 0, .int .i64 2, .int .i64 0, .int .i64 2, .int .i64 0, .int .i64 2, .int .i64 0, .int .i64 0, .int .i64 0, .int .i64 0])) (by kernel_rfl) ?_; replace HK := Lib.hid (HK.out.allocRow ([.int .i64 0, .int .i64 0, .int .i64 0, .int .i64 0, .int .i64 0, .int .i64 0, .int .i64 2, .int .i64 0, .int .i64 2, .int .i64 0, .int .i64 2, .int .i64 0, .int .i64 0, .int .i64 0, .int .i64 0]) 3); generalize hgw : World.alloc _ _ = w3 at HK ⊢; clear hgw; have hc := cells_at (HK.out.rowAt 0 rfl) 11 _ rfl; rw [Addr.add_lit] at hc; have hX := (HK.out.at 0 rfl).cells)
  have hX := (HK.out.at 0 rfl).cells; go_wp2_with fail
  go_ret
  exact FIN.out _ _ (by rw [ht, hfl] <;> rfl) HK.out.low
set_option maxRecDepth 100000 in
set_option maxHeartbeats 4000000 in
theorem first_12 (p : Pk) (a : Option Addr) (c : Nat) (w : World) (hE : Env w) (ht : p.ty = 12) : Calls Tryd.prog 65 #[.agg (pkV p a c)] w fun e w' => e = .returned (.int .i64 ((16 * p.ty + flagsN p : Nat) : Int)) ∧ Below w.heap.size w w' := by
  have HK := Lib.hid ((Keep.begin hE [] (by intro r hr; cases hr)).alloc' (pkV p a c) 40 w.heap.size rfl); obtain ⟨k0, k1, k2, k3, k4, k5, k6, k7, k8, k9, k10, k11, k12, k13, k14, k15, k16, k17, k18, k19, k20, k21, k22, k23⟩ := pk_at p a c; replace k0 : (pkV p a c)[0]? = some (.int .u8 12) := by rw [k0, ht]; rfl
  have hfl : flagsN p = 0 := by unfold flagsN; simp [ht]
  have FIN := Lib.hid (show ∀ (k : Int) (w' : World), k = ((16 * p.ty + flagsN p : Nat) : Int) → Below w.heap.size w w' → Ending.returned (.int .i64 k) = .returned (.int .i64 ((16 * p.ty + flagsN p : Nat) : Int)) ∧ Below w.heap.size w w' from by rintro k w' rfl h; exact ⟨rfl, h⟩); clear hE; go_enter Tryd.func65, Tryd.ntmps65
  go_upto_region 1 with fail
  show Code.wp _ _ _ _ (w.alloc (.cells (pkV p a c) 40)); generalize World.alloc w _ = w2 at HK ⊢; go_upto_region 2 with ((with_reducible show wpList _ _ _ (⟨some 4, .buildSlice _ _ _, _, _, _, _⟩ :: _) _ _); refine Great.wpList_buildSliceTo rfl 55 3 15 _ rfl _ rfl _ rfl Tryd.underlying55 (List.toArray ([.int .i64 0, .int .i64 0, .int .i64 0, .int .i64 0, .int .i64 0, .int .i64 0, .int .i64 2, .int .i64 0, .int .i64 2, .int .i64 0, .int .i64 2, .int .i64 0, .int .i64 0, .int .i64 0, .int .i64 0])) (by kernel_rfl) ?_; replace HK := Lib.hid (HK.out.allocRow ([.int .i64 0, .int .i64 0, .int .i64 0, .int .i64 0, .int .i64 0, .int .i64 0, .int .i64 2, .int .i64 0, .int .i64 2, .int .i64 0, .int .i64 2, .int .i64 0, .int .i64 0, .int .i64 0, .int .i64 0]) 3); generalize hgw : World.alloc _ _ = w3 at HK ⊢; clear hgw; have hc := cells_at (HK.out.rowAt 0 rfl) 12 _ rfl; rw [Addr.add_lit] at hc; have hX := (HK.out.at 0 rfl).cells)
  have hX := (HK.out.at 0 rfl).cells; go_wp2_with fail
  go_ret
  exact FIN.out _ _ (by rw [ht, hfl] <;> rfl) HK.out.low
set_option maxRecDepth 100000 in
set_option maxHeartbeats 4000000 in
theorem first_13 (p : Pk) (a : Option Addr) (c : Nat) (w : World) (hE : Env w) (ht : p.ty = 13) : Calls Tryd.prog 65 #[.agg (pkV p a c)] w fun e w' => e = .returned (.int .i64 ((16 * p.ty + flagsN p : Nat) : Int)) ∧ Below w.heap.size w w' := by
  have HK := Lib.hid ((Keep.begin hE [] (by intro r hr; cases hr)).alloc' (pkV p a c) 40 w.heap.size rfl); obtain ⟨k0, k1, k2, k3, k4, k5, k6, k7, k8, k9, k10, k11, k12, k13, k14, k15, k16, k17, k18, k19, k20, k21, k22, k23⟩ := pk_at p a c; replace k0 : (pkV p a c)[0]? = some (.int .u8 13) := by rw [k0, ht]; rfl
  have hfl : flagsN p = 0 := by unfold flagsN; simp [ht]
  have FIN := Lib.hid (show ∀ (k : Int) (w' : World), k = ((16 * p.ty + flagsN p : Nat) : Int) → Below w.heap.size w w' → Ending.returned (.int .i64 k) = .returned (.int .i64 ((16 * p.ty + flagsN p : Nat) : Int)) ∧ Below w.heap.size w w' from by rintro k w' rfl h; exact ⟨rfl, h⟩); clear hE; go_enter Tryd.func65, Tryd.ntmps65
  go_upto_region 1 with fail
  show Code.wp _ _ _ _ (w.alloc (.cells (pkV p a c) 40)); generalize World.alloc w _ = w2 at HK ⊢; go_upto_region 2 with ((with_reducible show wpList _ _ _ (⟨some 4, .buildSlice _ _ _, _, _, _, _⟩ :: _) _ _); refine Great.wpList_buildSliceTo rfl 55 3 15 _ rfl _ rfl _ rfl Tryd.underlying55 (List.toArray ([.int .i64 0, .int .i64 0, .int .i64 0, .int .i64 0, .int .i64 0, .int .i64 0, .int .i64 2, .int .i64 0, .int .i64 2, .int .i64 0, .int .i64 2, .int .i64 0, .int .i64 0, .int .i64 0, .int .i64 0])) (by kernel_rfl) ?_; replace HK := Lib.hid (HK.out.allocRow ([.int .i64 0, .int .i64 0, .int .i64 0, .int .i64 0, .int .i64 0, .int .i64 0, .int .i64 2, .int .i64 0, .int .i64 2, .int .i64 0, .int .i64 2, .int .i64 0, .int .i64 0, .int .i64 0, .int .i64 0]) 3); generalize hgw : World.alloc _ _ = w3 at HK ⊢; clear hgw; have hc := cells_at (HK.out.rowAt 0 rfl) 13 _ rfl; rw [Addr.add_lit] at hc; have hX := (HK.out.at 0 rfl).cells)
  have hX := (HK.out.at 0 rfl).cells; go_wp2_with fail
  go_ret
  exact FIN.out _ _ (by rw [ht, hfl] <;> rfl) HK.out.low
set_option maxRecDepth 100000 in
set_option maxHeartbeats 4000000 in
theorem first_14 (p : Pk) (a : Option Addr) (c : Nat) (w : World) (hE : Env w) (ht : p.ty = 14) : Calls Tryd.prog 65 #[.agg (pkV p a c)] w fun e w' => e = .returned (.int .i64 ((16 * p.ty + flagsN p : Nat) : Int)) ∧ Below w.heap.size w w' := by
  have HK := Lib.hid ((Keep.begin hE [] (by intro r hr; cases hr)).alloc' (pkV p a c) 40 w.heap.size rfl); obtain ⟨k0, k1, k2, k3, k4, k5, k6, k7, k8, k9, k10, k11, k12, k13, k14, k15, k16, k17, k18, k19, k20, k21, k22, k23⟩ := pk_at p a c; replace k0 : (pkV p a c)[0]? = some (.int .u8 14) := by rw [k0, ht]; rfl
  have hfl : flagsN p = 0 := by unfold flagsN; simp [ht]
  have FIN := Lib.hid (show ∀ (k : Int) (w' : World), k = ((16 * p.ty + flagsN p : Nat) : Int) → Below w.heap.size w w' → Ending.returned (.int .i64 k) = .returned (.int .i64 ((16 * p.ty + flagsN p : Nat) : Int)) ∧ Below w.heap.size w w' from by rintro k w' rfl h; exact ⟨rfl, h⟩); clear hE; go_enter Tryd.func65, Tryd.ntmps65
  go_upto_region 1 with fail
  show Code.wp _ _ _ _ (w.alloc (.cells (pkV p a c) 40)); generalize World.alloc w _ = w2 at HK ⊢; go_upto_region 2 with ((with_reducible show wpList _ _ _ (⟨some 4, .buildSlice _ _ _, _, _, _, _⟩ :: _) _ _); refine Great.wpList_buildSliceTo rfl 55 3 15 _ rfl _ rfl _ rfl Tryd.underlying55 (List.toArray ([.int .i64 0, .int .i64 0, .int .i64 0, .int .i64 0, .int .i64 0, .int .i64 0, .int .i64 2, .int .i64 0, .int .i64 2, .int .i64 0, .int .i64 2, .int .i64 0, .int .i64 0, .int .i64 0, .int .i64 0])) (by kernel_rfl) ?_; replace HK := Lib.hid (HK.out.allocRow ([.int .i64 0, .int .i64 0, .int .i64 0, .int .i64 0, .int .i64 0, .int .i64 0, .int .i64 2, .int .i64 0, .int .i64 2, .int .i64 0, .int .i64 2, .int .i64 0, .int .i64 0, .int .i64 0, .int .i64 0]) 3); generalize hgw : World.alloc _ _ = w3 at HK ⊢; clear hgw; have hc := cells_at (HK.out.rowAt 0 rfl) 14 _ rfl; rw [Addr.add_lit] at hc; have hX := (HK.out.at 0 rfl).cells)
  have hX := (HK.out.at 0 rfl).cells; go_wp2_with fail
  go_ret
  exact FIN.out _ _ (by rw [ht, hfl] <;> rfl) HK.out.low
theorem ref04_First (p : Pk) (a : Option Addr) (c : Nat) (w : World) (hE : Env w) (h : 1 ≤ p.ty ∧ p.ty ≤ 14) (hq : p.ty = 3 → p.qos ≤ 2) : Calls Tryd.prog 65 #[.agg (pkV p a c)] w fun e w' => e = .returned (.int .i64 ((16 * p.ty + flagsN p : Nat) : Int)) ∧ Below w.heap.size w w' := by
  have ht : p.ty = 1 ∨ p.ty = 2 ∨ p.ty = 3 ∨ p.ty = 4 ∨ p.ty = 5 ∨ p.ty = 6 ∨ p.ty = 7 ∨ p.ty = 8 ∨ p.ty = 9 ∨ p.ty = 10 ∨ p.ty = 11 ∨ p.ty = 12 ∨ p.ty = 13 ∨ p.ty = 14 := by omega
  rcases ht with h | h | h | h | h | h | h | h | h | h | h | h | h | h
  · exact first_1 p a c w hE h
  · exact first_2 p a c w hE h
  · exact first_3 p a c w hE h (hq h)
  · exact first_4 p a c w hE h
  · exact first_5 p a c w hE h
  · exact first_6 p a c w hE h
  · exact first_7 p a c w hE h
  · exact first_8 p a c w hE h
  · exact first_9 p a c w hE h
  · exact first_10 p a c w hE h
  · exact first_11 p a c w hE h
  · exact first_12 p a c w hE h
  · exact first_13 p a c w hE h
  · exact first_14 p a c w hE h
end Go.Proofs.YtnnpokndajpkiaaDoor
