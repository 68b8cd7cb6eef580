import Derived.Test.YtnnpokndajpkiaaGreatDoorJoinD
import Derived.Test.YtnnpokndajpkiaaGreatDoorPacketSame
namespace Go.Proofs.YtnnpokndajpkiaaGreatDoor
open Go.RowKit
theorem al_below {w w' : World} {o : Obj} (h : w.alloc o = w') : Below w.heap.size w w' := h ▸ ((Below.refl _ _).alloc (Nat.le_refl _) _)
theorem newsL {w w' : World} {xs : List Value} {T : TypeId} (h : w.alloc (.cells xs.toArray T) = w') : CellsA w' (some ⟨w.heap.size, 0, none⟩) xs := h ▸ cells_new
theorem OnlyU.size {B : Nat} {w w' : World} (h : OnlyU B w w') : w.heap.size ≤ w'.heap.size := Only.size h
theorem flag_bits (d r : Bool) (q : Nat) (hq : q ≤ 2) : bits BinOp.or IntKind.u8 (bits BinOp.or IntKind.u8 (bitI d 8) (IntKind.u8.wrap ((q : Int) * 2))) (bitI r 1) = ((bitN d 8 + 2 * q + bitN r 1 : Nat) : Int) := by
  have h : q = 0 ∨ q = 1 ∨ q = 2 := by omega
  rcases h with rfl | rfl | rfl <;> cases d <;> cases r <;> rfl
set_option maxRecDepth 100000 in
set_option maxHeartbeats 2000000 in
theorem write_flags3 (p : Pk) (a : Option Addr) (c : Nat) (w : World) (hq : p.qos ≤ 2) (h3 : p.ty = 3) : Calls Tryz.prog 113 #[.agg (pkV p a c)] w fun e w' => e = .returned (.int .u8 (flagsN p : Int)) ∧ Below w.heap.size w w' := by
  have HB := Lib.hid (BoxAt.new w (pkV p a c) 33); have HO := Lib.hid (show Out (w.alloc (.cells (pkV p a c) 33)) w.heap.size (.slice none 0 0) [] from World.ownsRow_nil _ _ _ _); have HU := Lib.hid (show OnlyU w.heap.size w (w.alloc (.cells (pkV p a c) 33)) from OnlyU.of_below ((Below.refl _ _).alloc (Nat.le_refl _) _)); have HF := Lib.hid (show flagsN p = bitN p.dup 8 + 2 * p.qos + bitN p.ret 1 by unfold flagsN; rw [if_pos h3]); have HQ := Lib.hid (flag_bits p.dup p.ret p.qos hq); have e3 : ((p.ty : Int) == 3) = true := by rw [h3]; rfl
  obtain ⟨k0, k1, k2, k3, k4, k5, k6, k7, k8, k9, k10, k11, k12, k13, k14, k15, k16, k17, k18, k19, k20, k21, k22, k23⟩ := pk_at p a c; go_enter Tryz.func113, Tryz.ntmps113
  go_wp2_with fail
  refine wp_region_noPanic ?_; refine wp_region_held_drew (S := fun w' => BoxAt w' w.heap.size (pkV p a c) 33) (by kernel_rfl) ?_ (fun hHeld => ?_)
  · (first | exact HB.out | exact HB.out.below (below_draws (n := 1) rfl))
  replace HB := Lib.hid hHeld; replace HO := Lib.hid (show Out (World.drew _) _ _ _ from HO.out.below (below_draws (n := 1) rfl)); replace HU := Lib.hid (show OnlyU _ _ (World.drew _) from HU.out.then (below_draws (n := 1) rfl)); generalize World.drew _ = wd at HB HO HU hHeld ⊢; refine wpAnyH_take (i := 0) (oi := ⟨some 7, _, _, _, _, _⟩) (v := ?_) rfl (by kernel_rfl) (by kernel_rfl) (by kernel_rfl) (fun _ _ _ h => h) (Or.inl ⟨by rfl, ?_⟩) (by assumption) ?_; rotate_left
  · (intro w hSw; (try dsimp only at hSw); have hXw := BoxAt.cells hSw; go_simp; try with_reducible rfl)
  try simp only [Act.put, List.setIfInBounds_toArray, List.set_cons_zero, List.set_cons_succ]
  refine wpAnyH_take (i := 1) (oi := ⟨some 8, _, _, _, _, _⟩) (v := ?_) rfl (by kernel_rfl) (by kernel_rfl) (by kernel_rfl) (fun _ _ _ h => h) (Or.inl ⟨by rfl, ?_⟩) (by assumption) ?_; rotate_left
  · (intro w hSw; (try dsimp only at hSw); have hXw := BoxAt.cells hSw; go_simp; try with_reducible rfl)
  try simp only [Act.put, List.setIfInBounds_toArray, List.set_cons_zero, List.set_cons_succ]
  refine wpAnyH_take (i := 3) (oi := ⟨some 10, _, _, _, _, _⟩) (v := ?_) rfl (by kernel_rfl) (by kernel_rfl) (by kernel_rfl) (fun _ _ _ h => h) (Or.inl ⟨by rfl, ?_⟩) (by assumption) ?_; rotate_left
  · (intro w hSw; (try dsimp only at hSw); have hXw := BoxAt.cells hSw; go_simp; try with_reducible rfl)
  try simp only [Act.put, List.setIfInBounds_toArray, List.set_cons_zero, List.set_cons_succ]
  refine wpAnyH_take (i := 4) (oi := ⟨some 11, _, _, _, _, _⟩) (v := ?_) rfl (by kernel_rfl) (by kernel_rfl) (by kernel_rfl) (fun _ _ _ h => h) (Or.inl ⟨by rfl, ?_⟩) (by assumption) ?_; rotate_left
  · (intro w hSw; (try dsimp only at hSw); have hXw := BoxAt.cells hSw; go_simp; try with_reducible rfl)
  try simp only [Act.put, List.setIfInBounds_toArray, List.set_cons_zero, List.set_cons_succ]
  refine wpAnyH_take (i := 5) (oi := ⟨some 12, _, _, _, _, _⟩) (v := ?_) rfl (by kernel_rfl) (by kernel_rfl) (by kernel_rfl) (fun _ _ _ h => h) (Or.inl ⟨by rfl, ?_⟩) (by assumption) ?_; rotate_left
  · (intro w hSw; (try dsimp only at hSw); have hXw := BoxAt.cells hSw; go_simp; try with_reducible rfl)
  try simp only [Act.put, List.setIfInBounds_toArray, List.set_cons_zero, List.set_cons_succ]
  refine wpAnyH_take (i := 7) (oi := ⟨some 14, _, _, _, _, _⟩) (v := ?_) rfl (by kernel_rfl) (by kernel_rfl) (by kernel_rfl) (fun _ _ _ h => h) (Or.inl ⟨by rfl, ?_⟩) (by assumption) ?_; rotate_left
  · (intro w hSw; (try dsimp only at hSw); have hXw := BoxAt.cells hSw; go_simp; try with_reducible rfl)
  try simp only [Act.put, List.setIfInBounds_toArray, List.set_cons_zero, List.set_cons_succ]
  refine wpAnyH_take (i := 8) (oi := ⟨some 15, _, _, _, _, _⟩) (v := ?_) rfl (by kernel_rfl) (by kernel_rfl) (by kernel_rfl) (fun _ _ _ h => h) (Or.inl ⟨by rfl, ?_⟩) (by assumption) ?_; rotate_left
  · (intro w hSw; (try dsimp only at hSw); have hXw := BoxAt.cells hSw; go_simp; try with_reducible rfl)
  try simp only [Act.put, List.setIfInBounds_toArray, List.set_cons_zero, List.set_cons_succ]
  refine wpAnyH_ready (rs := [2]) (by kernel_rfl) (by simp) ?_; refine AllReadyH.cons (o := ⟨some 9, _, _, _, _, _⟩) rfl (fun K hK => ?_) AllReadyH.nil; go_simp
  (go_at_call 139; refine Calls.mono (write_bit p.dup 3 8 (by decide) _) ?_; rintro e w9 ⟨rfl, rfl⟩; go_simp)
  refine hK.out _ _ ?_ (fun hHeld => ?_)
  · (first | exact HB.out | exact HB.out.below (below_draws (n := 1) rfl) | exact HB.out.below ((Below.refl _ _).alloc (Nat.le_refl _) _))
  clear hK K; replace HB := Lib.hid hHeld; try simp only [Act.put, List.setIfInBounds_toArray, List.set_cons_zero, List.set_cons_succ]
  refine wpAnyH_take (i := 6) (oi := ⟨some 13, _, _, _, _, _⟩) (v := ?_) rfl (by kernel_rfl) (by kernel_rfl) (by kernel_rfl) (fun _ _ _ h => h) (Or.inl ⟨by rfl, ?_⟩) (by assumption) ?_; rotate_left
  · (intro w hSw; (try dsimp only at hSw); have hXw := BoxAt.cells hSw; go_simp; try with_reducible rfl)
  try simp only [Act.put, List.setIfInBounds_toArray, List.set_cons_zero, List.set_cons_succ]
  refine wpAnyH_ready (rs := [9]) (by kernel_rfl) (by simp) ?_; refine AllReadyH.cons (o := ⟨some 16, _, _, _, _, _⟩) rfl (fun K hK => ?_) AllReadyH.nil; go_simp
  (go_at_call 139; refine Calls.mono (write_bit p.ret 0 1 (by decide) _) ?_; rintro e w9 ⟨rfl, rfl⟩; go_simp)
  refine hK.out _ _ ?_ (fun hHeld => ?_)
  · (first | exact HB.out | exact HB.out.below (below_draws (n := 1) rfl) | exact HB.out.below ((Below.refl _ _).alloc (Nat.le_refl _) _))
  clear hK K; replace HB := Lib.hid hHeld; try simp only [Act.put, List.setIfInBounds_toArray, List.set_cons_zero, List.set_cons_succ]
  refine wpAnyH_take (i := 10) (oi := ⟨some 17, _, _, _, _, _⟩) (v := ?_) rfl (by kernel_rfl) (by kernel_rfl) (by kernel_rfl) (fun _ _ _ h => h) (Or.inl ⟨by rfl, ?_⟩) (by assumption) ?_; rotate_left
  · (intro w hSw; (try dsimp only at hSw); have hXw := BoxAt.cells hSw; go_simp; try with_reducible rfl)
  try simp only [Act.put, List.setIfInBounds_toArray, List.set_cons_zero, List.set_cons_succ]
  refine wpAnyH_take (i := 11) (oi := ⟨some 2, _, _, _, _, _⟩) (v := ?_) rfl (by kernel_rfl) (by kernel_rfl) (by kernel_rfl) (fun _ _ _ h => h) (Or.inl ⟨by rfl, ?_⟩) (by assumption) ?_; rotate_left
  · (intro w hSw; (try dsimp only at hSw); have hXw := BoxAt.cells hSw; go_simp; try with_reducible rfl)
  try simp only [Act.put, List.setIfInBounds_toArray, List.set_cons_zero, List.set_cons_succ]
  refine wpAnyH_done (by kernel_rfl) ?_ _; refine NoPanic.normal ?_; go_wp2_with fail
  go_ret
  exact ⟨ret_int (by rw [HF.out]; exact HQ.out), HU.out.low (Nat.le_refl _)⟩
set_option maxRecDepth 100000 in
theorem write_flags (p : Pk) (a : Option Addr) (c : Nat) (w : World) (hq : p.ty = 3 → p.qos ≤ 2) : Calls Tryz.prog 113 #[.agg (pkV p a c)] w fun e w' => e = .returned (.int .u8 (flagsN p : Int)) ∧ Below w.heap.size w w' := by
  by_cases h3 : p.ty = 3
  · exact write_flags3 p a c w (hq h3) h3
  · have e3 : ((p.ty : Int) == 3) = false := by rw [beq_eq_false_iff_ne]; omega
    have HF := Lib.hid (show flagsN p = if p.ty = 6 ∨ p.ty = 8 ∨ p.ty = 10 then 2 else 0 by unfold flagsN; rw [if_neg h3]); obtain ⟨k0, k1, k2, k3, k4, k5, k6, k7, k8, k9, k10, k11, k12, k13, k14, k15, k16, k17, k18, k19, k20, k21, k22, k23⟩ := pk_at p a c; by_cases h6 : p.ty = 6
    · have HV := Lib.hid (show flagsN p = 2 by rw [HF.out, if_pos (Or.inl h6)])
      have e6 : ((p.ty : Int) == 6) = true := by rw [h6]; rfl
      clear h6 h3 hq; go_enter Tryz.func113, Tryz.ntmps113
      go_wp2_with fail
      go_ret
      exact ⟨ret_int (by rw [HV.out]; rfl), by go_grown⟩
    · have e6 : ((p.ty : Int) == 6) = false := by rw [beq_eq_false_iff_ne]; omega
      by_cases h8 : p.ty = 8
      · have HV := Lib.hid (show flagsN p = 2 by rw [HF.out, if_pos (Or.inr (Or.inl h8))])
        have e8 : ((p.ty : Int) == 8) = true := by rw [h8]; rfl
        clear h8 h6 h3 hq; go_enter Tryz.func113, Tryz.ntmps113
        go_wp2_with fail
        go_ret
        exact ⟨ret_int (by rw [HV.out]; rfl), by go_grown⟩
      · have e8 : ((p.ty : Int) == 8) = false := by rw [beq_eq_false_iff_ne]; omega
        by_cases h10 : p.ty = 10
        · have HV := Lib.hid (show flagsN p = 2 by rw [HF.out, if_pos (Or.inr (Or.inr h10))])
          have e10 : ((p.ty : Int) == 10) = true := by rw [h10]; rfl
          clear h10 h8 h6 h3 hq; go_enter Tryz.func113, Tryz.ntmps113
          go_wp2_with fail
          go_ret
          exact ⟨ret_int (by rw [HV.out]; rfl), by go_grown⟩
        · have HV := Lib.hid (show flagsN p = 0 by rw [HF.out, if_neg (by omega)])
          have e10 : ((p.ty : Int) == 10) = false := by rw [beq_eq_false_iff_ne]; omega
          clear h10 h8 h6 h3 hq; go_enter Tryz.func113, Tryz.ntmps113
          go_wp2_with fail
          go_ret
          exact ⟨ret_int (by rw [HV.out]; rfl), by go_grown⟩
theorem con_bits (u s r i c : Bool) (q : Nat) (hq : q ≤ 2) : bits BinOp.or IntKind.u8 (bits BinOp.or IntKind.u8 (bits BinOp.or IntKind.u8 (bits BinOp.or IntKind.u8 (bits BinOp.or IntKind.u8 (bitI u 128) (bitI s 64)) (bitI r 32)) (IntKind.u8.wrap ((q : Int) * 8))) (bitI i 4)) (bitI c 2) = ((bitN u 128 + bitN s 64 + bitN r 32 + 8 * q + bitN i 4 + bitN c 2 : Nat) : Int) := by
  have h : q = 0 ∨ q = 1 ∨ q = 2 := by omega
  rcases h with rfl | rfl | rfl <;> cases u <;> cases s <;> cases r <;> cases i <;> cases c <;> rfl
theorem out_eq {w : World} {B : Nat} {v : Value} {L M : Bs} (h : Out w B v L) (e : L = M) : Out w B v M := e ▸ h
theorem u8V_two (x y : Nat) (hx : x < 256) (hy : y < 256) : u8V [byteN x, byteN y] = [.int .u8 (x : Int), .int .u8 (y : Int)] := by
  unfold u8V; simp only [List.map_cons, List.map_nil, byteN_toNat, Nat.mod_eq_of_lt hx, Nat.mod_eq_of_lt hy]
theorem conFlags_lt (p : Pk) (h : p.wqos ≤ 2) : conFlags p < 256 := by
  unfold conFlags bitN
  (repeat' split) <;> omega
theorem out_app {w : World} {B m : Nat} {v : Value} {L N : Bs} {xs : List Value} (h : w.ownsRow B 5 1 v (L.length + m) (u8V L ++ xs)) (hm : m = N.length) (hx : xs = u8V N) : Out w B v (L ++ N) := by
  unfold Out; rw [List.length_append, u8V_append, ← hm, ← hx]; exact h
set_option maxRecDepth 100000 in
set_option maxHeartbeats 4000000 in
theorem write_connect (p : Pk) (a : Option Addr) (c : Nat) (B : Nat) (v : Value) (L : Bs) (w : World) (hp : PkOk p) (hO : Out w B v L) (hB : B ≤ w.heap.size) (hL : L.length ≤ 100000000000) (hk : connectOk p = true) : Calls Tryz.prog 140 #[v, .agg (pkV p a c)] w (RetOut B (L ++ connectB p) w) := by
  obtain ⟨i0, hi, hz0, hz1, hz2⟩ := info_parts infoU8; have hal0 : Below w.heap.size w (w.alloc (.cells (pkV p a c) 33)) := (Below.refl _ _).alloc (Nat.le_refl _) _; have HB := Lib.hid (BoxAt.new w (pkV p a c) 33); have HO := Lib.hid (hO.below hal0); have HU := Lib.hid (show OnlyU B w (w.alloc (.cells (pkV p a c) 33)) from OnlyU.of_below hal0); clear hal0 hO; have hq2 : p.wqos ≤ 2 := by
    unfold connectOk willOk willZero at hk; simp only [Bool.and_eq_true, decide_eq_true_eq] at hk; have h3 := hk.1.1.1.1.2; cases hw : p.hasWill with
    | true => rw [hw] at h3; simp at h3; omega
    | false => rw [hw] at h3; simp only [Bool.false_eq_true, if_false] at h3; have := (of_decide_eq_true h3).2.2.1; omega
  have HC := Lib.hid (con_bits p.hasUser p.hasPass p.wret p.hasWill p.clean p.wqos hq2); have hmq : mqtt.size ≤ 65535 := by decide
  have hlv : p.level = 4 := by
    unfold connectOk at hk; simp only [Bool.and_eq_true, decide_eq_true_eq] at hk; exact hk.1.1.1.1.1.1
  have hcl : p.client.size ≤ 65535 := by
    unfold connectOk at hk; simp only [Bool.and_eq_true, decide_eq_true_eq] at hk; have := valid_some hk.1.1.1.1.1.2; rwa [blen] at this
  have hus : p.user.size ≤ 65535 := by
    unfold connectOk at hk; simp only [Bool.and_eq_true, decide_eq_true_eq] at hk; have := valid_some hk.1.2; rwa [blen] at this
  have hpa : p.pass.size ≤ 65535 := by
    unfold connectOk at hk; simp only [Bool.and_eq_true, decide_eq_true_eq] at hk; exact hk.2
  have hwt : p.hasWill = true → p.wtopic.size ≤ 65535 ∧ p.wpayload.size ≤ 65535 := by
    intro hw; unfold connectOk willOk at hk; simp only [Bool.and_eq_true, decide_eq_true_eq] at hk; have h3 := hk.1.1.1.1.2; rw [hw] at h3; simp at h3
    have := name_len h3.1.1; rw [blen] at this; exact ⟨this, h3.1.2⟩
  have hkp := hp.keep; have HX4 := Lib.hid (show (L ++ dataB mqtt).length + 2 ≤ 140737488355328 by rw [List.length_append, dataB_len]; omega); have HX4' := Lib.hid (show ((L ++ dataB mqtt).length + 2) * 1 ≤ 140737488355328 by rw [List.length_append, dataB_len]; omega); have HX5 := Lib.hid (show (L ++ dataB mqtt).length + 2 ≤ maxLen by rw [List.length_append, dataB_len]; unfold maxLen; omega); have HWT := Lib.hid hwt; have HCF := Lib.hid (conFlags_lt p hq2); have FIN := Lib.hid (show ∀ v' w', Out w' B v' (L ++ connectB p) → OnlyU B w w' → RetOut B (L ++ connectB p) w (.returned v') w' from fun v' w' h1 h2 => ⟨v', rfl, h1, h2⟩); clear hk hp hwt; obtain ⟨k0, k1, k2, k3, k4, k5, k6, k7, k8, k9, k10, k11, k12, k13, k14, k15, k16, k17, k18, k19, k20, k21, k22, k23⟩ := pk_at p a c; have hX := HB.out.cells; go_enter Tryz.func140, Tryz.ntmps140
  go_upto_region 2 with ((go_at_call 141; (with_reducible show Calls _ _ #[_, .string _] _ _); refine Calls.mono (write_field B _ _ mqtt _ HO.out (Nat.le_trans hB HU.out.size) hmq (by first | omega | (simp only [List.length_append, dataB_len, wordB, List.length_cons, List.length_nil]; omega))) ?_; rintro e w9 ⟨v9, rfl, hO9, hu9⟩; replace HB := Lib.hid (OnlyU.box hu9 HB.out (by decide)); replace HU := Lib.hid (HU.out.trans hu9); replace HO := Lib.hid hO9; clear hu9 hO9; replace hX := HB.out.cells))
  clear hX; refine wp_region_noPanic ?_; refine wp_region_held_drew (S := fun w' => BoxAt w' w.heap.size (pkV p a c) 33) (by kernel_rfl) ?_ (fun hHeld => ?_)
  · (first | exact HB.out | exact HB.out.below (below_draws (n := 1) rfl))
  replace HB := Lib.hid hHeld; replace HO := Lib.hid (show Out (World.drew _) _ _ _ from HO.out.below (below_draws (n := 1) rfl)); replace HU := Lib.hid (show OnlyU _ _ (World.drew _) from HU.out.then (below_draws (n := 1) rfl)); generalize World.drew _ = wd at HB HO HU hHeld ⊢; refine wpAnyH_take (i := 0) (oi := ⟨some 7, _, _, _, _, _⟩) (v := ?_) rfl (by kernel_rfl) (by kernel_rfl) (by kernel_rfl) (fun _ _ _ h => h) (Or.inl ⟨by rfl, ?_⟩) (by assumption) ?_; rotate_left
  · (intro w hSw; (try dsimp only at hSw); have hXw := BoxAt.cells hSw; go_simp; try with_reducible rfl)
  try simp only [Act.put, List.setIfInBounds_toArray, List.set_cons_zero, List.set_cons_succ]
  refine wpAnyH_take (i := 1) (oi := ⟨some 8, _, _, _, _, _⟩) (v := ?_) rfl (by kernel_rfl) (by kernel_rfl) (by kernel_rfl) (fun _ _ _ h => h) (Or.inl ⟨by rfl, ?_⟩) (by assumption) ?_; rotate_left
  · (intro w hSw; (try dsimp only at hSw); have hXw := BoxAt.cells hSw; go_simp; try with_reducible rfl)
  try simp only [Act.put, List.setIfInBounds_toArray, List.set_cons_zero, List.set_cons_succ]
  refine wpAnyH_take (i := 2) (oi := ⟨some 9, _, _, _, _, _⟩) (v := ?_) rfl (by kernel_rfl) (by kernel_rfl) (by kernel_rfl) (fun _ _ _ h => h) (Or.inl ⟨by rfl, ?_⟩) (by assumption) ?_; rotate_left
  · (intro w hSw; (try dsimp only at hSw); have hXw := BoxAt.cells hSw; go_simp; try with_reducible rfl)
  try simp only [Act.put, List.setIfInBounds_toArray, List.set_cons_zero, List.set_cons_succ]
  refine wpAnyH_take (i := 3) (oi := ⟨some 10, _, _, _, _, _⟩) (v := ?_) rfl (by kernel_rfl) (by kernel_rfl) (by kernel_rfl) (fun _ _ _ h => h) (Or.inl ⟨by rfl, ?_⟩) (by assumption) ?_; rotate_left
  · (intro w hSw; (try dsimp only at hSw); have hXw := BoxAt.cells hSw; go_simp; try with_reducible rfl)
  try simp only [Act.put, List.setIfInBounds_toArray, List.set_cons_zero, List.set_cons_succ]
  refine wpAnyH_take (i := 4) (oi := ⟨some 11, _, _, _, _, _⟩) (v := ?_) rfl (by kernel_rfl) (by kernel_rfl) (by kernel_rfl) (fun _ _ _ h => h) (Or.inl ⟨by rfl, ?_⟩) (by assumption) ?_; rotate_left
  · (intro w hSw; (try dsimp only at hSw); have hXw := BoxAt.cells hSw; go_simp; try with_reducible rfl)
  try simp only [Act.put, List.setIfInBounds_toArray, List.set_cons_zero, List.set_cons_succ]
  refine wpAnyH_take (i := 6) (oi := ⟨some 13, _, _, _, _, _⟩) (v := ?_) rfl (by kernel_rfl) (by kernel_rfl) (by kernel_rfl) (fun _ _ _ h => h) (Or.inl ⟨by rfl, ?_⟩) (by assumption) ?_; rotate_left
  · (intro w hSw; (try dsimp only at hSw); have hXw := BoxAt.cells hSw; go_simp; try with_reducible rfl)
  try simp only [Act.put, List.setIfInBounds_toArray, List.set_cons_zero, List.set_cons_succ]
  refine wpAnyH_take (i := 7) (oi := ⟨some 14, _, _, _, _, _⟩) (v := ?_) rfl (by kernel_rfl) (by kernel_rfl) (by kernel_rfl) (fun _ _ _ h => h) (Or.inl ⟨by rfl, ?_⟩) (by assumption) ?_; rotate_left
  · (intro w hSw; (try dsimp only at hSw); have hXw := BoxAt.cells hSw; go_simp; try with_reducible rfl)
  try simp only [Act.put, List.setIfInBounds_toArray, List.set_cons_zero, List.set_cons_succ]
  refine wpAnyH_take (i := 10) (oi := ⟨some 17, _, _, _, _, _⟩) (v := ?_) rfl (by kernel_rfl) (by kernel_rfl) (by kernel_rfl) (fun _ _ _ h => h) (Or.inl ⟨by rfl, ?_⟩) (by assumption) ?_; rotate_left
  · (intro w hSw; (try dsimp only at hSw); have hXw := BoxAt.cells hSw; go_simp; try with_reducible rfl)
  try simp only [Act.put, List.setIfInBounds_toArray, List.set_cons_zero, List.set_cons_succ]
  refine wpAnyH_take (i := 11) (oi := ⟨some 18, _, _, _, _, _⟩) (v := ?_) rfl (by kernel_rfl) (by kernel_rfl) (by kernel_rfl) (fun _ _ _ h => h) (Or.inl ⟨by rfl, ?_⟩) (by assumption) ?_; rotate_left
  · (intro w hSw; (try dsimp only at hSw); have hXw := BoxAt.cells hSw; go_simp; try with_reducible rfl)
  try simp only [Act.put, List.setIfInBounds_toArray, List.set_cons_zero, List.set_cons_succ]
  refine wpAnyH_take (i := 12) (oi := ⟨some 19, _, _, _, _, _⟩) (v := ?_) rfl (by kernel_rfl) (by kernel_rfl) (by kernel_rfl) (fun _ _ _ h => h) (Or.inl ⟨by rfl, ?_⟩) (by assumption) ?_; rotate_left
  · (intro w hSw; (try dsimp only at hSw); have hXw := BoxAt.cells hSw; go_simp; try with_reducible rfl)
  try simp only [Act.put, List.setIfInBounds_toArray, List.set_cons_zero, List.set_cons_succ]
  refine wpAnyH_take (i := 15) (oi := ⟨some 22, _, _, _, _, _⟩) (v := ?_) rfl (by kernel_rfl) (by kernel_rfl) (by kernel_rfl) (fun _ _ _ h => h) (Or.inl ⟨by rfl, ?_⟩) (by assumption) ?_; rotate_left
  · (intro w hSw; (try dsimp only at hSw); have hXw := BoxAt.cells hSw; go_simp; try with_reducible rfl)
  try simp only [Act.put, List.setIfInBounds_toArray, List.set_cons_zero, List.set_cons_succ]
  refine wpAnyH_take (i := 16) (oi := ⟨some 23, _, _, _, _, _⟩) (v := ?_) rfl (by kernel_rfl) (by kernel_rfl) (by kernel_rfl) (fun _ _ _ h => h) (Or.inl ⟨by rfl, ?_⟩) (by assumption) ?_; rotate_left
  · (intro w hSw; (try dsimp only at hSw); have hXw := BoxAt.cells hSw; go_simp; try with_reducible rfl)
  try simp only [Act.put, List.setIfInBounds_toArray, List.set_cons_zero, List.set_cons_succ]
  refine wpAnyH_take (i := 17) (oi := ⟨some 24, _, _, _, _, _⟩) (v := ?_) rfl (by kernel_rfl) (by kernel_rfl) (by kernel_rfl) (fun _ _ _ h => h) (Or.inl ⟨by rfl, ?_⟩) (by assumption) ?_; rotate_left
  · (intro w hSw; (try dsimp only at hSw); have hXw := BoxAt.cells hSw; go_simp; try with_reducible rfl)
  try simp only [Act.put, List.setIfInBounds_toArray, List.set_cons_zero, List.set_cons_succ]
  refine wpAnyH_take (i := 18) (oi := ⟨some 25, _, _, _, _, _⟩) (v := ?_) rfl (by kernel_rfl) (by kernel_rfl) (by kernel_rfl) (fun _ _ _ h => h) (Or.inl ⟨by rfl, ?_⟩) (by assumption) ?_; rotate_left
  · (intro w hSw; (try dsimp only at hSw); have hXw := BoxAt.cells hSw; go_simp; try with_reducible rfl)
  try simp only [Act.put, List.setIfInBounds_toArray, List.set_cons_zero, List.set_cons_succ]
  refine wpAnyH_take (i := 20) (oi := ⟨some 27, _, _, _, _, _⟩) (v := ?_) rfl (by kernel_rfl) (by kernel_rfl) (by kernel_rfl) (fun _ _ _ h => h) (Or.inl ⟨by rfl, ?_⟩) (by assumption) ?_; rotate_left
  · (intro w hSw; (try dsimp only at hSw); have hXw := BoxAt.cells hSw; go_simp; try with_reducible rfl)
  try simp only [Act.put, List.setIfInBounds_toArray, List.set_cons_zero, List.set_cons_succ]
  refine wpAnyH_take (i := 21) (oi := ⟨some 28, _, _, _, _, _⟩) (v := ?_) rfl (by kernel_rfl) (by kernel_rfl) (by kernel_rfl) (fun _ _ _ h => h) (Or.inl ⟨by rfl, ?_⟩) (by assumption) ?_; rotate_left
  · (intro w hSw; (try dsimp only at hSw); have hXw := BoxAt.cells hSw; go_simp; try with_reducible rfl)
  try simp only [Act.put, List.setIfInBounds_toArray, List.set_cons_zero, List.set_cons_succ]
  refine wpAnyH_take (i := 24) (oi := ⟨some 31, _, _, _, _, _⟩) (v := ?_) rfl (by kernel_rfl) (by kernel_rfl) (by kernel_rfl) (fun _ _ _ h => h) (Or.inl ⟨by rfl, ?_⟩) (by assumption) ?_; rotate_left
  · (intro w hSw; (try dsimp only at hSw); have hXw := BoxAt.cells hSw; go_simp; try with_reducible rfl)
  try simp only [Act.put, List.setIfInBounds_toArray, List.set_cons_zero, List.set_cons_succ]
  refine wpAnyH_take (i := 25) (oi := ⟨some 32, _, _, _, _, _⟩) (v := ?_) rfl (by kernel_rfl) (by kernel_rfl) (by kernel_rfl) (fun _ _ _ h => h) (Or.inl ⟨by rfl, ?_⟩) (by assumption) ?_; rotate_left
  · (intro w hSw; (try dsimp only at hSw); have hXw := BoxAt.cells hSw; go_simp; try with_reducible rfl)
  try simp only [Act.put, List.setIfInBounds_toArray, List.set_cons_zero, List.set_cons_succ]
  refine wpAnyH_ready (rs := [5]) (by kernel_rfl) (by simp) ?_; refine AllReadyH.cons (o := ⟨some 12, _, _, _, _, _⟩) rfl (fun K hK => ?_) AllReadyH.nil; go_simp
  (go_at_call 139; refine Calls.mono (write_bit p.hasUser 7 128 (by decide) _) ?_; rintro e w9 ⟨rfl, rfl⟩; go_simp)
  refine hK.out _ _ ?_ (fun hHeld => ?_)
  · (first | exact HB.out | exact HB.out.below (below_draws (n := 1) rfl) | exact HB.out.below ((Below.refl _ _).alloc (Nat.le_refl _) _))
  clear hK K; replace HB := Lib.hid hHeld; try simp only [Act.put, List.setIfInBounds_toArray, List.set_cons_zero, List.set_cons_succ]
  refine wpAnyH_ready (rs := [8]) (by kernel_rfl) (by simp) ?_; refine AllReadyH.cons (o := ⟨some 15, _, _, _, _, _⟩) rfl (fun K hK => ?_) AllReadyH.nil; go_simp
  (go_at_call 139; refine Calls.mono (write_bit p.hasPass 6 64 (by decide) _) ?_; rintro e w9 ⟨rfl, rfl⟩; go_simp)
  refine hK.out _ _ ?_ (fun hHeld => ?_)
  · (first | exact HB.out | exact HB.out.below (below_draws (n := 1) rfl) | exact HB.out.below ((Below.refl _ _).alloc (Nat.le_refl _) _))
  clear hK K; replace HB := Lib.hid hHeld; try simp only [Act.put, List.setIfInBounds_toArray, List.set_cons_zero, List.set_cons_succ]
  refine wpAnyH_take (i := 9) (oi := ⟨some 16, _, _, _, _, _⟩) (v := ?_) rfl (by kernel_rfl) (by kernel_rfl) (by kernel_rfl) (fun _ _ _ h => h) (Or.inl ⟨by rfl, ?_⟩) (by assumption) ?_; rotate_left
  · (intro w hSw; (try dsimp only at hSw); have hXw := BoxAt.cells hSw; go_simp; try with_reducible rfl)
  try simp only [Act.put, List.setIfInBounds_toArray, List.set_cons_zero, List.set_cons_succ]
  refine wpAnyH_ready (rs := [13]) (by kernel_rfl) (by simp) ?_; refine AllReadyH.cons (o := ⟨some 20, _, _, _, _, _⟩) rfl (fun K hK => ?_) AllReadyH.nil; go_simp
  (go_at_call 139; refine Calls.mono (write_bit p.wret 5 32 (by decide) _) ?_; rintro e w9 ⟨rfl, rfl⟩; go_simp)
  refine hK.out _ _ ?_ (fun hHeld => ?_)
  · (first | exact HB.out | exact HB.out.below (below_draws (n := 1) rfl) | exact HB.out.below ((Below.refl _ _).alloc (Nat.le_refl _) _))
  clear hK K; replace HB := Lib.hid hHeld; try simp only [Act.put, List.setIfInBounds_toArray, List.set_cons_zero, List.set_cons_succ]
  refine wpAnyH_take (i := 14) (oi := ⟨some 21, _, _, _, _, _⟩) (v := ?_) rfl (by kernel_rfl) (by kernel_rfl) (by kernel_rfl) (fun _ _ _ h => h) (Or.inl ⟨by rfl, ?_⟩) (by assumption) ?_; rotate_left
  · (intro w hSw; (try dsimp only at hSw); have hXw := BoxAt.cells hSw; go_simp; try with_reducible rfl)
  try simp only [Act.put, List.setIfInBounds_toArray, List.set_cons_zero, List.set_cons_succ]
  refine wpAnyH_take (i := 19) (oi := ⟨some 26, _, _, _, _, _⟩) (v := ?_) rfl (by kernel_rfl) (by kernel_rfl) (by kernel_rfl) (fun _ _ _ h => h) (Or.inl ⟨by rfl, ?_⟩) (by assumption) ?_; rotate_left
  · (intro w hSw; (try dsimp only at hSw); have hXw := BoxAt.cells hSw; go_simp; try with_reducible rfl)
  try simp only [Act.put, List.setIfInBounds_toArray, List.set_cons_zero, List.set_cons_succ]
  refine wpAnyH_ready (rs := [22]) (by kernel_rfl) (by simp) ?_; refine AllReadyH.cons (o := ⟨some 29, _, _, _, _, _⟩) rfl (fun K hK => ?_) AllReadyH.nil; go_simp
  (go_at_call 139; refine Calls.mono (write_bit p.hasWill 2 4 (by decide) _) ?_; rintro e w9 ⟨rfl, rfl⟩; go_simp)
  refine hK.out _ _ ?_ (fun hHeld => ?_)
  · (first | exact HB.out | exact HB.out.below (below_draws (n := 1) rfl) | exact HB.out.below ((Below.refl _ _).alloc (Nat.le_refl _) _))
  clear hK K; replace HB := Lib.hid hHeld; try simp only [Act.put, List.setIfInBounds_toArray, List.set_cons_zero, List.set_cons_succ]
  refine wpAnyH_take (i := 23) (oi := ⟨some 30, _, _, _, _, _⟩) (v := ?_) rfl (by kernel_rfl) (by kernel_rfl) (by kernel_rfl) (fun _ _ _ h => h) (Or.inl ⟨by rfl, ?_⟩) (by assumption) ?_; rotate_left
  · (intro w hSw; (try dsimp only at hSw); have hXw := BoxAt.cells hSw; go_simp; try with_reducible rfl)
  try simp only [Act.put, List.setIfInBounds_toArray, List.set_cons_zero, List.set_cons_succ]
  refine wpAnyH_ready (rs := [26]) (by kernel_rfl) (by simp) ?_; refine AllReadyH.cons (o := ⟨some 33, _, _, _, _, _⟩) rfl (fun K hK => ?_) AllReadyH.nil; go_simp
  (go_at_call 139; refine Calls.mono (write_bit p.clean 1 2 (by decide) _) ?_; rintro e w9 ⟨rfl, rfl⟩; go_simp)
  refine hK.out _ _ ?_ (fun hHeld => ?_)
  · (first | exact HB.out | exact HB.out.below (below_draws (n := 1) rfl) | exact HB.out.below ((Below.refl _ _).alloc (Nat.le_refl _) _))
  clear hK K; replace HB := Lib.hid hHeld; try simp only [Act.put, List.setIfInBounds_toArray, List.set_cons_zero, List.set_cons_succ]
  refine wpAnyH_take (i := 27) (oi := ⟨some 34, _, _, _, _, _⟩) (v := ?_) rfl (by kernel_rfl) (by kernel_rfl) (by kernel_rfl) (fun _ _ _ h => h) (Or.inl ⟨by rfl, ?_⟩) (by assumption) ?_; rotate_left
  · (intro w hSw; (try dsimp only at hSw); have hXw := BoxAt.cells hSw; go_simp; try with_reducible rfl)
  try simp only [Act.put, List.setIfInBounds_toArray, List.set_cons_zero, List.set_cons_succ]
  refine wpAnyH_ready (rs := [28]) (by kernel_rfl) (by simp) ?_; refine AllReadyH.cons (o := ⟨some 35, _, _, _, _, _⟩) rfl (fun K hK => ?_) AllReadyH.nil; go_simp; skip; refine hK.out _ _ ?_ (fun hHeld => ?_)
  · (first | exact HB.out | exact HB.out.below (below_draws (n := 1) rfl) | exact HB.out.below ((Below.refl _ _).alloc (Nat.le_refl _) _))
  clear hK K; replace HB := Lib.hid hHeld; generalize hgw : World.alloc _ _ = w8 at hHeld ⊢; have HB := Lib.hid hHeld; have hal := al_below hgw; replace HO := Lib.hid (HO.out.below hal); replace HU := Lib.hid (HU.out.then hal); have HN := Lib.hid (newsL hgw); clear hgw hal; try simp only [Act.put, List.setIfInBounds_toArray, List.set_cons_zero, List.set_cons_succ]
  refine wpAnyH_ready (rs := [29]) (by kernel_rfl) (by simp) ?_; refine AllReadyH.cons (o := ⟨some 36, _, _, _, _, _⟩) rfl (fun K hK => ?_) AllReadyH.nil
  (refine step_append_cells rfl _ _ 22 rfl B 5 i0 _ 1 1 Tryz.underlying22 hi hz0 hz1 hz2 rfl (by decide) _ _ _ rfl HO.out _ 2 2 (fun h => by cases h) _ rfl rfl HN.out (by intro u hu; simp only [List.mem_cons, List.not_mem_nil, or_false] at hu; rcases hu with rfl | rfl <;> rfl) HX5.out HX4'.out (Nat.le_trans hB HU.out.size) ?_; intro v9 w9 hown9 hg9; have hu9 := OnlyU.grown HO.out hg9; replace HB := Lib.hid (OnlyU.box hu9 HB.out (by decide)); replace HU := Lib.hid (HU.out.trans hu9); have HW9 := Lib.hid hown9; clear hown9 hg9 hu9 HO HN)
  refine hK.out _ _ ?_ (fun hHeld => ?_)
  · (first | exact HB.out | exact HB.out.below (below_draws (n := 1) rfl) | exact HB.out.below ((Below.refl _ _).alloc (Nat.le_refl _) _))
  clear hK K; replace HB := Lib.hid hHeld; try simp only [Act.put, List.setIfInBounds_toArray, List.set_cons_zero, List.set_cons_succ]
  refine wpAnyH_take (i := 30) (oi := ⟨some 0, _, _, _, _, _⟩) (v := ?_) rfl (by kernel_rfl) (by kernel_rfl) (by kernel_rfl) (fun _ _ _ h => h) (Or.inl ⟨by rfl, ?_⟩) (by assumption) ?_; rotate_left
  · (intro w hSw; (try dsimp only at hSw); have hXw := BoxAt.cells hSw; go_simp; try with_reducible rfl)
  try simp only [Act.put, List.setIfInBounds_toArray, List.set_cons_zero]
  refine wpAnyH_done (by kernel_rfl) ?_ _; refine NoPanic.normal ?_; clear HX4 HX4' HX5; have HO := Lib.hid (out_app (N := [byteN 4, byteN (conFlags p)]) HW9.out rfl (by rw [HC.out]; exact (u8V_two 4 (conFlags p) (by decide) HCF.out).symm)); clear HW9 HC HCF; have hX := HB.out.cells; go_upto_region 3 with (fail)
  clear hX; refine wp_region_noPanic ?_; refine wp_region_held_drew (S := fun w' => BoxAt w' w.heap.size (pkV p a c) 33) (by kernel_rfl) ?_ (fun hHeld => ?_)
  · (first | exact HB.out | exact HB.out.below (below_draws (n := 1) rfl))
  replace HB := Lib.hid hHeld; replace HO := Lib.hid (show Out (World.drew _) _ _ _ from HO.out.below (below_draws (n := 1) rfl)); replace HU := Lib.hid (show OnlyU _ _ (World.drew _) from HU.out.then (below_draws (n := 1) rfl)); generalize World.drew _ = wd at HB HO HU hHeld ⊢; refine wpAnyH_take (i := 0) (oi := ⟨some 37, _, _, _, _, _⟩) (v := ?_) rfl (by kernel_rfl) (by kernel_rfl) (by kernel_rfl) (fun _ _ _ h => h) (Or.inl ⟨by rfl, ?_⟩) (by assumption) ?_; rotate_left
  · (intro w hSw; (try dsimp only at hSw); have hXw := BoxAt.cells hSw; go_simp; try with_reducible rfl)
  try simp only [Act.put, List.setIfInBounds_toArray, List.set_cons_zero, List.set_cons_succ]
  refine wpAnyH_take (i := 1) (oi := ⟨some 38, _, _, _, _, _⟩) (v := ?_) rfl (by kernel_rfl) (by kernel_rfl) (by kernel_rfl) (fun _ _ _ h => h) (Or.inl ⟨by rfl, ?_⟩) (by assumption) ?_; rotate_left
  · (intro w hSw; (try dsimp only at hSw); have hXw := BoxAt.cells hSw; go_simp; try with_reducible rfl)
  try simp only [Act.put, List.setIfInBounds_toArray, List.set_cons_zero, List.set_cons_succ]
  refine wpAnyH_take (i := 2) (oi := ⟨some 39, _, _, _, _, _⟩) (v := ?_) rfl (by kernel_rfl) (by kernel_rfl) (by kernel_rfl) (fun _ _ _ h => h) (Or.inl ⟨by rfl, ?_⟩) (by assumption) ?_; rotate_left
  · (intro w hSw; (try dsimp only at hSw); have hXw := BoxAt.cells hSw; go_simp; try with_reducible rfl)
  try simp only [Act.put, List.setIfInBounds_toArray, List.set_cons_zero, List.set_cons_succ]
  refine wpAnyH_take (i := 4) (oi := ⟨some 41, _, _, _, _, _⟩) (v := ?_) rfl (by kernel_rfl) (by kernel_rfl) (by kernel_rfl) (fun _ _ _ h => h) (Or.inl ⟨by rfl, ?_⟩) (by assumption) ?_; rotate_left
  · (intro w hSw; (try dsimp only at hSw); have hXw := BoxAt.cells hSw; go_simp; try with_reducible rfl)
  try simp only [Act.put, List.setIfInBounds_toArray, List.set_cons_zero, List.set_cons_succ]
  refine wpAnyH_take (i := 5) (oi := ⟨some 42, _, _, _, _, _⟩) (v := ?_) rfl (by kernel_rfl) (by kernel_rfl) (by kernel_rfl) (fun _ _ _ h => h) (Or.inl ⟨by rfl, ?_⟩) (by assumption) ?_; rotate_left
  · (intro w hSw; (try dsimp only at hSw); have hXw := BoxAt.cells hSw; go_simp; try with_reducible rfl)
  try simp only [Act.put, List.setIfInBounds_toArray, List.set_cons_zero, List.set_cons_succ]
  refine wpAnyH_ready (rs := [3]) (by kernel_rfl) (by simp) ?_; refine AllReadyH.cons (o := ⟨some 40, _, _, _, _, _⟩) rfl (fun K hK => ?_) AllReadyH.nil; go_simp
  (go_at_call 142; refine Calls.mono (write_word B _ _ p.keep _ HO.out (Nat.le_trans hB HU.out.size) (by omega) (by first | omega | (simp only [List.length_append, dataB_len, List.length_cons, List.length_nil]; omega))) ?_; rintro e w9 ⟨v9, rfl, hO9, hu9⟩; replace HB := Lib.hid (OnlyU.box hu9 HB.out (by decide)); replace HU := Lib.hid (HU.out.trans hu9); replace HO := Lib.hid hO9; clear hu9 hO9; go_simp)
  refine hK.out _ _ ?_ (fun hHeld => ?_)
  · (first | exact HB.out | exact HB.out.below (below_draws (n := 1) rfl) | exact HB.out.below ((Below.refl _ _).alloc (Nat.le_refl _) _))
  clear hK K; replace HB := Lib.hid hHeld; try simp only [Act.put, List.setIfInBounds_toArray, List.set_cons_zero, List.set_cons_succ]
  refine wpAnyH_ready (rs := [6]) (by kernel_rfl) (by simp) ?_; refine AllReadyH.cons (o := ⟨some 43, _, _, _, _, _⟩) rfl (fun K hK => ?_) AllReadyH.nil; go_simp
  (go_at_call 141; refine Calls.mono (write_field B _ _ p.client _ HO.out (Nat.le_trans hB HU.out.size) hcl (by first | omega | (simp only [List.length_append, dataB_len, wordB, List.length_cons, List.length_nil]; omega))) ?_; rintro e w9 ⟨v9, rfl, hO9, hu9⟩; replace HB := Lib.hid (OnlyU.box hu9 HB.out (by decide)); replace HU := Lib.hid (HU.out.trans hu9); replace HO := Lib.hid hO9; clear hu9 hO9; go_simp)
  refine hK.out _ _ ?_ (fun hHeld => ?_)
  · (first | exact HB.out | exact HB.out.below (below_draws (n := 1) rfl) | exact HB.out.below ((Below.refl _ _).alloc (Nat.le_refl _) _))
  clear hK K; replace HB := Lib.hid hHeld; try simp only [Act.put, List.setIfInBounds_toArray, List.set_cons_zero, List.set_cons_succ]
  refine wpAnyH_take (i := 7) (oi := ⟨some 0, _, _, _, _, _⟩) (v := ?_) rfl (by kernel_rfl) (by kernel_rfl) (by kernel_rfl) (fun _ _ _ h => h) (Or.inl ⟨by rfl, ?_⟩) (by assumption) ?_; rotate_left
  · (intro w hSw; (try dsimp only at hSw); have hXw := BoxAt.cells hSw; go_simp; try with_reducible rfl)
  try simp only [Act.put, List.setIfInBounds_toArray, List.set_cons_zero]
  refine wpAnyH_done (by kernel_rfl) ?_ _; refine NoPanic.normal ?_; obtain ⟨bw, hw⟩ : ∃ b, p.hasWill = b := ⟨_, rfl⟩
  obtain ⟨bu, hu⟩ : ∃ b, p.hasUser = b := ⟨_, rfl⟩
  obtain ⟨bs, hs⟩ : ∃ b, p.hasPass = b := ⟨_, rfl⟩
  have HWS := Lib.hid (And.intro hw (And.intro hu hs)); rw [hw] at k11; rw [hu] at k16; rw [hs] at k17; have hX := HB.out.cells; cases bw
  · clear hw hu hs
    cases bu <;> cases bs
    all_goals
      go_wp2_with (first
        | (go_at_call 141; (with_reducible show Calls _ _ #[_, .string p.user] _ _); refine Calls.mono (write_field B _ _ p.user _ HO.out (Nat.le_trans hB HU.out.size) hus (by first | omega | (simp only [List.length_append, dataB_len, wordB, List.length_cons, List.length_nil]; omega))) ?_; rintro e w9 ⟨v9, rfl, hO9, hu9⟩; replace HB := Lib.hid (OnlyU.box hu9 HB.out (by decide)); replace HU := Lib.hid (HU.out.trans hu9); replace HO := Lib.hid hO9; clear hu9 hO9; replace hX := HB.out.cells)
        | (go_at_call 141; (with_reducible show Calls _ _ #[_, .string p.pass] _ _); refine Calls.mono (write_field B _ _ p.pass _ HO.out (Nat.le_trans hB HU.out.size) hpa (by first | omega | (simp only [List.length_append, dataB_len, wordB, List.length_cons, List.length_nil]; omega))) ?_; rintro e w9 ⟨v9, rfl, hO9, hu9⟩; replace HB := Lib.hid (OnlyU.box hu9 HB.out (by decide)); replace HU := Lib.hid (HU.out.trans hu9); replace HO := Lib.hid hO9; clear hu9 hO9; replace hX := HB.out.cells))
      go_ret
      have h := HO.out; exact FIN.out _ _ (out_eq h (by unfold connectB; rw [HWS.out.1, HWS.out.2.1, HWS.out.2.2, hlv]; simp only [if_true, if_false, List.append_assoc, List.append_nil, Bool.false_eq_true])) HU.out
  · obtain ⟨hwt1, hwt2⟩ := HWT.out hw
    clear hw hu hs; go_upto_region 5 with (fail)
    clear hX; refine wp_region_noPanic ?_; refine wp_region_held_drew (S := fun w' => BoxAt w' w.heap.size (pkV p a c) 33) (by kernel_rfl) ?_ (fun hHeld => ?_)
    · (first | exact HB.out | exact HB.out.below (below_draws (n := 1) rfl))
    replace HB := Lib.hid hHeld; replace HO := Lib.hid (show Out (World.drew _) _ _ _ from HO.out.below (below_draws (n := 1) rfl)); replace HU := Lib.hid (show OnlyU _ _ (World.drew _) from HU.out.then (below_draws (n := 1) rfl)); generalize World.drew _ = wd at HB HO HU hHeld ⊢; refine wpAnyH_take (i := 0) (oi := ⟨some 46, _, _, _, _, _⟩) (v := ?_) rfl (by kernel_rfl) (by kernel_rfl) (by kernel_rfl) (fun _ _ _ h => h) (Or.inl ⟨by rfl, ?_⟩) (by assumption) ?_; rotate_left
    · (intro w hSw; (try dsimp only at hSw); have hXw := BoxAt.cells hSw; go_simp; try with_reducible rfl)
    try simp only [Act.put, List.setIfInBounds_toArray, List.set_cons_zero, List.set_cons_succ]
    refine wpAnyH_take (i := 1) (oi := ⟨some 47, _, _, _, _, _⟩) (v := ?_) rfl (by kernel_rfl) (by kernel_rfl) (by kernel_rfl) (fun _ _ _ h => h) (Or.inl ⟨by rfl, ?_⟩) (by assumption) ?_; rotate_left
    · (intro w hSw; (try dsimp only at hSw); have hXw := BoxAt.cells hSw; go_simp; try with_reducible rfl)
    try simp only [Act.put, List.setIfInBounds_toArray, List.set_cons_zero, List.set_cons_succ]
    refine wpAnyH_take (i := 2) (oi := ⟨some 48, _, _, _, _, _⟩) (v := ?_) rfl (by kernel_rfl) (by kernel_rfl) (by kernel_rfl) (fun _ _ _ h => h) (Or.inl ⟨by rfl, ?_⟩) (by assumption) ?_; rotate_left
    · (intro w hSw; (try dsimp only at hSw); have hXw := BoxAt.cells hSw; go_simp; try with_reducible rfl)
    try simp only [Act.put, List.setIfInBounds_toArray, List.set_cons_zero, List.set_cons_succ]
    refine wpAnyH_take (i := 3) (oi := ⟨some 49, _, _, _, _, _⟩) (v := ?_) rfl (by kernel_rfl) (by kernel_rfl) (by kernel_rfl) (fun _ _ _ h => h) (Or.inl ⟨by rfl, ?_⟩) (by assumption) ?_; rotate_left
    · (intro w hSw; (try dsimp only at hSw); have hXw := BoxAt.cells hSw; go_simp; try with_reducible rfl)
    try simp only [Act.put, List.setIfInBounds_toArray, List.set_cons_zero, List.set_cons_succ]
    refine wpAnyH_take (i := 5) (oi := ⟨some 51, _, _, _, _, _⟩) (v := ?_) rfl (by kernel_rfl) (by kernel_rfl) (by kernel_rfl) (fun _ _ _ h => h) (Or.inl ⟨by rfl, ?_⟩) (by assumption) ?_; rotate_left
    · (intro w hSw; (try dsimp only at hSw); have hXw := BoxAt.cells hSw; go_simp; try with_reducible rfl)
    try simp only [Act.put, List.setIfInBounds_toArray, List.set_cons_zero, List.set_cons_succ]
    refine wpAnyH_take (i := 6) (oi := ⟨some 52, _, _, _, _, _⟩) (v := ?_) rfl (by kernel_rfl) (by kernel_rfl) (by kernel_rfl) (fun _ _ _ h => h) (Or.inl ⟨by rfl, ?_⟩) (by assumption) ?_; rotate_left
    · (intro w hSw; (try dsimp only at hSw); have hXw := BoxAt.cells hSw; go_simp; try with_reducible rfl)
    try simp only [Act.put, List.setIfInBounds_toArray, List.set_cons_zero, List.set_cons_succ]
    refine wpAnyH_take (i := 7) (oi := ⟨some 53, _, _, _, _, _⟩) (v := ?_) rfl (by kernel_rfl) (by kernel_rfl) (by kernel_rfl) (fun _ _ _ h => h) (Or.inl ⟨by rfl, ?_⟩) (by assumption) ?_; rotate_left
    · (intro w hSw; (try dsimp only at hSw); have hXw := BoxAt.cells hSw; go_simp; try with_reducible rfl)
    try simp only [Act.put, List.setIfInBounds_toArray, List.set_cons_zero, List.set_cons_succ]
    refine wpAnyH_ready (rs := [4]) (by kernel_rfl) (by simp) ?_; refine AllReadyH.cons (o := ⟨some 50, _, _, _, _, _⟩) rfl (fun K hK => ?_) AllReadyH.nil; go_simp
    (go_at_call 141; refine Calls.mono (write_field B _ _ p.wtopic _ HO.out (Nat.le_trans hB HU.out.size) hwt1 (by first | omega | (simp only [List.length_append, dataB_len, wordB, List.length_cons, List.length_nil]; omega))) ?_; rintro e w9 ⟨v9, rfl, hO9, hu9⟩; replace HB := Lib.hid (OnlyU.box hu9 HB.out (by decide)); replace HU := Lib.hid (HU.out.trans hu9); replace HO := Lib.hid hO9; clear hu9 hO9; go_simp)
    refine hK.out _ _ ?_ (fun hHeld => ?_)
    · (first | exact HB.out | exact HB.out.below (below_draws (n := 1) rfl) | exact HB.out.below ((Below.refl _ _).alloc (Nat.le_refl _) _))
    clear hK K; replace HB := Lib.hid hHeld; try simp only [Act.put, List.setIfInBounds_toArray, List.set_cons_zero, List.set_cons_succ]
    refine wpAnyH_ready (rs := [8]) (by kernel_rfl) (by simp) ?_; refine AllReadyH.cons (o := ⟨some 54, _, _, _, _, _⟩) rfl (fun K hK => ?_) AllReadyH.nil; go_simp
    (go_at_call 141; refine Calls.mono (write_field B _ _ p.wpayload _ HO.out (Nat.le_trans hB HU.out.size) hwt2 (by first | omega | (simp only [List.length_append, dataB_len, wordB, List.length_cons, List.length_nil]; omega))) ?_; rintro e w9 ⟨v9, rfl, hO9, hu9⟩; replace HB := Lib.hid (OnlyU.box hu9 HB.out (by decide)); replace HU := Lib.hid (HU.out.trans hu9); replace HO := Lib.hid hO9; clear hu9 hO9; go_simp)
    refine hK.out _ _ ?_ (fun hHeld => ?_)
    · (first | exact HB.out | exact HB.out.below (below_draws (n := 1) rfl) | exact HB.out.below ((Below.refl _ _).alloc (Nat.le_refl _) _))
    clear hK K; replace HB := Lib.hid hHeld; try simp only [Act.put, List.setIfInBounds_toArray, List.set_cons_zero, List.set_cons_succ]
    refine wpAnyH_take (i := 9) (oi := ⟨some 0, _, _, _, _, _⟩) (v := ?_) rfl (by kernel_rfl) (by kernel_rfl) (by kernel_rfl) (fun _ _ _ h => h) (Or.inl ⟨by rfl, ?_⟩) (by assumption) ?_; rotate_left
    · (intro w hSw; (try dsimp only at hSw); have hXw := BoxAt.cells hSw; go_simp; try with_reducible rfl)
    try simp only [Act.put, List.setIfInBounds_toArray, List.set_cons_zero]
    refine wpAnyH_done (by kernel_rfl) ?_ _; refine NoPanic.normal ?_; have hX := HB.out.cells; cases bu <;> cases bs
    all_goals
      go_wp2_with (first
        | (go_at_call 141; (with_reducible show Calls _ _ #[_, .string p.user] _ _); refine Calls.mono (write_field B _ _ p.user _ HO.out (Nat.le_trans hB HU.out.size) hus (by first | omega | (simp only [List.length_append, dataB_len, wordB, List.length_cons, List.length_nil]; omega))) ?_; rintro e w9 ⟨v9, rfl, hO9, hu9⟩; replace HB := Lib.hid (OnlyU.box hu9 HB.out (by decide)); replace HU := Lib.hid (HU.out.trans hu9); replace HO := Lib.hid hO9; clear hu9 hO9; replace hX := HB.out.cells)
        | (go_at_call 141; (with_reducible show Calls _ _ #[_, .string p.pass] _ _); refine Calls.mono (write_field B _ _ p.pass _ HO.out (Nat.le_trans hB HU.out.size) hpa (by first | omega | (simp only [List.length_append, dataB_len, wordB, List.length_cons, List.length_nil]; omega))) ?_; rintro e w9 ⟨v9, rfl, hO9, hu9⟩; replace HB := Lib.hid (OnlyU.box hu9 HB.out (by decide)); replace HU := Lib.hid (HU.out.trans hu9); replace HO := Lib.hid hO9; clear hu9 hO9; replace hX := HB.out.cells))
      go_ret
      have h := HO.out; exact FIN.out _ _ (out_eq h (by unfold connectB; rw [HWS.out.1, HWS.out.2.1, HWS.out.2.2, hlv]; simp only [if_true, if_false, List.append_assoc, List.append_nil, Bool.false_eq_true])) HU.out
end Go.Proofs.YtnnpokndajpkiaaGreatDoor
