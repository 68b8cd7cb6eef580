import Derived.Test.YtnnpokndajpkiaaGreatDoorWriteRest
namespace Go.Proofs.YtnnpokndajpkiaaGreatDoor
open Go.RowKit
theorem flat_take (t : Nat) (S : List Sb) (k : Nat) : ((S.take k).flatMap (subB t)).length ≤ (S.flatMap (subB t)).length := by
  conv => rhs; rw [← List.take_append_drop k S, List.flatMap_append, List.length_append]
  omega
theorem flat_snoc (t : Nat) (S : List Sb) (k : Nat) (x : Sb) (hx : S[k]? = some x) : (S.take (k + 1)).flatMap (subB t) = (S.take k).flatMap (subB t) ++ subB t x := by
  rw [List.take_add_one, hx, List.flatMap_append]; simp
theorem body_parts {p : Pk} (hp : PkOk p) (h : 0 ≤ restP p) (h1 : p.ty ≠ 1) (h2 : p.ty ≠ 2) : (p.ty = 3 → p.topic.size ≤ 65535) ∧ (∀ x ∈ p.subs, x.1.size ≤ 65535 ∧ x.2 ≤ 2) ∧ (p.subs.flatMap (subB p.ty)).length ≤ 268435455 := by
  have hr := restB_len p hp h; have hm : restP p ≤ 268435455 := by unfold restP restOf; split <;> omega
  refine ⟨fun h3 => ?_, fun x hx => ?_, ?_⟩
  · have := name_len (pub_parts h3 h).1
    rwa [blen] at this
  · have hz := (zeros_iff p).1 (rest_bare h)
    have ht : p.ty = 8 ∨ p.ty = 10 := by
      by_cases h8 : p.ty = 8
      · exact Or.inl h8
      · by_cases h10 : p.ty = 10
        · exact Or.inr h10
        · have := hz.zs h8 h10
          rw [this] at hx; cases hx
    have e : restP p = subsN p := by
      rw [rest_type h]; unfold typeN; rw [if_neg h1, if_neg h2, if_neg (by omega), if_neg (by omega), if_pos ht]
    rw [e] at h; unfold subsN at h; split at h
    · omega
    · split at h
      · rename_i hall
        have := List.all_eq_true.1 hall x hx; unfold subOk at this; simp only [Bool.and_eq_true, decide_eq_true_eq] at this; have hl := filter_len this.1; have hm2 : mostN p ≤ 2 := by unfold mostN; split <;> omega
        refine ⟨?_, by omega⟩; have hb : (bl x.1).length ≤ 65535 := hl; rwa [blen] at hb
      · omega
  · unfold restB at hr
    rw [if_neg h1, if_neg h2] at hr; unfold otherB at hr; simp only [List.length_append] at hr; omega
theorem cells_low {w w' : World} {a : Option Addr} {xs : List Value} {B : Nat} (h : CellsA w a xs) (hl : xs ≠ [] → ∀ b o, a = some ⟨b, o, none⟩ → b < B) (k : Below B w w') : CellsA w' a xs := fun j v hv => by
  obtain ⟨b, o, ha, hc⟩ := h j v hv; exact ⟨b, o, ha, (k.cell (p := ⟨b, o + j, none⟩) (hl (by rintro rfl; cases hv) b o ha)).trans hc⟩
theorem u8V_bit (b : Bool) : ((bitN b 1 : Nat) : Int) = bitI b 1 := by cases b <;> rfl
set_option maxRecDepth 100000 in
set_option maxHeartbeats 4000000 in
theorem write_rest (p : Pk) (a : Option Addr) (c : Nat) (B : Nat) (v : Value) (L : Bs) (w : World) (hp : PkOk p) (hO : Out w B v L) (hB : B ≤ w.heap.size) (hL : L.length ≤ 100000000000) (hr : 0 ≤ restP p) (ha : CellsA w a (subCells p.subs)) (hlow : subCells p.subs ≠ [] → ∀ b o, a = some ⟨b, o, none⟩ → b < B) : Calls Tryz.prog 114 #[v, .agg (pkV p a c)] w (RetOut B (L ++ restB p) w) := by
  obtain ⟨i0, hi, hz0, hz1, hz2⟩ := info_parts infoU8; have hal0 : Below w.heap.size w (w.alloc (.cells (pkV p a c) 33)) := (Below.refl _ _).alloc (Nat.le_refl _) _; have HB := Lib.hid (BoxAt.new w (pkV p a c) 33); have HO := Lib.hid (hO.below hal0); have HU := Lib.hid (show OnlyU B w (w.alloc (.cells (pkV p a c) 33)) from OnlyU.of_below hal0); clear hal0 hO; have FIN := Lib.hid (show ∀ v' w', Out w' B v' (L ++ restB p) → OnlyU B w w' → RetOut B (L ++ restB p) w (.returned v') w' from fun v' w' h1 h2 => ⟨v', rfl, h1, h2⟩); obtain ⟨k0, k1, k2, k3, k4, k5, k6, k7, k8, k9, k10, k11, k12, k13, k14, k15, k16, k17, k18, k19, k20, k21, k22, k23⟩ := pk_at p a c; have hX := HB.out.cells; by_cases h1 : p.ty = 1
  · have e1 : ((p.ty : Int) == 1) = true := by rw [h1]; rfl
    have hk := (con_parts h1 hr).1; have HC := Lib.hid (fun w1 hO hB => write_connect p a c B v L w1 hp hO hB hL hk); have HR := Lib.hid (show restB p = connectB p by unfold restB; rw [if_pos h1]); clear hr hp ha hlow hk h1; go_enter Tryz.func114, Tryz.ntmps114
    go_wp2_with (first
      | ((with_reducible show wpList _ _ _ (⟨_, .load 33 _, _, _, _, _⟩ :: _) _ _); refine wpList_load_box rfl 33 _ rfl (w.heap.size) rfl 33 (pkV p a c) HB.out _ Tryz.underlying33 rfl (pk_size _ _ _) ?_)
      | (go_at_call 140; refine Calls.mono (HC.out _ HO.out (Nat.le_trans hB HU.out.size)) ?_; rintro e w9 ⟨v9, rfl, hO9, hu9⟩; replace HB := Lib.hid (OnlyU.box hu9 HB.out (by decide)); replace HU := Lib.hid (HU.out.trans hu9); replace HO := Lib.hid hO9; clear hu9 hO9))
    go_ret
    exact FIN.out _ _ (out_eq HO.out (by rw [HR.out])) HU.out
  · have e1 : ((p.ty : Int) == 1) = false := by rw [beq_eq_false_iff_ne]; omega
    by_cases h2 : p.ty = 2
    · have e2 : ((p.ty : Int) == 2) = true := by rw [h2]; rfl
      have hcd := hp.code; have HR := Lib.hid (show restB p = [byteN (bitN p.present 1), byteN p.code] by unfold restB; rw [if_neg h1, if_pos h2]); have HX4' := Lib.hid (show (L.length + 2) * 1 ≤ 140737488355328 by omega); have HX5 := Lib.hid (show L.length + 2 ≤ maxLen by unfold maxLen; omega); have HCF := Lib.hid (show u8V [byteN (bitN p.present 1), byteN p.code] = [.int .u8 (bitI p.present 1), .int .u8 (p.code : Int)] by rw [u8V_two _ _ (by unfold bitN; split <;> omega) hcd, u8V_bit]); clear hr hp ha hlow h1 h2; go_enter Tryz.func114, Tryz.ntmps114
      go_upto_region 5 with (fail)
      clear hX; refine wp_region_noPanic ?_; refine wp_region_held_drew (S := fun w' => BoxAt w' w.heap.size (pkV p a c) 33) (by kernel_rfl) ?_ (fun hHeld => ?_)
      · (first | exact HB.out | exact HB.out.below (below_draws (n := 1) rfl))
      replace HB := Lib.hid hHeld; replace HO := Lib.hid (show Out (World.drew _) _ _ _ from HO.out.below (below_draws (n := 1) rfl)); replace HU := Lib.hid (show OnlyU _ _ (World.drew _) from HU.out.then (below_draws (n := 1) rfl)); generalize World.drew _ = wd at HB HO HU hHeld ⊢; refine wpAnyH_take (i := 0) (oi := ⟨some 16, _, _, _, _, _⟩) (v := ?_) rfl (by kernel_rfl) (by kernel_rfl) (by kernel_rfl) (fun _ _ _ h => h) (Or.inl ⟨by rfl, ?_⟩) (by assumption) ?_; rotate_left
      · (intro w hSw; (try dsimp only at hSw); have hXw := BoxAt.cells hSw; go_simp; try with_reducible rfl)
      try simp only [Act.put, List.setIfInBounds_toArray, List.set_cons_zero, List.set_cons_succ]
      refine wpAnyH_take (i := 1) (oi := ⟨some 17, _, _, _, _, _⟩) (v := ?_) rfl (by kernel_rfl) (by kernel_rfl) (by kernel_rfl) (fun _ _ _ h => h) (Or.inl ⟨by rfl, ?_⟩) (by assumption) ?_; rotate_left
      · (intro w hSw; (try dsimp only at hSw); have hXw := BoxAt.cells hSw; go_simp; try with_reducible rfl)
      try simp only [Act.put, List.setIfInBounds_toArray, List.set_cons_zero, List.set_cons_succ]
      refine wpAnyH_take (i := 2) (oi := ⟨some 18, _, _, _, _, _⟩) (v := ?_) rfl (by kernel_rfl) (by kernel_rfl) (by kernel_rfl) (fun _ _ _ h => h) (Or.inl ⟨by rfl, ?_⟩) (by assumption) ?_; rotate_left
      · (intro w hSw; (try dsimp only at hSw); have hXw := BoxAt.cells hSw; go_simp; try with_reducible rfl)
      try simp only [Act.put, List.setIfInBounds_toArray, List.set_cons_zero, List.set_cons_succ]
      refine wpAnyH_take (i := 4) (oi := ⟨some 20, _, _, _, _, _⟩) (v := ?_) rfl (by kernel_rfl) (by kernel_rfl) (by kernel_rfl) (fun _ _ _ h => h) (Or.inl ⟨by rfl, ?_⟩) (by assumption) ?_; rotate_left
      · (intro w hSw; (try dsimp only at hSw); have hXw := BoxAt.cells hSw; go_simp; try with_reducible rfl)
      try simp only [Act.put, List.setIfInBounds_toArray, List.set_cons_zero, List.set_cons_succ]
      refine wpAnyH_take (i := 5) (oi := ⟨some 21, _, _, _, _, _⟩) (v := ?_) rfl (by kernel_rfl) (by kernel_rfl) (by kernel_rfl) (fun _ _ _ h => h) (Or.inl ⟨by rfl, ?_⟩) (by assumption) ?_; rotate_left
      · (intro w hSw; (try dsimp only at hSw); have hXw := BoxAt.cells hSw; go_simp; try with_reducible rfl)
      try simp only [Act.put, List.setIfInBounds_toArray, List.set_cons_zero, List.set_cons_succ]
      refine wpAnyH_ready (rs := [3]) (by kernel_rfl) (by simp) ?_; refine AllReadyH.cons (o := ⟨some 19, _, _, _, _, _⟩) rfl (fun K hK => ?_) AllReadyH.nil; go_simp
      (go_at_call 139; refine Calls.mono (write_bit p.present 0 1 (by decide) _) ?_; rintro e w9 ⟨rfl, rfl⟩; go_simp)
      refine hK.out _ _ ?_ (fun hHeld => ?_)
      · (first | exact HB.out | exact HB.out.below (below_draws (n := 1) rfl) | exact HB.out.below ((Below.refl _ _).alloc (Nat.le_refl _) _))
      clear hK K; replace HB := Lib.hid hHeld; try simp only [Act.put, List.setIfInBounds_toArray, List.set_cons_zero, List.set_cons_succ]
      refine wpAnyH_ready (rs := [6]) (by kernel_rfl) (by simp) ?_; refine AllReadyH.cons (o := ⟨some 22, _, _, _, _, _⟩) rfl (fun K hK => ?_) AllReadyH.nil; go_simp; skip; refine hK.out _ _ ?_ (fun hHeld => ?_)
      · (first | exact HB.out | exact HB.out.below (below_draws (n := 1) rfl) | exact HB.out.below ((Below.refl _ _).alloc (Nat.le_refl _) _))
      clear hK K; replace HB := Lib.hid hHeld; generalize hgw : World.alloc _ _ = w8 at hHeld ⊢; have HB := Lib.hid hHeld; have hal := al_below hgw; replace HO := Lib.hid (HO.out.below hal); replace HU := Lib.hid (HU.out.then hal); have HN := Lib.hid (newsL hgw); clear hgw hal; try simp only [Act.put, List.setIfInBounds_toArray, List.set_cons_zero, List.set_cons_succ]
      refine wpAnyH_ready (rs := [7]) (by kernel_rfl) (by simp) ?_; refine AllReadyH.cons (o := ⟨some 23, _, _, _, _, _⟩) rfl (fun K hK => ?_) AllReadyH.nil
      (refine step_append_cells rfl _ _ 22 rfl B 5 i0 _ 1 1 Tryz.underlying22 hi hz0 hz1 hz2 rfl (by decide) _ _ _ rfl HO.out _ 2 2 (fun h => by cases h) _ rfl rfl HN.out (by intro u hu; simp only [List.mem_cons, List.not_mem_nil, or_false] at hu; rcases hu with rfl | rfl <;> rfl) HX5.out HX4'.out (Nat.le_trans hB HU.out.size) ?_; intro v9 w9 hown9 hg9; have hu9 := OnlyU.grown HO.out hg9; replace HB := Lib.hid (OnlyU.box hu9 HB.out (by decide)); replace HU := Lib.hid (HU.out.trans hu9); have HW9 := Lib.hid hown9; clear hown9 hg9 hu9 HO HN)
      refine hK.out _ _ ?_ (fun hHeld => ?_)
      · (first | exact HB.out | exact HB.out.below (below_draws (n := 1) rfl) | exact HB.out.below ((Below.refl _ _).alloc (Nat.le_refl _) _))
      clear hK K; replace HB := Lib.hid hHeld; try simp only [Act.put, List.setIfInBounds_toArray, List.set_cons_zero, List.set_cons_succ]
      refine wpAnyH_take (i := 8) (oi := ⟨some 4, _, _, _, _, _⟩) (v := ?_) rfl (by kernel_rfl) (by kernel_rfl) (by kernel_rfl) (fun _ _ _ h => h) (Or.inl ⟨by rfl, ?_⟩) (by assumption) ?_; rotate_left
      · (intro w hSw; (try dsimp only at hSw); have hXw := BoxAt.cells hSw; go_simp; try with_reducible rfl)
      try simp only [Act.put, List.setIfInBounds_toArray, List.set_cons_zero, List.set_cons_succ]
      refine wpAnyH_done (by kernel_rfl) ?_ _; refine NoPanic.normal ?_; go_wp2_with fail
      go_ret
      exact FIN.out _ _ (by rw [HR.out]; exact out_app HW9.out rfl HCF.out.symm) HU.out
    · have e2 : ((p.ty : Int) == 2) = false := by rw [beq_eq_false_iff_ne]; omega
      obtain ⟨hb1, hb2, hb3⟩ := body_parts hp hr h1 h2; have HR := Lib.hid (show restB p = otherB p by unfold restB; rw [if_neg h1, if_neg h2]); have hidl := hp.id; have hcz := hp.codes; have hpz := hp.payload; have hfew := hp.few; have hty := hp.ty; have HB2 := Lib.hid hb2; have HA := Lib.hid ha; have HLOW := Lib.hid hlow; clear hr hp ha hlow h1 h2 hb2; have hsl : ∀ k, ((p.subs.take k).flatMap (subB p.ty)).length ≤ 268435455 := fun k => Nat.le_trans (flat_take _ _ _) hb3
      have HSL := Lib.hid hsl; clear hsl; by_cases h3 : p.ty = 3
      · have e3 : ((p.ty : Int) == 3) = true := by rw [h3]; rfl
        have htp := hb1 h3; clear hb1; by_cases h0 : 0 < p.id
        ·
         have ei : (0 : Int) < (p.id : Int) := by omega
         have HPRE := Lib.hid (show otherB p = dataB p.topic ++ wordB p.id ++ p.subs.flatMap (subB p.ty) ++ bl p.codes ++ bl p.payload by unfold otherB; rw [if_pos h3, if_neg (by omega)]); clear h3 h0; go_enter Tryz.func114, Tryz.ntmps114
         go_wp2_with (first
           | (go_at_call 141; (with_reducible show Calls _ _ #[_, .string p.topic] _ _); refine Calls.mono (write_field B _ _ p.topic _ HO.out (Nat.le_trans hB HU.out.size) htp (by first | omega | (simp only [List.length_append, dataB_len, wordB, List.length_cons, List.length_nil]; omega))) ?_; rintro e w9 ⟨v9, rfl, hO9, hu9⟩; replace HB := Lib.hid (OnlyU.box hu9 HB.out (by decide)); replace HU := Lib.hid (HU.out.trans hu9); replace HO := Lib.hid hO9; clear hu9 hO9; replace hX := HB.out.cells)
           | (go_at_call 142; refine Calls.mono (write_word B _ _ p.id _ HO.out (Nat.le_trans hB HU.out.size) (by omega) (by first | omega | (simp only [List.length_append, dataB_len]; omega))) ?_; rintro e w9 ⟨v9, rfl, hO9, hu9⟩; replace HB := Lib.hid (OnlyU.box hu9 HB.out (by decide)); replace HU := Lib.hid (HU.out.trans hu9); replace HO := Lib.hid hO9; clear hu9 hO9; replace hX := HB.out.cells))
         clear hX; go_loopw [0, 40] (fun o i wr => ∃ k : Nat, k ≤ p.subs.length ∧ i = .int .i64 k ∧ Hid (Out wr B o (L ++ dataB p.topic ++ wordB p.id ++ (p.subs.take k).flatMap (subB p.ty))) ∧ Hid (BoxAt wr w.heap.size (pkV p a c) 33) ∧ Hid (OnlyU B w wr)) (fun _ i _ => p.subs.length - (intOf i).toNat)
         case atStart => exact ⟨0, by omega, rfl, out_eq HO.out (by simp), HB, HU⟩
         case round =>
           clear HO HB HU; obtain ⟨k, hk, rfl, HO, HB, HU⟩ := hrel; have hX := HB.out.cells; have hsz := HU.out.size; by_cases hlt : k < p.subs.length
           · obtain ⟨x, hx⟩ : ∃ x, p.subs[k]? = some x := ⟨_, List.getElem?_eq_getElem hlt⟩
             obtain ⟨bb, oo, ha1, c1, c2⟩ := (cells_low HA.out HLOW.out (HU.out.low hB)).sub hx; subst ha1; have hxb := HB2.out x (List.mem_of_getElem? hx); have HFS := Lib.hid (flat_snoc p.ty p.subs k x hx); have hfl := HSL.out k; obtain ⟨x1, x2⟩ := x; dsimp only at c1 c2 hxb
             obtain ⟨hx1, hx2⟩ := hxb; clear hx; have hal : Below wr.heap.size wr (wr.alloc (.cells #[.string x1, .int .u8 (x2 : Int)] 112)) := (Below.refl _ _).alloc (Nat.le_refl _) _; have HSB := Lib.hid (BoxAt.new wr #[.string x1, .int .u8 (x2 : Int)] 112); have HOa := Lib.hid (HO.out.below hal); have HBa := Lib.hid (HB.out.below hal); have HUa := Lib.hid (HU.out.then hal); clear hal; by_cases h8 : p.ty = 8
             · have e8 : ((p.ty : Int) == 8) = true := by rw [h8]; rfl
               have HSX := Lib.hid (show subB p.ty (x1, x2) = dataB x1 ++ [byteN x2] by unfold subB; rw [if_pos h8]); have HX2 := Lib.hid (show u8V [byteN x2] = [.int .u8 (x2 : Int)] by have := u8V_snoc [] x2 (by omega); simpa [u8V] using this); clear h8; go_wp2_with (first
                 | (go_at_call 141; refine Calls.mono (write_field B _ _ x1 _ HOa.out (Nat.le_trans hB HUa.out.size) hx1 (by simp only [List.length_append, dataB_len, wordB, List.length_cons, List.length_nil]; omega)) ?_; rintro e w9 ⟨v9, rfl, hO9, hu9⟩; replace HB := Lib.hid (OnlyU.box hu9 HBa.out (by decide)); replace HU := Lib.hid (HUa.out.trans hu9); replace HO := Lib.hid hO9; replace HSB := Lib.hid (OnlyU.box hu9 HSB.out (by decide)); clear hu9 hO9 HOa HBa HUa; replace hX := HB.out.cells; have hS := HSB.out.cells)
                 | (at_builtin; have hal : Below w9.heap.size w9 (w9.alloc (.cells #[.int .u8 (x2 : Int)] 5)) := (Below.refl _ _).alloc (Nat.le_refl _) _; have HO3 := Lib.hid (HO.out.below hal); replace HB := Lib.hid (HB.out.below hal); replace HU := Lib.hid (HU.out.then hal); clear hal; refine wpList_append_own _ rfl _ _ 22 rfl B 5 i0 _ 1 1 Tryz.underlying22 hi hz0 hz1 hz2 rfl (by decide) _ _ _ rfl HO3.out ⟨w9.heap.size, 0, none⟩ 1 1 [.int .u8 (x2 : Int)] rfl rfl (newsN _ _ _ _ rfl) (by intro u hu; simp at hu; subst hu; rfl) (by unfold maxLen; simp only [List.length_append, dataB_len, wordB, List.length_cons, List.length_nil]; omega) (by simp only [List.length_append, dataB_len, wordB, List.length_cons, List.length_nil]; omega) (Nat.le_trans hB HU.out.size) ?_; intro v8 w8 hown8 hg8 _; have hu8 := OnlyU.grown HO3.out hg8; replace HB := Lib.hid (OnlyU.box hu8 HB.out (by decide)); replace HU := Lib.hid (HU.out.trans hu8); have HW8 := Lib.hid hown8; clear hown8 hg8 hu8 HO3))
               go_roundw
               case rel => exact ⟨k + 1, by omega, by first | rfl | go_num, out_eq (out_app HW8.out rfl HX2.out.symm) (by rw [HFS.out, HSX.out]; simp only [List.append_assoc]), HB, HU⟩
               case measure => simp [intOf]; omega
             · have e8 : ((p.ty : Int) == 8) = false := by rw [beq_eq_false_iff_ne]; omega
               have HSX := Lib.hid (show subB p.ty (x1, x2) = dataB x1 by unfold subB; rw [if_neg h8, List.append_nil]); clear h8; go_wp2_with (go_at_call 141; refine Calls.mono (write_field B _ _ x1 _ HOa.out (Nat.le_trans hB HUa.out.size) hx1 (by simp only [List.length_append, dataB_len, wordB, List.length_cons, List.length_nil]; omega)) ?_; rintro e w9 ⟨v9, rfl, hO9, hu9⟩; replace HB := Lib.hid (OnlyU.box hu9 HBa.out (by decide)); replace HU := Lib.hid (HUa.out.trans hu9); replace HO := Lib.hid hO9; replace HSB := Lib.hid (OnlyU.box hu9 HSB.out (by decide)); clear hu9 hO9 HOa HBa HUa; replace hX := HB.out.cells; have hS := HSB.out.cells)
               go_roundw
               case rel => exact ⟨k + 1, by omega, by first | rfl | go_num, out_eq HO.out (by rw [HFS.out, HSX.out]; simp only [List.append_assoc]), HB, HU⟩
               case measure => simp [intOf]; omega
           · have hk2 : k = p.subs.length := by omega
             have hfl := HSL.out k; have HFT := Lib.hid (show (p.subs.take k).flatMap (subB p.ty) = p.subs.flatMap (subB p.ty) by rw [hk2, List.take_length]); subst hk2; go_wp2_with (first
               | (at_builtin; have X1 := HO.out; have X3 := Nat.le_trans hB HU.out.size; refine (@Lib.wpList_append_own_string Tryz.prog _) rfl (.tmp 57) (.tmp 59) 22 9 rfl B 5 i0 Tryz.underlying22 Tryz.underlying9 hi hz0 hz1 hz2 _ _ _ rfl X1 (p.codes) rfl (by unfold maxLen; simp only [List.length_append, dataB_len, wordB, List.length_cons, List.length_nil]; omega) (by simp only [List.length_append, dataB_len, wordB, List.length_cons, List.length_nil]; omega) X3 ?_; intro v9 w9 hown9 hg9 _; have hu9 := OnlyU.grown X1 hg9; have hO9 := out_append hown9; clear hown9 hg9 X1 X3; replace HB := Lib.hid (OnlyU.box hu9 HB.out (by decide)); replace HU := Lib.hid (HU.out.trans hu9); replace HO := Lib.hid hO9; clear hu9 hO9; replace hX := HB.out.cells)
               | (at_builtin; have X1 := HO.out; have X3 := Nat.le_trans hB HU.out.size; refine (@Lib.wpList_append_own_string Tryz.prog _) rfl (.tmp 61) (.tmp 63) 22 9 rfl B 5 i0 Tryz.underlying22 Tryz.underlying9 hi hz0 hz1 hz2 _ _ _ rfl X1 (p.payload) rfl (by unfold maxLen; simp only [List.length_append, dataB_len, wordB, List.length_cons, List.length_nil, blen]; omega) (by simp only [List.length_append, dataB_len, wordB, List.length_cons, List.length_nil, blen]; omega) X3 ?_; intro v9 w9 hown9 hg9 _; have hu9 := OnlyU.grown X1 hg9; have hO9 := out_append hown9; clear hown9 hg9 X1 X3; replace HB := Lib.hid (OnlyU.box hu9 HB.out (by decide)); replace HU := Lib.hid (HU.out.trans hu9); replace HO := Lib.hid hO9; clear hu9 hO9; replace hX := HB.out.cells))
             go_ret
             exact FIN.out _ _ (out_eq HO.out (by rw [HR.out, HPRE.out, HFT.out]; simp only [List.append_assoc])) HU.out
        ·
         have ei : decide ((0 : Int) < (p.id : Int)) = false := by rw [decide_eq_false_iff_not]; omega
         have ei2 : decide (0 < p.id) = false := by rw [decide_eq_false_iff_not]; omega
         have HPRE := Lib.hid (show otherB p = dataB p.topic ++ [] ++ p.subs.flatMap (subB p.ty) ++ bl p.codes ++ bl p.payload by unfold otherB; rw [if_pos h3, if_pos (by omega)]); clear h3 h0; go_enter Tryz.func114, Tryz.ntmps114
         go_wp2_with (first
           | (go_at_call 141; (with_reducible show Calls _ _ #[_, .string p.topic] _ _); refine Calls.mono (write_field B _ _ p.topic _ HO.out (Nat.le_trans hB HU.out.size) htp (by first | omega | (simp only [List.length_append, dataB_len, wordB, List.length_cons, List.length_nil]; omega))) ?_; rintro e w9 ⟨v9, rfl, hO9, hu9⟩; replace HB := Lib.hid (OnlyU.box hu9 HB.out (by decide)); replace HU := Lib.hid (HU.out.trans hu9); replace HO := Lib.hid hO9; clear hu9 hO9; replace hX := HB.out.cells))
         clear hX; go_loopw [0, 40] (fun o i wr => ∃ k : Nat, k ≤ p.subs.length ∧ i = .int .i64 k ∧ Hid (Out wr B o (L ++ dataB p.topic ++ (p.subs.take k).flatMap (subB p.ty))) ∧ Hid (BoxAt wr w.heap.size (pkV p a c) 33) ∧ Hid (OnlyU B w wr)) (fun _ i _ => p.subs.length - (intOf i).toNat)
         case atStart => exact ⟨0, by omega, rfl, out_eq HO.out (by simp), HB, HU⟩
         case round =>
           clear HO HB HU; obtain ⟨k, hk, rfl, HO, HB, HU⟩ := hrel; have hX := HB.out.cells; have hsz := HU.out.size; by_cases hlt : k < p.subs.length
           · obtain ⟨x, hx⟩ : ∃ x, p.subs[k]? = some x := ⟨_, List.getElem?_eq_getElem hlt⟩
             obtain ⟨bb, oo, ha1, c1, c2⟩ := (cells_low HA.out HLOW.out (HU.out.low hB)).sub hx; subst ha1; have hxb := HB2.out x (List.mem_of_getElem? hx); have HFS := Lib.hid (flat_snoc p.ty p.subs k x hx); have hfl := HSL.out k; obtain ⟨x1, x2⟩ := x; dsimp only at c1 c2 hxb
             obtain ⟨hx1, hx2⟩ := hxb; clear hx; have hal : Below wr.heap.size wr (wr.alloc (.cells #[.string x1, .int .u8 (x2 : Int)] 112)) := (Below.refl _ _).alloc (Nat.le_refl _) _; have HSB := Lib.hid (BoxAt.new wr #[.string x1, .int .u8 (x2 : Int)] 112); have HOa := Lib.hid (HO.out.below hal); have HBa := Lib.hid (HB.out.below hal); have HUa := Lib.hid (HU.out.then hal); clear hal; by_cases h8 : p.ty = 8
             · have e8 : ((p.ty : Int) == 8) = true := by rw [h8]; rfl
               have HSX := Lib.hid (show subB p.ty (x1, x2) = dataB x1 ++ [byteN x2] by unfold subB; rw [if_pos h8]); have HX2 := Lib.hid (show u8V [byteN x2] = [.int .u8 (x2 : Int)] by have := u8V_snoc [] x2 (by omega); simpa [u8V] using this); clear h8; go_wp2_with (first
                 | (go_at_call 141; refine Calls.mono (write_field B _ _ x1 _ HOa.out (Nat.le_trans hB HUa.out.size) hx1 (by simp only [List.length_append, dataB_len]; omega)) ?_; rintro e w9 ⟨v9, rfl, hO9, hu9⟩; replace HB := Lib.hid (OnlyU.box hu9 HBa.out (by decide)); replace HU := Lib.hid (HUa.out.trans hu9); replace HO := Lib.hid hO9; replace HSB := Lib.hid (OnlyU.box hu9 HSB.out (by decide)); clear hu9 hO9 HOa HBa HUa; replace hX := HB.out.cells; have hS := HSB.out.cells)
                 | (at_builtin; have hal : Below w9.heap.size w9 (w9.alloc (.cells #[.int .u8 (x2 : Int)] 5)) := (Below.refl _ _).alloc (Nat.le_refl _) _; have HO3 := Lib.hid (HO.out.below hal); replace HB := Lib.hid (HB.out.below hal); replace HU := Lib.hid (HU.out.then hal); clear hal; refine wpList_append_own _ rfl _ _ 22 rfl B 5 i0 _ 1 1 Tryz.underlying22 hi hz0 hz1 hz2 rfl (by decide) _ _ _ rfl HO3.out ⟨w9.heap.size, 0, none⟩ 1 1 [.int .u8 (x2 : Int)] rfl rfl (newsN _ _ _ _ rfl) (by intro u hu; simp at hu; subst hu; rfl) (by unfold maxLen; simp only [List.length_append, dataB_len]; omega) (by simp only [List.length_append, dataB_len]; omega) (Nat.le_trans hB HU.out.size) ?_; intro v8 w8 hown8 hg8 _; have hu8 := OnlyU.grown HO3.out hg8; replace HB := Lib.hid (OnlyU.box hu8 HB.out (by decide)); replace HU := Lib.hid (HU.out.trans hu8); have HW8 := Lib.hid hown8; clear hown8 hg8 hu8 HO3))
               go_roundw
               case rel => exact ⟨k + 1, by omega, by first | rfl | go_num, out_eq (out_app HW8.out rfl HX2.out.symm) (by rw [HFS.out, HSX.out]; simp only [List.append_assoc]), HB, HU⟩
               case measure => simp [intOf]; omega
             · have e8 : ((p.ty : Int) == 8) = false := by rw [beq_eq_false_iff_ne]; omega
               have HSX := Lib.hid (show subB p.ty (x1, x2) = dataB x1 by unfold subB; rw [if_neg h8, List.append_nil]); clear h8; go_wp2_with (go_at_call 141; refine Calls.mono (write_field B _ _ x1 _ HOa.out (Nat.le_trans hB HUa.out.size) hx1 (by simp only [List.length_append, dataB_len]; omega)) ?_; rintro e w9 ⟨v9, rfl, hO9, hu9⟩; replace HB := Lib.hid (OnlyU.box hu9 HBa.out (by decide)); replace HU := Lib.hid (HUa.out.trans hu9); replace HO := Lib.hid hO9; replace HSB := Lib.hid (OnlyU.box hu9 HSB.out (by decide)); clear hu9 hO9 HOa HBa HUa; replace hX := HB.out.cells; have hS := HSB.out.cells)
               go_roundw
               case rel => exact ⟨k + 1, by omega, by first | rfl | go_num, out_eq HO.out (by rw [HFS.out, HSX.out]; simp only [List.append_assoc]), HB, HU⟩
               case measure => simp [intOf]; omega
           · have hk2 : k = p.subs.length := by omega
             have hfl := HSL.out k; have HFT := Lib.hid (show (p.subs.take k).flatMap (subB p.ty) = p.subs.flatMap (subB p.ty) by rw [hk2, List.take_length]); subst hk2; go_wp2_with (first
               | (at_builtin; have X1 := HO.out; have X3 := Nat.le_trans hB HU.out.size; refine (@Lib.wpList_append_own_string Tryz.prog _) rfl (.tmp 57) (.tmp 59) 22 9 rfl B 5 i0 Tryz.underlying22 Tryz.underlying9 hi hz0 hz1 hz2 _ _ _ rfl X1 (p.codes) rfl (by unfold maxLen; simp only [List.length_append, dataB_len]; omega) (by simp only [List.length_append, dataB_len]; omega) X3 ?_; intro v9 w9 hown9 hg9 _; have hu9 := OnlyU.grown X1 hg9; have hO9 := out_append hown9; clear hown9 hg9 X1 X3; replace HB := Lib.hid (OnlyU.box hu9 HB.out (by decide)); replace HU := Lib.hid (HU.out.trans hu9); replace HO := Lib.hid hO9; clear hu9 hO9; replace hX := HB.out.cells)
               | (at_builtin; have X1 := HO.out; have X3 := Nat.le_trans hB HU.out.size; refine (@Lib.wpList_append_own_string Tryz.prog _) rfl (.tmp 61) (.tmp 63) 22 9 rfl B 5 i0 Tryz.underlying22 Tryz.underlying9 hi hz0 hz1 hz2 _ _ _ rfl X1 (p.payload) rfl (by unfold maxLen; simp only [List.length_append, dataB_len, blen]; omega) (by simp only [List.length_append, dataB_len, blen]; omega) X3 ?_; intro v9 w9 hown9 hg9 _; have hu9 := OnlyU.grown X1 hg9; have hO9 := out_append hown9; clear hown9 hg9 X1 X3; replace HB := Lib.hid (OnlyU.box hu9 HB.out (by decide)); replace HU := Lib.hid (HU.out.trans hu9); replace HO := Lib.hid hO9; clear hu9 hO9; replace hX := HB.out.cells))
             go_ret
             exact FIN.out _ _ (out_eq HO.out (by rw [HR.out, HPRE.out, HFT.out]; simp only [List.append_assoc, List.nil_append])) HU.out
      · have e3 : ((p.ty : Int) == 3) = false := by rw [beq_eq_false_iff_ne]; omega
        clear hb1; by_cases h0 : 0 < p.id
        ·
         have ei : (0 : Int) < (p.id : Int) := by omega
         have HPRE := Lib.hid (show otherB p = [] ++ wordB p.id ++ p.subs.flatMap (subB p.ty) ++ bl p.codes ++ bl p.payload by unfold otherB; rw [if_neg h3, if_neg (by omega)]); clear h3 h0; go_enter Tryz.func114, Tryz.ntmps114
         go_wp2_with (first
           | (go_at_call 142; refine Calls.mono (write_word B _ _ p.id _ HO.out (Nat.le_trans hB HU.out.size) (by omega) (by first | omega | (simp only [List.length_append, dataB_len, wordB, List.length_cons, List.length_nil]; omega))) ?_; rintro e w9 ⟨v9, rfl, hO9, hu9⟩; replace HB := Lib.hid (OnlyU.box hu9 HB.out (by decide)); replace HU := Lib.hid (HU.out.trans hu9); replace HO := Lib.hid hO9; clear hu9 hO9; replace hX := HB.out.cells))
         clear hX; go_loopw [0, 40] (fun o i wr => ∃ k : Nat, k ≤ p.subs.length ∧ i = .int .i64 k ∧ Hid (Out wr B o (L ++ wordB p.id ++ (p.subs.take k).flatMap (subB p.ty))) ∧ Hid (BoxAt wr w.heap.size (pkV p a c) 33) ∧ Hid (OnlyU B w wr)) (fun _ i _ => p.subs.length - (intOf i).toNat)
         case atStart => exact ⟨0, by omega, rfl, out_eq HO.out (by simp), HB, HU⟩
         case round =>
           clear HO HB HU; obtain ⟨k, hk, rfl, HO, HB, HU⟩ := hrel; have hX := HB.out.cells; have hsz := HU.out.size; by_cases hlt : k < p.subs.length
           · obtain ⟨x, hx⟩ : ∃ x, p.subs[k]? = some x := ⟨_, List.getElem?_eq_getElem hlt⟩
             obtain ⟨bb, oo, ha1, c1, c2⟩ := (cells_low HA.out HLOW.out (HU.out.low hB)).sub hx; subst ha1; have hxb := HB2.out x (List.mem_of_getElem? hx); have HFS := Lib.hid (flat_snoc p.ty p.subs k x hx); have hfl := HSL.out k; obtain ⟨x1, x2⟩ := x; dsimp only at c1 c2 hxb
             obtain ⟨hx1, hx2⟩ := hxb; clear hx; have hal : Below wr.heap.size wr (wr.alloc (.cells #[.string x1, .int .u8 (x2 : Int)] 112)) := (Below.refl _ _).alloc (Nat.le_refl _) _; have HSB := Lib.hid (BoxAt.new wr #[.string x1, .int .u8 (x2 : Int)] 112); have HOa := Lib.hid (HO.out.below hal); have HBa := Lib.hid (HB.out.below hal); have HUa := Lib.hid (HU.out.then hal); clear hal; by_cases h8 : p.ty = 8
             · have e8 : ((p.ty : Int) == 8) = true := by rw [h8]; rfl
               have HSX := Lib.hid (show subB p.ty (x1, x2) = dataB x1 ++ [byteN x2] by unfold subB; rw [if_pos h8]); have HX2 := Lib.hid (show u8V [byteN x2] = [.int .u8 (x2 : Int)] by have := u8V_snoc [] x2 (by omega); simpa [u8V] using this); clear h8; go_wp2_with (first
                 | (go_at_call 141; refine Calls.mono (write_field B _ _ x1 _ HOa.out (Nat.le_trans hB HUa.out.size) hx1 (by simp only [List.length_append, wordB, List.length_cons, List.length_nil]; omega)) ?_; rintro e w9 ⟨v9, rfl, hO9, hu9⟩; replace HB := Lib.hid (OnlyU.box hu9 HBa.out (by decide)); replace HU := Lib.hid (HUa.out.trans hu9); replace HO := Lib.hid hO9; replace HSB := Lib.hid (OnlyU.box hu9 HSB.out (by decide)); clear hu9 hO9 HOa HBa HUa; replace hX := HB.out.cells; have hS := HSB.out.cells)
                 | (at_builtin; have hal : Below w9.heap.size w9 (w9.alloc (.cells #[.int .u8 (x2 : Int)] 5)) := (Below.refl _ _).alloc (Nat.le_refl _) _; have HO3 := Lib.hid (HO.out.below hal); replace HB := Lib.hid (HB.out.below hal); replace HU := Lib.hid (HU.out.then hal); clear hal; refine wpList_append_own _ rfl _ _ 22 rfl B 5 i0 _ 1 1 Tryz.underlying22 hi hz0 hz1 hz2 rfl (by decide) _ _ _ rfl HO3.out ⟨w9.heap.size, 0, none⟩ 1 1 [.int .u8 (x2 : Int)] rfl rfl (newsN _ _ _ _ rfl) (by intro u hu; simp at hu; subst hu; rfl) (by unfold maxLen; simp only [List.length_append, dataB_len, wordB, List.length_cons, List.length_nil]; omega) (by simp only [List.length_append, dataB_len, wordB, List.length_cons, List.length_nil]; omega) (Nat.le_trans hB HU.out.size) ?_; intro v8 w8 hown8 hg8 _; have hu8 := OnlyU.grown HO3.out hg8; replace HB := Lib.hid (OnlyU.box hu8 HB.out (by decide)); replace HU := Lib.hid (HU.out.trans hu8); have HW8 := Lib.hid hown8; clear hown8 hg8 hu8 HO3))
               go_roundw
               case rel => exact ⟨k + 1, by omega, by first | rfl | go_num, out_eq (out_app HW8.out rfl HX2.out.symm) (by rw [HFS.out, HSX.out]; simp only [List.append_assoc]), HB, HU⟩
               case measure => simp [intOf]; omega
             · have e8 : ((p.ty : Int) == 8) = false := by rw [beq_eq_false_iff_ne]; omega
               have HSX := Lib.hid (show subB p.ty (x1, x2) = dataB x1 by unfold subB; rw [if_neg h8, List.append_nil]); clear h8; go_wp2_with (go_at_call 141; refine Calls.mono (write_field B _ _ x1 _ HOa.out (Nat.le_trans hB HUa.out.size) hx1 (by simp only [List.length_append, wordB, List.length_cons, List.length_nil]; omega)) ?_; rintro e w9 ⟨v9, rfl, hO9, hu9⟩; replace HB := Lib.hid (OnlyU.box hu9 HBa.out (by decide)); replace HU := Lib.hid (HUa.out.trans hu9); replace HO := Lib.hid hO9; replace HSB := Lib.hid (OnlyU.box hu9 HSB.out (by decide)); clear hu9 hO9 HOa HBa HUa; replace hX := HB.out.cells; have hS := HSB.out.cells)
               go_roundw
               case rel => exact ⟨k + 1, by omega, by first | rfl | go_num, out_eq HO.out (by rw [HFS.out, HSX.out]; simp only [List.append_assoc]), HB, HU⟩
               case measure => simp [intOf]; omega
           · have hk2 : k = p.subs.length := by omega
             have hfl := HSL.out k; have HFT := Lib.hid (show (p.subs.take k).flatMap (subB p.ty) = p.subs.flatMap (subB p.ty) by rw [hk2, List.take_length]); subst hk2; go_wp2_with (first
               | (at_builtin; have X1 := HO.out; have X3 := Nat.le_trans hB HU.out.size; refine (@Lib.wpList_append_own_string Tryz.prog _) rfl (.tmp 57) (.tmp 59) 22 9 rfl B 5 i0 Tryz.underlying22 Tryz.underlying9 hi hz0 hz1 hz2 _ _ _ rfl X1 (p.codes) rfl (by unfold maxLen; simp only [List.length_append, wordB, List.length_cons, List.length_nil]; omega) (by simp only [List.length_append, wordB, List.length_cons, List.length_nil]; omega) X3 ?_; intro v9 w9 hown9 hg9 _; have hu9 := OnlyU.grown X1 hg9; have hO9 := out_append hown9; clear hown9 hg9 X1 X3; replace HB := Lib.hid (OnlyU.box hu9 HB.out (by decide)); replace HU := Lib.hid (HU.out.trans hu9); replace HO := Lib.hid hO9; clear hu9 hO9; replace hX := HB.out.cells)
               | (at_builtin; have X1 := HO.out; have X3 := Nat.le_trans hB HU.out.size; refine (@Lib.wpList_append_own_string Tryz.prog _) rfl (.tmp 61) (.tmp 63) 22 9 rfl B 5 i0 Tryz.underlying22 Tryz.underlying9 hi hz0 hz1 hz2 _ _ _ rfl X1 (p.payload) rfl (by unfold maxLen; simp only [List.length_append, wordB, List.length_cons, List.length_nil, blen]; omega) (by simp only [List.length_append, wordB, List.length_cons, List.length_nil, blen]; omega) X3 ?_; intro v9 w9 hown9 hg9 _; have hu9 := OnlyU.grown X1 hg9; have hO9 := out_append hown9; clear hown9 hg9 X1 X3; replace HB := Lib.hid (OnlyU.box hu9 HB.out (by decide)); replace HU := Lib.hid (HU.out.trans hu9); replace HO := Lib.hid hO9; clear hu9 hO9; replace hX := HB.out.cells))
             go_ret
             exact FIN.out _ _ (out_eq HO.out (by rw [HR.out, HPRE.out, HFT.out]; simp only [List.append_assoc, List.nil_append])) HU.out
        ·
         have ei : decide ((0 : Int) < (p.id : Int)) = false := by rw [decide_eq_false_iff_not]; omega
         have ei2 : decide (0 < p.id) = false := by rw [decide_eq_false_iff_not]; omega
         have HPRE := Lib.hid (show otherB p = [] ++ [] ++ p.subs.flatMap (subB p.ty) ++ bl p.codes ++ bl p.payload by unfold otherB; rw [if_neg h3, if_pos (by omega)]); clear h3 h0; go_enter Tryz.func114, Tryz.ntmps114
         go_wp2_with fail
         clear hX; go_loopw [0, 40] (fun o i wr => ∃ k : Nat, k ≤ p.subs.length ∧ i = .int .i64 k ∧ Hid (Out wr B o (L ++ (p.subs.take k).flatMap (subB p.ty))) ∧ Hid (BoxAt wr w.heap.size (pkV p a c) 33) ∧ Hid (OnlyU B w wr)) (fun _ i _ => p.subs.length - (intOf i).toNat)
         case atStart => exact ⟨0, by omega, rfl, out_eq HO.out (by simp), HB, HU⟩
         case round =>
           clear HO HB HU; obtain ⟨k, hk, rfl, HO, HB, HU⟩ := hrel; have hX := HB.out.cells; have hsz := HU.out.size; by_cases hlt : k < p.subs.length
           · obtain ⟨x, hx⟩ : ∃ x, p.subs[k]? = some x := ⟨_, List.getElem?_eq_getElem hlt⟩
             obtain ⟨bb, oo, ha1, c1, c2⟩ := (cells_low HA.out HLOW.out (HU.out.low hB)).sub hx; subst ha1; have hxb := HB2.out x (List.mem_of_getElem? hx); have HFS := Lib.hid (flat_snoc p.ty p.subs k x hx); have hfl := HSL.out k; obtain ⟨x1, x2⟩ := x; dsimp only at c1 c2 hxb
             obtain ⟨hx1, hx2⟩ := hxb; clear hx; have hal : Below wr.heap.size wr (wr.alloc (.cells #[.string x1, .int .u8 (x2 : Int)] 112)) := (Below.refl _ _).alloc (Nat.le_refl _) _; have HSB := Lib.hid (BoxAt.new wr #[.string x1, .int .u8 (x2 : Int)] 112); have HOa := Lib.hid (HO.out.below hal); have HBa := Lib.hid (HB.out.below hal); have HUa := Lib.hid (HU.out.then hal); clear hal; by_cases h8 : p.ty = 8
             · have e8 : ((p.ty : Int) == 8) = true := by rw [h8]; rfl
               have HSX := Lib.hid (show subB p.ty (x1, x2) = dataB x1 ++ [byteN x2] by unfold subB; rw [if_pos h8]); have HX2 := Lib.hid (show u8V [byteN x2] = [.int .u8 (x2 : Int)] by have := u8V_snoc [] x2 (by omega); simpa [u8V] using this); clear h8; go_wp2_with (first
                 | (go_at_call 141; refine Calls.mono (write_field B _ _ x1 _ HOa.out (Nat.le_trans hB HUa.out.size) hx1 (by simp only [List.length_append]; omega)) ?_; rintro e w9 ⟨v9, rfl, hO9, hu9⟩; replace HB := Lib.hid (OnlyU.box hu9 HBa.out (by decide)); replace HU := Lib.hid (HUa.out.trans hu9); replace HO := Lib.hid hO9; replace HSB := Lib.hid (OnlyU.box hu9 HSB.out (by decide)); clear hu9 hO9 HOa HBa HUa; replace hX := HB.out.cells; have hS := HSB.out.cells)
                 | (at_builtin; have hal : Below w9.heap.size w9 (w9.alloc (.cells #[.int .u8 (x2 : Int)] 5)) := (Below.refl _ _).alloc (Nat.le_refl _) _; have HO3 := Lib.hid (HO.out.below hal); replace HB := Lib.hid (HB.out.below hal); replace HU := Lib.hid (HU.out.then hal); clear hal; refine wpList_append_own _ rfl _ _ 22 rfl B 5 i0 _ 1 1 Tryz.underlying22 hi hz0 hz1 hz2 rfl (by decide) _ _ _ rfl HO3.out ⟨w9.heap.size, 0, none⟩ 1 1 [.int .u8 (x2 : Int)] rfl rfl (newsN _ _ _ _ rfl) (by intro u hu; simp at hu; subst hu; rfl) (by unfold maxLen; simp only [List.length_append, dataB_len]; omega) (by simp only [List.length_append, dataB_len]; omega) (Nat.le_trans hB HU.out.size) ?_; intro v8 w8 hown8 hg8 _; have hu8 := OnlyU.grown HO3.out hg8; replace HB := Lib.hid (OnlyU.box hu8 HB.out (by decide)); replace HU := Lib.hid (HU.out.trans hu8); have HW8 := Lib.hid hown8; clear hown8 hg8 hu8 HO3))
               go_roundw
               case rel => exact ⟨k + 1, by omega, by first | rfl | go_num, out_eq (out_app HW8.out rfl HX2.out.symm) (by rw [HFS.out, HSX.out]; simp only [List.append_assoc]), HB, HU⟩
               case measure => simp [intOf]; omega
             · have e8 : ((p.ty : Int) == 8) = false := by rw [beq_eq_false_iff_ne]; omega
               have HSX := Lib.hid (show subB p.ty (x1, x2) = dataB x1 by unfold subB; rw [if_neg h8, List.append_nil]); clear h8; go_wp2_with (go_at_call 141; refine Calls.mono (write_field B _ _ x1 _ HOa.out (Nat.le_trans hB HUa.out.size) hx1 (by simp only [List.length_append]; omega)) ?_; rintro e w9 ⟨v9, rfl, hO9, hu9⟩; replace HB := Lib.hid (OnlyU.box hu9 HBa.out (by decide)); replace HU := Lib.hid (HUa.out.trans hu9); replace HO := Lib.hid hO9; replace HSB := Lib.hid (OnlyU.box hu9 HSB.out (by decide)); clear hu9 hO9 HOa HBa HUa; replace hX := HB.out.cells; have hS := HSB.out.cells)
               go_roundw
               case rel => exact ⟨k + 1, by omega, by first | rfl | go_num, out_eq HO.out (by rw [HFS.out, HSX.out]; simp only [List.append_assoc]), HB, HU⟩
               case measure => simp [intOf]; omega
           · have hk2 : k = p.subs.length := by omega
             have hfl := HSL.out k; have HFT := Lib.hid (show (p.subs.take k).flatMap (subB p.ty) = p.subs.flatMap (subB p.ty) by rw [hk2, List.take_length]); subst hk2; go_wp2_with (first
               | (at_builtin; have X1 := HO.out; have X3 := Nat.le_trans hB HU.out.size; refine (@Lib.wpList_append_own_string Tryz.prog _) rfl (.tmp 57) (.tmp 59) 22 9 rfl B 5 i0 Tryz.underlying22 Tryz.underlying9 hi hz0 hz1 hz2 _ _ _ rfl X1 (p.codes) rfl (by unfold maxLen; simp only [List.length_append]; omega) (by simp only [List.length_append]; omega) X3 ?_; intro v9 w9 hown9 hg9 _; have hu9 := OnlyU.grown X1 hg9; have hO9 := out_append hown9; clear hown9 hg9 X1 X3; replace HB := Lib.hid (OnlyU.box hu9 HB.out (by decide)); replace HU := Lib.hid (HU.out.trans hu9); replace HO := Lib.hid hO9; clear hu9 hO9; replace hX := HB.out.cells)
               | (at_builtin; have X1 := HO.out; have X3 := Nat.le_trans hB HU.out.size; refine (@Lib.wpList_append_own_string Tryz.prog _) rfl (.tmp 61) (.tmp 63) 22 9 rfl B 5 i0 Tryz.underlying22 Tryz.underlying9 hi hz0 hz1 hz2 _ _ _ rfl X1 (p.payload) rfl (by unfold maxLen; simp only [List.length_append, blen]; omega) (by simp only [List.length_append, blen]; omega) X3 ?_; intro v9 w9 hown9 hg9 _; have hu9 := OnlyU.grown X1 hg9; have hO9 := out_append hown9; clear hown9 hg9 X1 X3; replace HB := Lib.hid (OnlyU.box hu9 HB.out (by decide)); replace HU := Lib.hid (HU.out.trans hu9); replace HO := Lib.hid hO9; clear hu9 hO9; replace hX := HB.out.cells))
             go_ret
             exact FIN.out _ _ (out_eq HO.out (by rw [HR.out, HPRE.out, HFT.out]; simp only [List.append_assoc, List.nil_append])) HU.out
end Go.Proofs.YtnnpokndajpkiaaGreatDoor
