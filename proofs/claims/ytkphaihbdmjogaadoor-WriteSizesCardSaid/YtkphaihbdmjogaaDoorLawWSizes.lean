/- The walk of WriteSizes. Conditions: the decoder's tables lie as Go lays them; the packet's list in its cells. -/
import Derived.Test.YtkphaihbdmjogaaDoorReadLen
import Derived.Test.YtkphaihbdmjogaaDoorLaw03Great
import Derived.Test.YtkphaihbdmjogaaDoorCardPk
namespace Go.Proofs.YtkphaihbdmjogaaDoor
open Go.RowKit
theorem wrap_small : ∀ t : Nat, t < 16 → IntKind.u8.wrap (t : Int) = (t : Int) := by decide +kernel
theorem bl_e0 : bl e0 = [] := rfl
theorem rest_end {p : Pk} (h : 0 ≤ restP p) : ∃ A, restB p = A ++ bl (p.payload ++ p.codes) := by
  have hz := (zeros_iff p).1 (rest_bare h)
  have hb : bl (p.payload ++ p.codes) = bl p.payload ++ bl p.codes := by unfold bl; simp
  rw [hb]
  by_cases h3 : p.ty = 3
  · rw [hz.z9 (by omega), bl_e0, List.append_nil]
    unfold restB otherB
    rw [if_neg (by omega), if_neg (by omega), hz.z9 (by omega), bl_e0, List.append_nil]
    exact ⟨_, rfl⟩
  · have hp := (hz.z3 h3).2.2.2.2
    rw [hp, bl_e0, List.nil_append]
    by_cases h9 : p.ty = 9
    · unfold restB otherB
      rw [if_neg (by omega), if_neg (by omega), hp, bl_e0, List.append_nil]
      exact ⟨_, rfl⟩
    · rw [hz.z9 h9, bl_e0]
      exact ⟨_, (List.append_nil _).symm⟩
theorem s_cut (s : ByteArray) (k : Nat) : bl (s.extract k s.size) = (bl s).drop k := Lib.extract_to_end s k
theorem bl_same {x y : ByteArray} (h : bl x = bl y) : x = y := bl_inj h
theorem first_at {p : Pk} (hp : PkOk p) (h : 0 ≤ restP p) (s : ByteArray) (hs : s = encS p) : ∃ z, ∃ hk : 0 < s.size, (s[0]'hk).toNat = z ∧ z / 16 = p.ty := by
  subst hs
  have hty := rest_types h
  have hq : p.ty = 3 → p.qos ≤ 2 := fun h3 => (pub_parts h3 h).2.1
  have hf := flags_lt p hq
  have hb : (bl (encS p))[0]? = some (byteN (16 * p.ty + flagsN p)) := by rw [encS_good h]; rfl
  obtain ⟨hk, e⟩ := at_bl _ _ _ hb
  exact ⟨_, hk, rfl, by rw [e, byteN_toNat]; omega⟩
set_option maxRecDepth 100000 in
set_option maxHeartbeats 4000000 in
set_option pp.deepTerms true in
set_option pp.maxSteps 1000000 in
theorem law04_WriteSizes (p : Pk) (a : Option Addr) (c : Nat) (w : World) (hE : Env w) (hq : PkArg w p a c) : Calls Tryd.prog 14 #[.agg (pkV p a c)] w fun e w' => e = .returned (.bool true) ∧ Below w.heap.size w w' := by
  have ht := hq.ty
  have ha := hq.row
  clear hq
  have HK := Lib.hid ((Keep.begin hE [(a, subCells p.subs)] (by intro r hr; simp at hr; subst hr; exact ha)).alloc' (pkV p a c) 27 w.heap.size rfl)
  have hG := fun w1 ha => law03_Great p a c w1 ha
  clear hE ha
  obtain ⟨g, hg⟩ : ∃ g, greatB p = g := ⟨_, rfl⟩
  rw [hg] at hG
  have HG := Lib.hid hG
  clear hG
  cases g
  · have hsm := small_of hg
    have hp := hsm.ok ht
    have hpz := hp.payload
    have hcz := hp.codes
    have hR := fun w1 hE ha => packet_Rest p a c w1 hE hp ha
    have hN := fun w1 hE ha => write_Encode p a c w1 hE hp ha
    have hS := fun w1 hE ha => write_Size p a c w1 hE hp ha
    obtain ⟨k0, k1, k2, k3, k4, k5, k6, k7, k8, k9, k10, k11, k12, k13, k14, k15, k16, k17, k18, k19, k20, k21, k22, k23⟩ := pk_at p a c
    by_cases h0 : restP p < 0
    · have hsz : sizeN p = 0 := by unfold sizeN; rw [if_pos h0]
      rw [encS_bad h0, encE_bad h0] at hN
      rw [hsz] at hS
      rw [restP_neg p h0] at hR
      have HR := Lib.hid hR
      have HN := Lib.hid hN
      have HS := Lib.hid hS
      clear hR hN hS hsz ht hp hsm hg h0
      go_enter Tryd.func14, Tryd.ntmps14
      go_wp2_with (first
        | ((with_reducible show wpList _ _ _ (⟨some 10, _, _, _, _, _⟩ :: _) _ _); refine wpList_load_box rfl 27 _ rfl _ rfl 27 _ (HK.out.at 0 rfl) _ Tryd.underlying27 rfl (pk_size _ _ _) ?_)
        | ((with_reducible show wpList _ _ _ (⟨some 14, _, _, _, _, _⟩ :: _) _ _); refine wpList_load_box rfl 27 _ rfl _ rfl 27 _ (HK.out.at 0 rfl) _ Tryd.underlying27 rfl (pk_size _ _ _) ?_)
        | ((with_reducible show wpList _ _ _ (⟨some 18, _, _, _, _, _⟩ :: _) _ _); refine wpList_load_box rfl 27 _ rfl _ rfl 27 _ (HK.out.at 0 rfl) _ Tryd.underlying27 rfl (pk_size _ _ _) ?_)
        | ((with_reducible show wpList _ _ _ (⟨some 29, _, _, _, _, _⟩ :: _) _ _); refine wpList_load_boxG (by kernel_rfl) 27 _ rfl _ rfl 27 _ (by (first | exact HK.out.at 0 rfl)) _ Tryd.underlying27 rfl (pk_size _ _ _) ?_)
        | (go_at_call 17; refine Calls.mono (HG.out _ (HK.out.rowAt 0 rfl)) ?_; rintro e w1 ⟨rfl, hb1⟩; replace HK := Lib.hid (HK.out.below hb1); clear hb1)
        | (go_at_call 31; refine Calls.mono (HN.out _ HK.out.env (HK.out.rowAt 0 rfl)) ?_; rintro e w1 ⟨rfl, hb1⟩; replace HK := Lib.hid (HK.out.below hb1); clear hb1)
        | (go_at_call 20; refine Calls.mono (HR.out _ HK.out.env (HK.out.rowAt 0 rfl)) ?_; rintro e w1 ⟨rfl, hb1⟩; replace HK := Lib.hid (HK.out.below hb1); clear hb1)
        | (go_at_call 32; refine Calls.mono (HS.out _ HK.out.env (HK.out.rowAt 0 rfl)) ?_; rintro e w1 ⟨rfl, hb1⟩; replace HK := Lib.hid (HK.out.below hb1); clear hb1)
        | (go_at_call 33; refine Calls.mono (law04_awake _ HK.out.env) ?_; rintro e w1 ⟨rfl, hb1⟩; replace HK := Lib.hid (HK.out.below hb1); clear hb1))
      go_ret
      exact ⟨rfl, HK.out.low⟩
    · have h1 : 0 ≤ restP p := by omega
      have hmx := restP_max p
      obtain ⟨n, hn⟩ : ∃ n : Nat, restP p = (n : Int) := ⟨(restP p).toNat, by omega⟩
      have hn2 : n ≤ 268435455 := by omega
      have hlz := lenS_le n
      have hsz : sizeN p = 1 + lenS n + n := by unfold sizeN; rw [if_neg h0, hn]; rfl
      have hes := size_good hp h1
      obtain ⟨A, hA⟩ := rest_end h1
      have hrl := restB_len p hp h1
      have hbs : bl (encS p) = byteN (16 * p.ty + flagsN p) :: (lenB n ++ restB p) := by rw [encS_good h1]; show encB p = _; unfold encB; rw [hn]; rfl
      obtain ⟨z, hk0, hz, hzt⟩ := first_at hp h1 _ rfl
      rw [encE_good h1] at hN
      rw [hn] at hR hrl
      rw [hes] at hS
      rw [hes] at hsz
      generalize encS p = s at *
      have hx1 : bl (s.extract 1 s.size) = lenB n ++ restB p := by rw [s_cut, hbs]; rfl
      have HL := Lib.hid (fun w1 => num_ReadLen n (s.extract 1 s.size) (restB p) hn2 hx1 w1)
      have HZ := Lib.hid (fun w1 => num_Size n hn2 w1)
      obtain ⟨e, he⟩ : ∃ e, p.payload ++ p.codes = e := ⟨_, rfl⟩
      rw [he] at hA
      have hel : e.size ≤ n := by
        have h2 := congrArg List.length hA
        rw [List.length_append, blen] at h2
        omega
      have hend : s.extract (s.size - e.size) s.size = e := by
        apply bl_same
        rw [s_cut, hbs, hA]
        have h2 : s.size = (byteN (16 * p.ty + flagsN p) :: (lenB n ++ A)).length + e.size := by
          have h3 := congrArg List.length hbs
          rw [blen, hA] at h3
          simp only [List.length_cons, List.length_append, blen] at h3 ⊢
          omega
        rw [show s.size - e.size = (byteN (16 * p.ty + flagsN p) :: (lenB n ++ A)).length by omega]
        rw [show byteN (16 * p.ty + flagsN p) :: (lenB n ++ (A ++ bl e)) = (byteN (16 * p.ty + flagsN p) :: (lenB n ++ A)) ++ bl e by simp]
        exact List.drop_left
      have HR := Lib.hid hR
      have HN := Lib.hid hN
      have HS := Lib.hid hS
      have hty := ht.ty
      have hs2 : decide ((s.size : Int) < 2) = false := by rw [decide_eq_false_iff_not]; omega
      generalize lenS n = u at *
      have hz8 : z < 256 := by have := UInt8.toNat_lt (s[0]'hk0); rw [hz] at this; exact this
      have hwr : IntKind.u8.wrap (p.ty : Int) = (p.ty : Int) := wrap_small p.ty (by omega)
      have hq1 : ((z : Int).tdiv 16) = (p.ty : Int) := by rw [Int.tdiv_eq_ediv_of_nonneg (by omega)]; omega
      have hq2 : (z : Int) / 16 = (p.ty : Int) := by omega
      have hq3 : z / Int.natAbs 16 = p.ty := hzt
      have hs3 : 2 ≤ s.size := by omega
      have hss : ((s.size : Int) != 1 + (u : Int) + (n : Int)) = false := by rw [bne_eq_false_iff_eq]; omega
      have hes2 : e.size ≤ s.size := by omega
      have hsb : s.size ≤ 300000000 := by omega
      obtain ⟨d, hd⟩ : ∃ d, s.size - e.size = d := ⟨_, rfl⟩
      rw [hd] at hend
      have hsub : (s.size : Int) - (e.size : Int) = (d : Int) := by omega
      have hds : d ≤ s.size := by omega
      clear hd
      have HSZ := Lib.hid hsz
      clear hsz
      clear hR hN hS ht hp hsm hg h0 h1 hn hes hA hrl hbs hx1 hmx A
      go_enter Tryd.func14, Tryd.ntmps14
      go_upto_region 7 with (first
        | ((with_reducible show wpList _ _ _ (⟨some 10, _, _, _, _, _⟩ :: _) _ _); refine wpList_load_box rfl 27 _ rfl _ rfl 27 _ (HK.out.at 0 rfl) _ Tryd.underlying27 rfl (pk_size _ _ _) ?_)
        | ((with_reducible show wpList _ _ _ (⟨some 14, _, _, _, _, _⟩ :: _) _ _); refine wpList_load_box rfl 27 _ rfl _ rfl 27 _ (HK.out.at 0 rfl) _ Tryd.underlying27 rfl (pk_size _ _ _) ?_)
        | ((with_reducible show wpList _ _ _ (⟨some 18, _, _, _, _, _⟩ :: _) _ _); refine wpList_load_box rfl 27 _ rfl _ rfl 27 _ (HK.out.at 0 rfl) _ Tryd.underlying27 rfl (pk_size _ _ _) ?_)
        | (go_at_call 17; refine Calls.mono (HG.out _ (HK.out.rowAt 0 rfl)) ?_; rintro e w1 ⟨rfl, hb1⟩; replace HK := Lib.hid (HK.out.below hb1); clear hb1)
        | (go_at_call 31; refine Calls.mono (HN.out _ HK.out.env (HK.out.rowAt 0 rfl)) ?_; rintro e w1 ⟨rfl, hb1⟩; replace HK := Lib.hid (HK.out.below hb1); clear hb1)
        | (go_at_call 20; refine Calls.mono (HR.out _ HK.out.env (HK.out.rowAt 0 rfl)) ?_; rintro e w1 ⟨rfl, hb1⟩; replace HK := Lib.hid (HK.out.below hb1); clear hb1))
      have hX0 := (HK.out.at 0 rfl).cells
      clear hX0
      refine wp_region_noPanic ?_
      refine wp_region_held_drew (S := fun w' => Keep w [(w.heap.size, pkV p a c, 27)] [(a, subCells p.subs)] w') (by kernel_rfl) ?_ (fun hHeld => ?_)
      · (first | exact HK.out | exact HK.out.drew | exact HK.out.drewN _)
      replace HK := Lib.hid hHeld
      refine wpAnyH_take (i := 0) (oi := ⟨some 36, _, _, _, _, _⟩) (v := ?_) rfl (by kernel_rfl) (by kernel_rfl) (by kernel_rfl) (fun _ _ _ h => h) (Or.inl ⟨by rfl, ?_⟩) (by assumption) ?_
      rotate_left
      · (intro w hSw; (try dsimp only at hSw); have hX0 := (Keep.at hSw 0 rfl).cells; go_simp; try with_reducible rfl)
      try simp only [Act.put, List.setIfInBounds_toArray, List.set_cons_zero, List.set_cons_succ]
      refine wpAnyH_take (i := 1) (oi := ⟨some 37, _, _, _, _, _⟩) (v := ?_) rfl (by kernel_rfl) (by kernel_rfl) (by kernel_rfl) (fun _ _ _ h => h) (Or.inl ⟨by rfl, ?_⟩) (by assumption) ?_
      rotate_left
      · (intro w hSw; (try dsimp only at hSw); have hX0 := (Keep.at hSw 0 rfl).cells; go_simp; try with_reducible rfl)
      try simp only [Act.put, List.setIfInBounds_toArray, List.set_cons_zero, List.set_cons_succ]
      refine wpAnyH_take (i := 2) (oi := ⟨some 38, _, _, _, _, _⟩) (v := ?_) rfl (by kernel_rfl) (by kernel_rfl) (by kernel_rfl) (fun _ _ _ h => h) (Or.inl ⟨by rfl, ?_⟩) (by assumption) ?_
      rotate_left
      · (intro w hSw; (try dsimp only at hSw); have hX0 := (Keep.at hSw 0 rfl).cells; go_simp; try with_reducible rfl)
      try simp only [Act.put, List.setIfInBounds_toArray, List.set_cons_zero, List.set_cons_succ]
      refine wpAnyH_take (i := 3) (oi := ⟨some 39, _, _, _, _, _⟩) (v := ?_) rfl (by kernel_rfl) (by kernel_rfl) (by kernel_rfl) (fun _ _ _ h => h) (Or.inl ⟨by rfl, ?_⟩) (by assumption) ?_
      rotate_left
      · (intro w hSw; (try dsimp only at hSw); have hX0 := (Keep.at hSw 0 rfl).cells; go_simp; try with_reducible rfl)
      try simp only [Act.put, List.setIfInBounds_toArray, List.set_cons_zero, List.set_cons_succ]
      refine wpAnyH_take (i := 4) (oi := ⟨some 40, _, _, _, _, _⟩) (v := ?_) rfl (by kernel_rfl) (by kernel_rfl) (by kernel_rfl) (fun _ _ _ h => h) (Or.inl ⟨by rfl, ?_⟩) (by assumption) ?_
      rotate_left
      · (intro w hSw; (try dsimp only at hSw); have hX0 := (Keep.at hSw 0 rfl).cells; go_simp; try with_reducible rfl)
      try simp only [Act.put, List.setIfInBounds_toArray, List.set_cons_zero, List.set_cons_succ]
      refine wpAnyH_take (i := 5) (oi := ⟨some 41, _, _, _, _, _⟩) (v := ?_) rfl (by kernel_rfl) (by kernel_rfl) (by kernel_rfl) (fun _ _ _ h => h) (Or.inl ⟨by rfl, ?_⟩) (by assumption) ?_
      rotate_left
      · (intro w hSw; (try dsimp only at hSw); have hX0 := (Keep.at hSw 0 rfl).cells; go_simp; try with_reducible rfl)
      try simp only [Act.put, List.setIfInBounds_toArray, List.set_cons_zero, List.set_cons_succ]
      refine wpAnyH_take (i := 6) (oi := ⟨some 42, _, _, _, _, _⟩) (v := ?_) rfl (by kernel_rfl) (by kernel_rfl) (by kernel_rfl) (fun _ _ _ h => h) (Or.inl ⟨by rfl, ?_⟩) (by assumption) ?_
      rotate_left
      · (intro w hSw; (try dsimp only at hSw); have hX0 := (Keep.at hSw 0 rfl).cells; go_simp; try with_reducible rfl)
      try simp only [Act.put, List.setIfInBounds_toArray, List.set_cons_zero, List.set_cons_succ]
      refine wpAnyH_take (i := 7) (oi := ⟨some 43, _, _, _, _, _⟩) (v := ?_) rfl (by kernel_rfl) (by kernel_rfl) (by kernel_rfl) (fun _ _ _ h => h) (Or.inl ⟨by rfl, ?_⟩) (by assumption) ?_
      rotate_left
      · (intro w hSw; (try dsimp only at hSw); have hX0 := (Keep.at hSw 0 rfl).cells; go_simp; try with_reducible rfl)
      try simp only [Act.put, List.setIfInBounds_toArray, List.set_cons_zero, List.set_cons_succ]
      refine wpAnyH_take (i := 8) (oi := ⟨some 44, _, _, _, _, _⟩) (v := ?_) rfl (by kernel_rfl) (by kernel_rfl) (by kernel_rfl) (fun _ _ _ h => h) (Or.inl ⟨by rfl, ?_⟩) (by assumption) ?_
      rotate_left
      · (intro w hSw; (try dsimp only at hSw); have hX0 := (Keep.at hSw 0 rfl).cells; go_simp; try with_reducible rfl)
      try simp only [Act.put, List.setIfInBounds_toArray, List.set_cons_zero, List.set_cons_succ]
      refine wpAnyH_take (i := 9) (oi := ⟨some 45, _, _, _, _, _⟩) (v := ?_) rfl (by kernel_rfl) (by kernel_rfl) (by kernel_rfl) (fun _ _ _ h => h) (Or.inl ⟨by rfl, ?_⟩) (by assumption) ?_
      rotate_left
      · (intro w hSw; (try dsimp only at hSw); have hX0 := (Keep.at hSw 0 rfl).cells; go_simp; try with_reducible rfl)
      try simp only [Act.put, List.setIfInBounds_toArray, List.set_cons_zero, List.set_cons_succ]
      refine wpAnyH_take (i := 10) (oi := ⟨some 46, _, _, _, _, _⟩) (v := ?_) rfl (by kernel_rfl) (by kernel_rfl) (by kernel_rfl) (fun _ _ _ h => h) (Or.inl ⟨by rfl, ?_⟩) (by assumption) ?_
      rotate_left
      · (intro w hSw; (try dsimp only at hSw); have hX0 := (Keep.at hSw 0 rfl).cells; go_simp; try with_reducible rfl)
      try simp only [Act.put, List.setIfInBounds_toArray, List.set_cons_zero, List.set_cons_succ]
      refine wpAnyH_take (i := 11) (oi := ⟨some 47, _, _, _, _, _⟩) (v := ?_) rfl (by kernel_rfl) (by kernel_rfl) (by kernel_rfl) (fun _ _ _ h => h) (Or.inl ⟨by rfl, ?_⟩) (by assumption) ?_
      rotate_left
      · (intro w hSw; (try dsimp only at hSw); have hX0 := (Keep.at hSw 0 rfl).cells; go_simp; try with_reducible rfl)
      try simp only [Act.put, List.setIfInBounds_toArray, List.set_cons_zero, List.set_cons_succ]
      refine wpAnyH_take (i := 12) (oi := ⟨some 48, _, _, _, _, _⟩) (v := ?_) rfl (by kernel_rfl) (by kernel_rfl) (by kernel_rfl) (fun _ _ _ h => h) (Or.inl ⟨by rfl, ?_⟩) (by assumption) ?_
      rotate_left
      · (intro w hSw; (try dsimp only at hSw); have hX0 := (Keep.at hSw 0 rfl).cells; go_simp; try with_reducible rfl)
      try simp only [Act.put, List.setIfInBounds_toArray, List.set_cons_zero, List.set_cons_succ]
      refine wpAnyH_take (i := 13) (oi := ⟨some 49, _, _, _, _, _⟩) (v := ?_) rfl (by kernel_rfl) (by kernel_rfl) (by kernel_rfl) (fun _ _ _ h => h) (Or.inl ⟨by rfl, ?_⟩) (by assumption) ?_
      rotate_left
      · (intro w hSw; (try dsimp only at hSw); have hX0 := (Keep.at hSw 0 rfl).cells; go_simp; try with_reducible rfl)
      try simp only [Act.put, List.setIfInBounds_toArray, List.set_cons_zero, List.set_cons_succ]
      refine wpAnyH_take (i := 14) (oi := ⟨some 50, _, _, _, _, _⟩) (v := ?_) rfl (by kernel_rfl) (by kernel_rfl) (by kernel_rfl) (fun _ _ _ h => h) (Or.inl ⟨by rfl, ?_⟩) (by assumption) ?_
      rotate_left
      · (intro w hSw; (try dsimp only at hSw); have hX0 := (Keep.at hSw 0 rfl).cells; go_simp; try with_reducible rfl)
      try simp only [Act.put, List.setIfInBounds_toArray, List.set_cons_zero, List.set_cons_succ]
      refine wpAnyH_take (i := 15) (oi := ⟨some 51, _, _, _, _, _⟩) (v := ?_) rfl (by kernel_rfl) (by kernel_rfl) (by kernel_rfl) (fun _ _ _ h => h) (Or.inl ⟨by rfl, ?_⟩) (by assumption) ?_
      rotate_left
      · (intro w hSw; (try dsimp only at hSw); have hX0 := (Keep.at hSw 0 rfl).cells; go_simp; try with_reducible rfl)
      try simp only [Act.put, List.setIfInBounds_toArray, List.set_cons_zero, List.set_cons_succ]
      refine wpAnyH_take (i := 16) (oi := ⟨some 52, _, _, _, _, _⟩) (v := .agg _) rfl (by kernel_rfl) (by kernel_rfl) (by kernel_rfl) (fun _ _ _ h => h) (yields_load_box (by kernel_rfl) 27 _ rfl _ rfl 27 _ _ (fun w h => Keep.at h 0 rfl) Tryd.underlying27 rfl (pk_size _ _ _)) (by assumption) ?_
      try simp only [Act.put, List.setIfInBounds_toArray, List.set_cons_zero, List.set_cons_succ]
      refine wpAnyH_take (i := 18) (oi := ⟨some 54, _, _, _, _, _⟩) (v := ?_) rfl (by kernel_rfl) (by kernel_rfl) (by kernel_rfl) (fun _ _ _ h => h) (Or.inl ⟨by rfl, ?_⟩) (by assumption) ?_
      rotate_left
      · (intro w hSw; (try dsimp only at hSw); have hX0 := (Keep.at hSw 0 rfl).cells; go_simp; try with_reducible rfl)
      try simp only [Act.put, List.setIfInBounds_toArray, List.set_cons_zero, List.set_cons_succ]
      refine wpAnyH_take (i := 19) (oi := ⟨some 55, _, _, _, _, _⟩) (v := ?_) rfl (by kernel_rfl) (by kernel_rfl) (by kernel_rfl) (fun _ _ _ h => h) (Or.inl ⟨by rfl, ?_⟩) (by assumption) ?_
      rotate_left
      · (intro w hSw; (try dsimp only at hSw); have hX0 := (Keep.at hSw 0 rfl).cells; go_simp; try with_reducible rfl)
      try simp only [Act.put, List.setIfInBounds_toArray, List.set_cons_zero, List.set_cons_succ]
      refine wpAnyH_ready (rs := [17]) (by kernel_rfl) (by simp) ?_
      refine AllReadyH.cons (o := ⟨some 53, _, _, _, _, _⟩) rfl (fun K hK => ?_) AllReadyH.nil
      go_simp
      (go_at_call 32; refine Calls.mono (HS.out _ HK.out.env (HK.out.rowAt 0 rfl)) ?_; rintro e w9 ⟨rfl, hb1⟩; replace HK := Lib.hid (HK.out.below hb1); clear hb1; go_simp)
      refine hK.out _ _ ?_ (fun hHeld => ?_)
      · (first | exact HK.out | exact HK.out.drew | exact HK.out.drewN _)
      clear hK K hHeld
      have hHeld := HK.out
      try simp only [Act.put, List.setIfInBounds_toArray, List.set_cons_zero, List.set_cons_succ]
      refine wpAnyH_take (i := 20) (oi := ⟨some 56, _, _, _, _, _⟩) (v := ?_) rfl (by kernel_rfl) (by kernel_rfl) (by kernel_rfl) (fun _ _ _ h => h) (Or.inl ⟨by rfl, ?_⟩) (by assumption) ?_
      rotate_left
      · (intro w hSw; (try dsimp only at hSw); have hX0 := (Keep.at hSw 0 rfl).cells; go_simp; try with_reducible rfl)
      try simp only [Act.put, List.setIfInBounds_toArray, List.set_cons_zero, List.set_cons_succ]
      refine wpAnyH_take (i := 21) (oi := ⟨some 57, _, _, _, _, _⟩) (v := ?_) rfl (by kernel_rfl) (by kernel_rfl) (by kernel_rfl) (fun _ _ _ h => h) (Or.inl ⟨by rfl, ?_⟩) (by assumption) ?_
      rotate_left
      · (intro w hSw; (try dsimp only at hSw); have hX0 := (Keep.at hSw 0 rfl).cells; go_simp; try with_reducible rfl)
      try simp only [Act.put, List.setIfInBounds_toArray, List.set_cons_zero, List.set_cons_succ]
      refine wpAnyH_done (by kernel_rfl) ?_ _
      refine NoPanic.normal ?_

      go_wp2_with (first
        | (go_at_call 38; refine Calls.mono (HL.out _) ?_; rintro e w1 ⟨rfl, rfl⟩)
        | (go_at_call 39; refine Calls.mono (HZ.out _) ?_; rintro e w1 ⟨rfl, rfl⟩; have hX := (HK.out.at 0 rfl).cells)
        | (go_at_call 33; refine Calls.mono (law04_awake _ HK.out.env) ?_; rintro e w1 ⟨rfl, hb1⟩; replace HK := Lib.hid (HK.out.below hb1); clear hb1))
      go_ret
      exact ⟨rfl, HK.out.low⟩
  · go_enter Tryd.func14, Tryd.ntmps14
    go_wp2_with (first
        | ((with_reducible show wpList _ _ _ (⟨some 10, _, _, _, _, _⟩ :: _) _ _); refine wpList_load_box rfl 27 _ rfl _ rfl 27 _ (HK.out.at 0 rfl) _ Tryd.underlying27 rfl (pk_size _ _ _) ?_)
        | (go_at_call 17; refine Calls.mono (HG.out _ (HK.out.rowAt 0 rfl)) ?_; rintro e w1 ⟨rfl, hb1⟩; replace HK := Lib.hid (HK.out.below hb1); clear hb1)
        | (go_at_call 33; refine Calls.mono (law04_awake _ HK.out.env) ?_; rintro e w1 ⟨rfl, hb1⟩; replace HK := Lib.hid (HK.out.below hb1); clear hb1))
    go_ret
    exact ⟨rfl, HK.out.low⟩
end Go.Proofs.YtkphaihbdmjogaaDoor
