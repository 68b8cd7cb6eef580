/- The walk of ReadLevels. Conditions: the decoder's tables lie as Go lays them; the packet's list in its cells. -/
import Derived.Test.YtcghokbcjbbbhaaDoorLawRBack
import Derived.Test.YtcghokbcjbbbhaaDoorFrame3
namespace Go.Proofs.YtcghokbcjbbbhaaDoor
open Go.RowKit
theorem bl_strN (l : Nat) : bl (strN [l]) = [byteN l] := rfl
/-- A Connect's bytes: a head, the protocol's name, the level, what follows. -/
theorem con_split {p : Pk} (_hp : PkOk p) (h1 : p.ty = 1) (h0 : 0 ≤ restP p) : ∃ R, restB p = dataB mqtt ++ byteN 4 :: R := by
  have hl := (con_fields (con_parts h1 h0).1).1
  refine ⟨byteN (conFlags p) :: (wordB p.keep ++ dataB p.client ++ (if p.hasWill then dataB p.wtopic ++ dataB p.wpayload else []) ++ (if p.hasUser then dataB p.user else []) ++ (if p.hasPass then dataB p.pass else [])), ?_⟩
  unfold restB
  rw [if_pos h1]
  unfold connectB
  rw [hl]
  simp [List.append_assoc]
def wantP (p : Pk) (l : Nat) : Pk := if l = 4 then p else { Pk.zero with ty := 1, level := l }
theorem want_ok {p : Pk} (hp : PkOk p) (l : Nat) (h : l < 256) : PkOk (wantP p l) := by
  unfold wantP
  split
  · exact hp
  · exact { pk_zero with ty := (by decide : (1 : Nat) < 256), level := h }
/-- Those bytes with another level, with another letter in the name. -/
theorem con_dec {p : Pk} (hp : PkOk p) (h1 : p.ty = 1) (h0 : 0 ≤ restP p) (R : Bs) (hR : restB p = dataB mqtt ++ byteN 4 :: R) (l : Nat) (hl : l < 256) :
    decR ((byteN (16 * p.ty + flagsN p) :: lenB (restP p).toNat) ++ (dataB mqtt ++ byteN l :: R)) = (wantP p l, (encB p).length, 0) ∧
    ∀ M : Bs, M.length = 6 → M ≠ dataB mqtt → (decR ((byteN (16 * p.ty + flagsN p) :: lenB (restP p).toNat) ++ (M ++ byteN l :: R))).2.2 = 4 := by
  have hmx : restP p ≤ 268435455 := by unfold restP restOf; split <;> omega
  have hrl := restB_len p hp h0
  have hf := flags_lt' p (fun h3 => (pub_parts h3 h0).2.1)
  have hfo : firstOk (byteN (16 * p.ty + flagsN p)).toNat = true := by rw [byteN_nat _ (by omega)]; exact firstOk_enc p h0
  have hb : (byteN (16 * p.ty + flagsN p)).toNat / 16 = 1 := by rw [byteN_nat _ (by omega)]; omega
  have hll := lenB_len (restP p).toNat (by omega)
  have hlen : ∀ X, lenR (lenB (restP p).toNat ++ X) = ((restP p).toNat, (lenB (restP p).toNat).length, 0) := fun X => by rw [hll]; exact lenR_len _ (by omega) X
  have hd6 : (dataB mqtt).length = 6 := rfl
  have hRl : R.length + 7 = (restP p).toNat := by
    have := congrArg List.length hR
    rw [List.length_append, List.length_cons, hd6] at this
    omega
  have hgen := fun (RB : Bs) (h : RB.length = (restP p).toNat) => dec_gen (byteN (16 * p.ty + flagsN p)) hfo (lenB (restP p).toNat) (restP p).toNat hlen RB h []
  constructor
  · by_cases h4 : l = 4
    · subst h4
      have := dec_enc p hp h0 []
      have e : encB p = (byteN (16 * p.ty + flagsN p) :: lenB (restP p).toNat) ++ (dataB mqtt ++ byteN 4 :: R) := by
        rw [← hR]
        rfl
      rw [List.append_nil] at this
      rw [← e]
      unfold wantP
      rw [if_pos rfl]
      exact this
    · have := hgen (dataB mqtt ++ byteN l :: R) (by rw [List.length_append, List.length_cons, hd6]; omega)
      rw [List.append_nil] at this
      rw [List.cons_append, this, bodyR_level hb (byteN l) (fun e => h4 (by have := congrArg UInt8.toNat e; rw [byteN_nat _ hl] at this; exact this)) R]
      unfold wantP
      rw [if_neg h4, byteN_nat _ hl, encB_len p hp h0, hll]
      simp
  · intro M hM hne
    have := hgen (M ++ byteN l :: R) (by rw [List.length_append, List.length_cons, hM]; omega)
    rw [List.append_nil] at this
    rw [List.cons_append, this, bodyR_name hb (by rw [List.take_left' hM]; exact hne)]
    simp
theorem set_cut (L : Bs) (i : Nat) (x : UInt8) (h : i < L.length) : L.take i ++ [x] ++ L.drop (i + 1) = L.set i x := by
  rw [List.set_eq_take_append_cons_drop, if_pos h]
  simp
theorem bl_cut (s : ByteArray) (i l : Nat) (h : i < s.size) : bl (s.extract 0 i ++ strN [l] ++ s.extract (i + 1) s.size) = (bl s).set i (byteN l) := by
  rw [bl_add, bl_add, bl_from, bl_extract, List.drop_zero, Nat.sub_zero, bl_strN]
  exact set_cut _ _ _ (by rw [bl_len]; exact h)
set_option maxRecDepth 100000 in
set_option maxHeartbeats 4000000 in
theorem rlev_great (p : Pk) (a : Option Addr) (c : Nat) (lv lt k : Nat) (w : World) (hE : Env w) (hq : PkArg w p a c) (hgp : greatB p = true) : Calls Tryd.prog 9 #[.agg (pkV p a c), .int .u8 (lv : Int), .int .u8 (lt : Int), .int .u8 (k : Int)] w fun e w' => e = .returned (.bool true) ∧ Below w.heap.size w w' := by
  have HG := Lib.hid (show ∀ w9, CellsA w9 a (subCells p.subs) → Calls Tryd.prog 17 #[.agg (pkV p a c)] w9 fun e w' => e = .returned (.bool true) ∧ Below w9.heap.size w9 w' from fun w9 h1 => by
    have h2 := law03_Great p a c w9 h1
    rw [hgp] at h2
    exact h2)
  obtain ⟨RR, hRR⟩ : ∃ RR : Ending → World → Prop, RR = fun e w' => e = .returned (.bool true) ∧ Below w.heap.size w w' := ⟨_, rfl⟩
  have FIN := Lib.hid (show ∀ w', Below w.heap.size w w' → RR (.returned (.bool true)) w' from fun w' hb => by rw [hRR]; exact ⟨rfl, hb⟩)
  rw [← hRR]
  obtain ⟨w9, hw9⟩ : ∃ w9, w9 = w := ⟨_, rfl⟩
  have HK : Keep w [] [(a, subCells p.subs)] w9 := by rw [hw9]; exact Keep.begin hE _ (by intro r hr; simp at hr; subst hr; exact hq.row)
  suffices hgo : Calls Tryd.prog 9 #[.agg (pkV p a c), .int .u8 (lv : Int), .int .u8 (lt : Int), .int .u8 (k : Int)] w9 RR by rw [hw9] at hgo; exact hgo
  clear hw9 hRR hE hq
  go_enter Tryd.func9, Tryd.ntmps9
  refine wp_forget (n := 130) (L := [(3, .int .u8 (k : Int)), (2, .int .u8 (lt : Int)), (1, .int .u8 (lv : Int)), (0, .agg (pkV p a c))]) (FrL.add (FrL.add (FrL.add (FrL.add (FrL.nil ?_ ?_) _ _ ?_) _ _ ?_) _ _ ?_) _ _ ?_) ?_
  iterate 6 rfl
  intro a9 F
  refine wp_seq ?_
  refine wp_region_lit ?_
  refine fr_box F HK 4 (by decide) rfl 27 _ rfl rfl (pkV p a c) (fun a' F' => F'.ev 0 rfl) ?_
  rintro P a10 w10 hX F' HK' hb
  clear HK F hb hX
  clear a9 w9
  rename World => w9
  rename Act => a9
  have HK := HK'
  have F := F'
  clear HK' F'
  replace HK : Keep w [(P, (pkV p a c), 27)] [(a, subCells p.subs)] w9 := HK
  refine fr_do F (wanted_free rfl) 8 rfl (by decide) (.bool false) (by intro a' F'; go_simp) ?_
  clear F a9
  intro a9 F
  refine wpList_nil ?_
  show Code.wp _ _ _ _ _
  replace F : FrL 130 [(4, .pointer (some ⟨P, 0, none⟩)), (3, .int .u8 (k : Int)), (2, .int .u8 (lt : Int)), (1, .int .u8 (lv : Int)), (0, .agg (pkV p a c))] a9 := ((((((FrL.nil F.size F.defers).add 0 _ (F.at' 0 _ rfl)).add 1 _ (F.at' 1 _ rfl)).add 2 _ (F.at' 2 _ rfl)).add 3 _ (F.at' 3 _ rfl)).add 4 _ (F.at' 4 _ rfl))
  refine wp_seq ?_
  refine wp_seq ?_
  refine wp_region_lit ?_
  refine fr_do F (wanted_free rfl) 22 rfl (by decide) (.agg ((pkV p a c))) (by intro a' F'; exact run_load_box rfl (F'.ev 4 rfl) (HK.at 0 rfl) Tryd.underlying27 rfl infoPk) ?_
  clear F a9
  intro a9 F
  refine fr_call F (wanted_free rfl) 23 rfl (by decide) 17 #[.agg (pkV p a c)] (by intro a' F'; have h22 := F'.at' 22 _ rfl; go_simp) (HG.out _ (HK.rowAt 0 rfl)) ?_
  rintro e9 w8 ⟨rfl, hb8⟩
  replace HK := HK.below hb8
  clear hb8
  clear w9
  rename World => w9
  refine ⟨_, rfl, ?_⟩
  clear F a9
  intro a9 F
  refine fr_do F (wanted_free rfl) 24 rfl (by decide) (.bool true) (by intro a' F'; have h23 := F'.at' 23 _ rfl; go_simp) ?_
  clear F a9
  intro a9 F
  refine fr_left F (by rw [wanted_at F rfl (t := 24) (b := true) (by kernel_rfl) rfl]; rfl) 25 rfl (by decide) ?_
  clear F a9
  intro a9 F
  refine fr_left F (by rw [wanted_at F rfl (t := 24) (b := true) (by kernel_rfl) rfl]; rfl) 26 rfl (by decide) ?_
  clear F a9
  intro a9 F
  refine fr_left F (by rw [wanted_at F rfl (t := 24) (b := true) (by kernel_rfl) rfl]; rfl) 27 rfl (by decide) ?_
  clear F a9
  intro a9 F
  refine fr_do F (wanted_free rfl) 28 rfl (by decide) (.bool true) (by intro a' F'; have h24 := F'.at' 24 _ rfl; have h27 := F'.at' 27 _ rfl; go_simp) ?_
  clear F a9
  intro a9 F
  refine wpList_nil ?_
  show Code.wp _ _ _ _ _
  refine wp_cond_true (F.ev 28 rfl) ?_
  refine wp_seq ?_
  refine wp_region_lit ?_
  refine fr_call F (wanted_free rfl) 29 rfl (by decide) 28 #[] (by intro a' F'; go_simp) (law05_awake _ HK.env) ?_
  rintro e9 w8 ⟨rfl, hb8⟩
  replace HK := HK.below hb8
  clear hb8
  clear w9
  rename World => w9
  refine ⟨_, rfl, ?_⟩
  clear F a9
  intro a9 F
  refine fr_do F (wanted_free rfl) 8 rfl (by decide) (.bool true) (by intro a' F'; have h29 := F'.at' 29 _ rfl; go_simp) ?_
  clear F a9
  intro a9 F
  refine wpList_nil ?_
  show Code.wp _ _ _ _ _
  refine wp_ret ?_
  exact fr_ret1 F rfl _ rfl (FIN.out _ HK.low)
set_option maxRecDepth 100000 in
set_option maxHeartbeats 4000000 in
theorem rlev_other (p : Pk) (a : Option Addr) (c : Nat) (lv lt k : Nat) (w : World) (hE : Env w) (hq : PkArg w p a c) (hgp : greatB p = false) (hty : p.ty ≠ 1) : Calls Tryd.prog 9 #[.agg (pkV p a c), .int .u8 (lv : Int), .int .u8 (lt : Int), .int .u8 (k : Int)] w fun e w' => e = .returned (.bool true) ∧ Below w.heap.size w w' := by
  have HG := Lib.hid (show ∀ w9, CellsA w9 a (subCells p.subs) → Calls Tryd.prog 17 #[.agg (pkV p a c)] w9 fun e w' => e = .returned (.bool false) ∧ Below w9.heap.size w9 w' from fun w9 h1 => by
    have h2 := law03_Great p a c w9 h1
    rw [hgp] at h2
    exact h2)
  obtain ⟨RR, hRR⟩ : ∃ RR : Ending → World → Prop, RR = fun e w' => e = .returned (.bool true) ∧ Below w.heap.size w w' := ⟨_, rfl⟩
  have FIN := Lib.hid (show ∀ w', Below w.heap.size w w' → RR (.returned (.bool true)) w' from fun w' hb => by rw [hRR]; exact ⟨rfl, hb⟩)
  rw [← hRR]
  obtain ⟨w9, hw9⟩ : ∃ w9, w9 = w := ⟨_, rfl⟩
  have HK : Keep w [] [(a, subCells p.subs)] w9 := by rw [hw9]; exact Keep.begin hE _ (by intro r hr; simp at hr; subst hr; exact hq.row)
  suffices hgo : Calls Tryd.prog 9 #[.agg (pkV p a c), .int .u8 (lv : Int), .int .u8 (lt : Int), .int .u8 (k : Int)] w9 RR by rw [hw9] at hgo; exact hgo
  clear hw9 hRR hE hq
  go_enter Tryd.func9, Tryd.ntmps9
  refine wp_forget (n := 130) (L := [(3, .int .u8 (k : Int)), (2, .int .u8 (lt : Int)), (1, .int .u8 (lv : Int)), (0, .agg (pkV p a c))]) (FrL.add (FrL.add (FrL.add (FrL.add (FrL.nil ?_ ?_) _ _ ?_) _ _ ?_) _ _ ?_) _ _ ?_) ?_
  iterate 6 rfl
  intro a9 F
  refine wp_seq ?_
  refine wp_region_lit ?_
  refine fr_box F HK 4 (by decide) rfl 27 _ rfl rfl (pkV p a c) (fun a' F' => F'.ev 0 rfl) ?_
  rintro P a10 w10 hX F' HK' hb
  clear HK F hb hX
  clear a9 w9
  rename World => w9
  rename Act => a9
  have HK := HK'
  have F := F'
  clear HK' F'
  replace HK : Keep w [(P, (pkV p a c), 27)] [(a, subCells p.subs)] w9 := HK
  refine fr_do F (wanted_free rfl) 8 rfl (by decide) (.bool false) (by intro a' F'; go_simp) ?_
  clear F a9
  intro a9 F
  refine wpList_nil ?_
  show Code.wp _ _ _ _ _
  replace F : FrL 130 [(4, .pointer (some ⟨P, 0, none⟩)), (3, .int .u8 (k : Int)), (2, .int .u8 (lt : Int)), (1, .int .u8 (lv : Int)), (0, .agg (pkV p a c))] a9 := ((((((FrL.nil F.size F.defers).add 0 _ (F.at' 0 _ rfl)).add 1 _ (F.at' 1 _ rfl)).add 2 _ (F.at' 2 _ rfl)).add 3 _ (F.at' 3 _ rfl)).add 4 _ (F.at' 4 _ rfl))
  refine wp_seq ?_
  refine wp_seq ?_
  refine wp_region_lit ?_
  refine fr_do F (wanted_free rfl) 22 rfl (by decide) (.agg ((pkV p a c))) (by intro a' F'; exact run_load_box rfl (F'.ev 4 rfl) (HK.at 0 rfl) Tryd.underlying27 rfl infoPk) ?_
  clear F a9
  intro a9 F
  refine fr_call F (wanted_free rfl) 23 rfl (by decide) 17 #[.agg (pkV p a c)] (by intro a' F'; have h22 := F'.at' 22 _ rfl; go_simp) (HG.out _ (HK.rowAt 0 rfl)) ?_
  rintro e9 w8 ⟨rfl, hb8⟩
  replace HK := HK.below hb8
  clear hb8
  clear w9
  rename World => w9
  refine ⟨_, rfl, ?_⟩
  clear F a9
  intro a9 F
  refine fr_do F (wanted_free rfl) 24 rfl (by decide) (.bool false) (by intro a' F'; have h23 := F'.at' 23 _ rfl; go_simp) ?_
  clear F a9
  intro a9 F
  refine fr_do F (by rw [wanted_at F rfl (t := 24) (b := false) (by kernel_rfl) rfl]; rfl) 25 rfl (by decide) (.pointer (some ⟨P, 0, none⟩)) (by intro a' F'; have h4 := F'.at' 4 _ rfl; go_simp) ?_
  clear F a9
  intro a9 F
  refine fr_do F (by rw [wanted_at F rfl (t := 24) (b := false) (by kernel_rfl) rfl]; rfl) 26 rfl (by decide) (.int .u8 (p.ty : Int)) (by intro a' F'; have hc : w9.cell? ⟨P, 0, none⟩ = some (.int .u8 (p.ty : Int)) := (HK.at 0 rfl).cells 0; have h25 := F'.at' 25 _ rfl; go_simp) ?_
  clear F a9
  intro a9 F
  refine fr_do F (by rw [wanted_at F rfl (t := 24) (b := false) (by kernel_rfl) rfl]; rfl) 27 rfl (by decide) (.bool true) (by intro a' F'; have h26 := F'.at' 26 _ rfl; go_simp <;> first | rfl | omega | (rw [IntKind.wrap_i64]; omega) | (rw [IntKind.wrap_u8]; omega) | (intro hcon; exfalso; omega) | (rw [Bool.eq_iff_iff]; simp; omega) | (rw [decide_eq_decide]; omega) | (congr 1; omega) | (congr 2; omega) | (rw [if_pos (by omega)]; congr 4 <;> omega) | (rw [if_pos (by omega), if_pos (by omega)]; congr 4 <;> omega)) ?_
  clear F a9
  intro a9 F
  refine fr_do F (wanted_free rfl) 28 rfl (by decide) (.bool true) (by intro a' F'; have h24 := F'.at' 24 _ rfl; have h27 := F'.at' 27 _ rfl; go_simp) ?_
  clear F a9
  intro a9 F
  refine wpList_nil ?_
  show Code.wp _ _ _ _ _
  refine wp_cond_true (F.ev 28 rfl) ?_
  refine wp_seq ?_
  refine wp_region_lit ?_
  refine fr_call F (wanted_free rfl) 29 rfl (by decide) 28 #[] (by intro a' F'; go_simp) (law05_awake _ HK.env) ?_
  rintro e9 w8 ⟨rfl, hb8⟩
  replace HK := HK.below hb8
  clear hb8
  clear w9
  rename World => w9
  refine ⟨_, rfl, ?_⟩
  clear F a9
  intro a9 F
  refine fr_do F (wanted_free rfl) 8 rfl (by decide) (.bool true) (by intro a' F'; have h29 := F'.at' 29 _ rfl; go_simp) ?_
  clear F a9
  intro a9 F
  refine wpList_nil ?_
  show Code.wp _ _ _ _ _
  refine wp_ret ?_
  exact fr_ret1 F rfl _ rfl (FIN.out _ HK.low)
set_option maxRecDepth 100000 in
set_option maxHeartbeats 4000000 in
theorem rlev_bad (p : Pk) (a : Option Addr) (c : Nat) (lv lt k : Nat) (w : World) (hE : Env w) (hq : PkArg w p a c) (hgp : greatB p = false) (hty : p.ty = 1) (h0 : restP p < 0) : Calls Tryd.prog 9 #[.agg (pkV p a c), .int .u8 (lv : Int), .int .u8 (lt : Int), .int .u8 (k : Int)] w fun e w' => e = .returned (.bool true) ∧ Below w.heap.size w w' := by
  have hp := (small_of hgp).ok hq.ty
  obtain ⟨t, ht⟩ : ∃ t, encS p = t := ⟨_, rfl⟩
  have HN := Lib.hid (show ∀ w9, Env w9 → CellsA w9 a (subCells p.subs) → Calls Tryd.prog 19 #[.agg (pkV p a c)] w9 fun e w' => e = .returned (.tuple #[.string t, .int .i64 4]) ∧ Below w9.heap.size w9 w' from fun w9 h1 h2 => by
    have h3 := write_Encode p a c w9 h1 hp h2
    rw [encE_bad h0, ht] at h3
    exact h3)
  have HG := Lib.hid (show ∀ w9, CellsA w9 a (subCells p.subs) → Calls Tryd.prog 17 #[.agg (pkV p a c)] w9 fun e w' => e = .returned (.bool false) ∧ Below w9.heap.size w9 w' from fun w9 h1 => by
    have h2 := law03_Great p a c w9 h1
    rw [hgp] at h2
    exact h2)
  obtain ⟨RR, hRR⟩ : ∃ RR : Ending → World → Prop, RR = fun e w' => e = .returned (.bool true) ∧ Below w.heap.size w w' := ⟨_, rfl⟩
  have FIN := Lib.hid (show ∀ w', Below w.heap.size w w' → RR (.returned (.bool true)) w' from fun w' hb => by rw [hRR]; exact ⟨rfl, hb⟩)
  rw [← hRR]
  obtain ⟨w9, hw9⟩ : ∃ w9, w9 = w := ⟨_, rfl⟩
  have HK : Keep w [] [(a, subCells p.subs)] w9 := by rw [hw9]; exact Keep.begin hE _ (by intro r hr; simp at hr; subst hr; exact hq.row)
  suffices hgo : Calls Tryd.prog 9 #[.agg (pkV p a c), .int .u8 (lv : Int), .int .u8 (lt : Int), .int .u8 (k : Int)] w9 RR by rw [hw9] at hgo; exact hgo
  clear hw9 hRR hE hq hp ht h0
  go_enter Tryd.func9, Tryd.ntmps9
  refine wp_forget (n := 130) (L := [(3, .int .u8 (k : Int)), (2, .int .u8 (lt : Int)), (1, .int .u8 (lv : Int)), (0, .agg (pkV p a c))]) (FrL.add (FrL.add (FrL.add (FrL.add (FrL.nil ?_ ?_) _ _ ?_) _ _ ?_) _ _ ?_) _ _ ?_) ?_
  iterate 6 rfl
  intro a9 F
  refine wp_seq ?_
  refine wp_region_lit ?_
  refine fr_box F HK 4 (by decide) rfl 27 _ rfl rfl (pkV p a c) (fun a' F' => F'.ev 0 rfl) ?_
  rintro P a10 w10 hX F' HK' hb
  clear HK F hb hX
  clear a9 w9
  rename World => w9
  rename Act => a9
  have HK := HK'
  have F := F'
  clear HK' F'
  replace HK : Keep w [(P, (pkV p a c), 27)] [(a, subCells p.subs)] w9 := HK
  refine fr_do F (wanted_free rfl) 8 rfl (by decide) (.bool false) (by intro a' F'; go_simp) ?_
  clear F a9
  intro a9 F
  refine wpList_nil ?_
  show Code.wp _ _ _ _ _
  replace F : FrL 130 [(4, .pointer (some ⟨P, 0, none⟩)), (3, .int .u8 (k : Int)), (2, .int .u8 (lt : Int)), (1, .int .u8 (lv : Int))] a9 := (((((FrL.nil F.size F.defers).add 1 _ (F.at' 1 _ rfl)).add 2 _ (F.at' 2 _ rfl)).add 3 _ (F.at' 3 _ rfl)).add 4 _ (F.at' 4 _ rfl))
  refine wp_seq ?_
  refine wp_seq ?_
  refine wp_region_lit ?_
  refine fr_do F (wanted_free rfl) 22 rfl (by decide) (.agg ((pkV p a c))) (by intro a' F'; exact run_load_box rfl (F'.ev 4 rfl) (HK.at 0 rfl) Tryd.underlying27 rfl infoPk) ?_
  clear F a9
  intro a9 F
  refine fr_call F (wanted_free rfl) 23 rfl (by decide) 17 #[.agg (pkV p a c)] (by intro a' F'; have h22 := F'.at' 22 _ rfl; go_simp) (HG.out _ (HK.rowAt 0 rfl)) ?_
  rintro e9 w8 ⟨rfl, hb8⟩
  replace HK := HK.below hb8
  clear hb8
  clear w9
  rename World => w9
  refine ⟨_, rfl, ?_⟩
  clear F a9
  intro a9 F
  refine fr_do F (wanted_free rfl) 24 rfl (by decide) (.bool false) (by intro a' F'; have h23 := F'.at' 23 _ rfl; go_simp) ?_
  clear F a9
  intro a9 F
  refine fr_do F (by rw [wanted_at F rfl (t := 24) (b := false) (by kernel_rfl) rfl]; rfl) 25 rfl (by decide) (.pointer (some ⟨P, 0, none⟩)) (by intro a' F'; have h4 := F'.at' 4 _ rfl; go_simp) ?_
  clear F a9
  intro a9 F
  refine fr_do F (by rw [wanted_at F rfl (t := 24) (b := false) (by kernel_rfl) rfl]; rfl) 26 rfl (by decide) (.int .u8 (p.ty : Int)) (by intro a' F'; have hc : w9.cell? ⟨P, 0, none⟩ = some (.int .u8 (p.ty : Int)) := (HK.at 0 rfl).cells 0; have h25 := F'.at' 25 _ rfl; go_simp) ?_
  clear F a9
  intro a9 F
  refine fr_do F (by rw [wanted_at F rfl (t := 24) (b := false) (by kernel_rfl) rfl]; rfl) 27 rfl (by decide) (.bool false) (by intro a' F'; have h26 := F'.at' 26 _ rfl; go_simp <;> first | rfl | omega | (rw [IntKind.wrap_i64]; omega) | (rw [IntKind.wrap_u8]; omega) | (intro hcon; exfalso; omega) | (rw [Bool.eq_iff_iff]; simp; omega) | (rw [decide_eq_decide]; omega) | (congr 1; omega) | (congr 2; omega) | (rw [if_pos (by omega)]; congr 4 <;> omega) | (rw [if_pos (by omega), if_pos (by omega)]; congr 4 <;> omega)) ?_
  clear F a9
  intro a9 F
  refine fr_do F (wanted_free rfl) 28 rfl (by decide) (.bool false) (by intro a' F'; have h24 := F'.at' 24 _ rfl; have h27 := F'.at' 27 _ rfl; go_simp) ?_
  clear F a9
  intro a9 F
  refine wpList_nil ?_
  show Code.wp _ _ _ _ _
  refine wp_cond_false (F.ev 28 rfl) ?_
  refine wp_skip ?_
  show Code.wp _ _ _ _ _
  replace F : FrL 130 [(4, .pointer (some ⟨P, 0, none⟩)), (3, .int .u8 (k : Int)), (2, .int .u8 (lt : Int)), (1, .int .u8 (lv : Int))] a9 := (((((FrL.nil F.size F.defers).add 1 _ (F.at' 1 _ rfl)).add 2 _ (F.at' 2 _ rfl)).add 3 _ (F.at' 3 _ rfl)).add 4 _ (F.at' 4 _ rfl))
  refine wp_seq ?_
  refine wp_region_lit ?_
  refine fr_do F (wanted_free rfl) 31 rfl (by decide) (.agg ((pkV p a c))) (by intro a' F'; exact run_load_box rfl (F'.ev 4 rfl) (HK.at 0 rfl) Tryd.underlying27 rfl infoPk) ?_
  clear F a9
  intro a9 F
  refine fr_call F (wanted_free rfl) 32 rfl (by decide) 19 #[.agg (pkV p a c)] (by intro a' F'; have h31 := F'.at' 31 _ rfl; go_simp) (HN.out _ HK.env (HK.rowAt 0 rfl)) ?_
  rintro e9 w8 ⟨rfl, hb8⟩
  replace HK := HK.below hb8
  clear hb8
  clear w9
  rename World => w9
  refine ⟨_, rfl, ?_⟩
  clear F a9
  intro a9 F
  refine fr_do F (wanted_free rfl) 30 rfl (by decide) (.tuple #[.string t, .int .i64 4]) (by intro a' F'; have h32 := F'.at' 32 _ rfl; go_simp) ?_
  clear F a9
  intro a9 F
  refine fr_do F (wanted_free rfl) 33 rfl (by decide) (.string t) (by intro a' F'; have h30 := F'.at' 30 _ rfl; go_simp) ?_
  clear F a9
  intro a9 F
  refine fr_do F (wanted_free rfl) 34 rfl (by decide) (.int .i64 4) (by intro a' F'; have h30 := F'.at' 30 _ rfl; go_simp) ?_
  clear F a9
  intro a9 F
  refine fr_do F (wanted_free rfl) 9 rfl (by decide) (.string t) (by intro a' F'; have h33 := F'.at' 33 _ rfl; go_simp) ?_
  clear F a9
  intro a9 F
  refine fr_do F (wanted_free rfl) 10 rfl (by decide) (.int .i64 4) (by intro a' F'; have h34 := F'.at' 34 _ rfl; go_simp) ?_
  clear F a9
  intro a9 F
  refine wpList_nil ?_
  show Code.wp _ _ _ _ _
  replace F : FrL 130 [(10, .int .i64 4), (9, .string t), (4, .pointer (some ⟨P, 0, none⟩)), (3, .int .u8 (k : Int)), (2, .int .u8 (lt : Int)), (1, .int .u8 (lv : Int))] a9 := (((((((FrL.nil F.size F.defers).add 1 _ (F.at' 1 _ rfl)).add 2 _ (F.at' 2 _ rfl)).add 3 _ (F.at' 3 _ rfl)).add 4 _ (F.at' 4 _ rfl)).add 9 _ (F.at' 9 _ rfl)).add 10 _ (F.at' 10 _ rfl))
  refine wp_seq ?_
  refine wp_seq ?_
  refine wp_region_lit ?_
  refine fr_do F (wanted_free rfl) 35 rfl (by decide) (.int .i64 4) (by intro a' F'; have h10 := F'.at' 10 _ rfl; go_simp) ?_
  clear F a9
  intro a9 F
  refine fr_do F (wanted_free rfl) 36 rfl (by decide) (.bool true) (by intro a' F'; have h35 := F'.at' 35 _ rfl; go_simp) ?_
  clear F a9
  intro a9 F
  refine wpList_nil ?_
  show Code.wp _ _ _ _ _
  refine wp_cond_true (F.ev 36 rfl) ?_
  refine wp_seq ?_
  refine wp_region_lit ?_
  refine fr_call F (wanted_free rfl) 37 rfl (by decide) 28 #[] (by intro a' F'; go_simp) (law05_awake _ HK.env) ?_
  rintro e9 w8 ⟨rfl, hb8⟩
  replace HK := HK.below hb8
  clear hb8
  clear w9
  rename World => w9
  refine ⟨_, rfl, ?_⟩
  clear F a9
  intro a9 F
  refine fr_do F (wanted_free rfl) 8 rfl (by decide) (.bool true) (by intro a' F'; have h37 := F'.at' 37 _ rfl; go_simp) ?_
  clear F a9
  intro a9 F
  refine wpList_nil ?_
  show Code.wp _ _ _ _ _
  refine wp_ret ?_
  exact fr_ret1 F rfl _ rfl (FIN.out _ HK.low)
set_option maxRecDepth 100000 in
set_option maxHeartbeats 4000000 in
theorem rlev_good (p : Pk) (a : Option Addr) (c : Nat) (lv lt k : Nat) (w : World) (hE : Env w) (hq : PkArg w p a c) (hgp : greatB p = false) (hty : p.ty = 1) (h0 : 0 ≤ restP p) (hlv : lv < 256) (_hlt : lt < 256) (hk : k < 256) : Calls Tryd.prog 9 #[.agg (pkV p a c), .int .u8 (lv : Int), .int .u8 (lt : Int), .int .u8 (k : Int)] w fun e w' => e = .returned (.bool true) ∧ Below w.heap.size w w' := by
  have hp := (small_of hgp).ok hq.ty
  obtain ⟨R, hR⟩ := con_split hp hty h0
  have hwo := want_ok hp lv hlv
  obtain ⟨hd1, hd2⟩ := con_dec hp hty h0 R hR lv hlv
  have hbt : bl (encS p) = encB p := by rw [encS_good h0]; rfl
  have hel := encB_len p hp h0
  have hes := enc_small (small_of hgp)
  have hrl := restB_len p hp h0
  have hmx := restP_max p
  have hll := lenB_len (restP p).toNat (by omega)
  have hls := lenS_le (restP p).toNat
  obtain ⟨n, hn⟩ : ∃ n, (restP p).toNat = n := ⟨_, rfl⟩
  have hrn : restP p = (n : Int) := by omega
  obtain ⟨t, ht⟩ : ∃ t, encS p = t := ⟨_, rfl⟩
  rw [ht] at hbt
  obtain ⟨H, hH⟩ : ∃ H, byteN (16 * p.ty + flagsN p) :: lenB (restP p).toNat = H := ⟨_, rfl⟩
  rw [hH] at hd1 hd2
  have hHl : H.length = 1 + lenS n := by rw [← hH, List.length_cons, hll, hn]; omega
  have hd6 : (dataB mqtt).length = 6 := rfl
  have hRl : R.length + 7 = n := by
    have := congrArg List.length hR
    rw [List.length_append, List.length_cons, hd6] at this
    omega
  have henc : encB p = H ++ (dataB mqtt ++ byteN 4 :: R) := by
    rw [← hH, ← hR]
    rfl
  rw [hn] at hls hel
  have htl : t.size = 1 + lenS n + n := by rw [← bl_len, hbt, hel]
  obtain ⟨gg, hg⟩ : ∃ gg, 1 + lenS n = gg := ⟨_, rfl⟩
  rw [hg] at htl hHl
  have hg2 : 2 ≤ gg ∧ gg ≤ 5 := by omega
  have hts : t.size ≤ 10420 := by rw [← bl_len, hbt]; exact hes
  obtain ⟨t1, ht1⟩ : ∃ t1, t.extract 0 (gg + 6) ++ strN [lv] ++ t.extract (gg + 7) t.size = t1 := ⟨_, rfl⟩
  have hb1 : bl t1 = H ++ (dataB mqtt ++ byteN lv :: R) := by
    rw [← ht1, bl_cut t (gg + 6) lv (by omega), hbt, henc, List.set_append_right _ _ (by omega), hHl, List.set_append_right _ _ (by rw [hd6]; omega), hd6, show gg + 6 - gg - 6 = 0 by omega]
    rfl
  have ht1l : t1.size = gg + n := by rw [← bl_len, hb1, List.length_append, List.length_append, List.length_cons, hHl, hd6]; omega
  obtain ⟨j, hj⟩ : ∃ j, k % 6 = j := ⟨_, rfl⟩
  have hj6 : j < 6 := by rw [← hj]; exact Nat.mod_lt _ (by omega)
  have HM := Lib.hid (show (k : Int).tmod 6 = (j : Int) from by rw [← hj]; rfl)
  obtain ⟨u1, hu1⟩ : ∃ u1, t1.extract 0 (gg + j) ++ strN [lt] ++ t1.extract (gg + j + 1) t1.size = u1 := ⟨_, rfl⟩
  have hub : bl u1 = H ++ ((dataB mqtt).set j (byteN lt) ++ byteN lv :: R) := by
    rw [← hu1, bl_cut t1 (gg + j) lt (by omega), hb1, List.set_append_right _ _ (by omega), hHl, List.set_append_left _ _ (by rw [hd6]; omega), show gg + j - gg = j by omega]
  have hu1l : u1.size = gg + n := by rw [← bl_len, hub, List.length_append, List.length_append, List.length_cons, List.length_set, hHl, hd6]; omega
  have hdt : decR (bl t1) = (wantP p lv, t1.size, 0) := by rw [hb1, hd1, hel, ht1l, ← hg]
  obtain ⟨z, hz⟩ : ∃ z, (u1.toList == t1.toList) = z := ⟨_, rfl⟩
  have hdu : (decR (bl u1)).2.2 = if z = true then 0 else 4 := by
    cases z
    · rw [beq_eq_false_iff_ne, Lib.toList_data, Lib.toList_data] at hz
      rw [if_neg (by decide), hub]
      refine hd2 _ (by rw [List.length_set]; rfl) (fun e => hz ?_)
      show bl u1 = bl t1
      rw [hub, hb1, e]
    · rw [beq_iff_eq, Lib.toList_data, Lib.toList_data] at hz
      have e : bl u1 = bl t1 := hz
      rw [if_pos rfl, e, hdt]
  rcases hdd : decR (bl u1) with ⟨p3, n3, e3⟩
  rw [hdd] at hdu
  simp only at hdu
  have HD1 := Lib.hid (show ∀ w9, Env w9 → Calls Tryd.prog 29 #[.string t1] w9 (RetDec w9 (wantP p lv, t1.size, 0)) from fun w9 h1 => by
    have h2 := read_Decode t1 (by omega) w9 h1
    rw [hdt] at h2
    exact h2)
  have HD2 := Lib.hid (show ∀ w9, Env w9 → Calls Tryd.prog 29 #[.string u1] w9 (RetDec w9 (p3, n3, e3)) from fun w9 h1 => by
    have h2 := read_Decode u1 (by omega) w9 h1
    rw [hdd] at h2
    exact h2)
  have HRS := Lib.hid (show ∀ w9, Env w9 → CellsA w9 a (subCells p.subs) → Calls Tryd.prog 35 #[.agg (pkV p a c)] w9 fun e w' => e = .returned (.int .i64 (n : Int)) ∧ Below w9.heap.size w9 w' from fun w9 h1 h2 => by
    have h3 := packet_Rest p a c w9 h1 hp h2
    rw [hrn] at h3
    exact h3)
  have HSM := Lib.hid (show ∀ w9 al cap a2 c2, Env w9 → CellsA w9 al (subCells (wantP p lv).subs) → CellsA w9 a2 (subCells (wantP p lv).subs) → Calls Tryd.prog 30 #[.agg (pkV (wantP p lv) al cap), .agg (pkV (wantP p lv) a2 c2)] w9 fun e w' => e = .returned (.bool true) ∧ Below w9.heap.size w9 w' from fun w9 al cap a2 c2 h1 h2 h3 => by
    have h4 := packet_Same (wantP p lv) (wantP p lv) al a2 cap c2 w9 h1 hwo hwo h2 h3
    rw [decide_eq_true rfl] at h4
    exact h4)
  have HW4 := Lib.hid (show lv = 4 → wantP p lv = p from fun h => by unfold wantP; rw [if_pos h])
  have HW5 := Lib.hid (show lv ≠ 4 → wantP p lv = { Pk.zero with ty := 1, level := lv } from fun h => by unfold wantP; rw [if_neg h])
  have HZ := Lib.hid hz
  have HT1 := Lib.hid ht1
  have HU1 := Lib.hid hu1
  obtain ⟨P4, hP4⟩ : ∃ P4, wantP p lv = P4 := ⟨_, rfl⟩
  rw [hP4] at HD1 HSM HW4 HW5
  have HN := Lib.hid (show ∀ w9, Env w9 → CellsA w9 a (subCells p.subs) → Calls Tryd.prog 19 #[.agg (pkV p a c)] w9 fun e w' => e = .returned (.tuple #[.string t, .int .i64 0]) ∧ Below w9.heap.size w9 w' from fun w9 h1 h2 => by
    have h3 := write_Encode p a c w9 h1 hp h2
    rw [encE_good h0, ht] at h3
    exact h3)
  have HG := Lib.hid (show ∀ w9, CellsA w9 a (subCells p.subs) → Calls Tryd.prog 17 #[.agg (pkV p a c)] w9 fun e w' => e = .returned (.bool false) ∧ Below w9.heap.size w9 w' from fun w9 h1 => by
    have h2 := law03_Great p a c w9 h1
    rw [hgp] at h2
    exact h2)
  obtain ⟨RR, hRR⟩ : ∃ RR : Ending → World → Prop, RR = fun e w' => e = .returned (.bool true) ∧ Below w.heap.size w w' := ⟨_, rfl⟩
  have FIN := Lib.hid (show ∀ w', Below w.heap.size w w' → RR (.returned (.bool true)) w' from fun w' hb => by rw [hRR]; exact ⟨rfl, hb⟩)
  rw [← hRR]
  obtain ⟨w9, hw9⟩ : ∃ w9, w9 = w := ⟨_, rfl⟩
  have HK : Keep w [] [(a, subCells p.subs)] w9 := by rw [hw9]; exact Keep.begin hE _ (by intro r hr; simp at hr; subst hr; exact hq.row)
  suffices hgo : Calls Tryd.prog 9 #[.agg (pkV p a c), .int .u8 (lv : Int), .int .u8 (lt : Int), .int .u8 (k : Int)] w9 RR by rw [hw9] at hgo; exact hgo
  clear hw9 hRR hE hq hp ht hbt hel hes hrl hmx hll hrn hR hwo hd1 hd2 hH hHl henc hls hn hb1 hub hdt hdd hz ht1 hu1 hP4 h0 hgp hd6
  go_enter Tryd.func9, Tryd.ntmps9
  refine wp_forget (n := 130) (L := [(3, .int .u8 (k : Int)), (2, .int .u8 (lt : Int)), (1, .int .u8 (lv : Int)), (0, .agg (pkV p a c))]) (FrL.add (FrL.add (FrL.add (FrL.add (FrL.nil ?_ ?_) _ _ ?_) _ _ ?_) _ _ ?_) _ _ ?_) ?_
  iterate 6 rfl
  intro a9 F
  refine wp_seq ?_
  refine wp_region_lit ?_
  refine fr_box F HK 4 (by decide) rfl 27 _ rfl rfl (pkV p a c) (fun a' F' => F'.ev 0 rfl) ?_
  rintro P a10 w10 hX F' HK' hb
  clear HK F hb hX
  clear a9 w9
  rename World => w9
  rename Act => a9
  have HK := HK'
  have F := F'
  clear HK' F'
  replace HK : Keep w [(P, (pkV p a c), 27)] [(a, subCells p.subs)] w9 := HK
  refine fr_do F (wanted_free rfl) 8 rfl (by decide) (.bool false) (by intro a' F'; go_simp) ?_
  clear F a9
  intro a9 F
  refine wpList_nil ?_
  show Code.wp _ _ _ _ _
  replace F : FrL 130 [(4, .pointer (some ⟨P, 0, none⟩)), (3, .int .u8 (k : Int)), (2, .int .u8 (lt : Int)), (1, .int .u8 (lv : Int))] a9 := (((((FrL.nil F.size F.defers).add 1 _ (F.at' 1 _ rfl)).add 2 _ (F.at' 2 _ rfl)).add 3 _ (F.at' 3 _ rfl)).add 4 _ (F.at' 4 _ rfl))
  refine wp_seq ?_
  refine wp_seq ?_
  refine wp_region_lit ?_
  refine fr_do F (wanted_free rfl) 22 rfl (by decide) (.agg ((pkV p a c))) (by intro a' F'; exact run_load_box rfl (F'.ev 4 rfl) (HK.at 0 rfl) Tryd.underlying27 rfl infoPk) ?_
  clear F a9
  intro a9 F
  refine fr_call F (wanted_free rfl) 23 rfl (by decide) 17 #[.agg (pkV p a c)] (by intro a' F'; have h22 := F'.at' 22 _ rfl; go_simp) (HG.out _ (HK.rowAt 0 rfl)) ?_
  rintro e9 w8 ⟨rfl, hb8⟩
  replace HK := HK.below hb8
  clear hb8
  clear w9
  rename World => w9
  refine ⟨_, rfl, ?_⟩
  clear F a9
  intro a9 F
  refine fr_do F (wanted_free rfl) 24 rfl (by decide) (.bool false) (by intro a' F'; have h23 := F'.at' 23 _ rfl; go_simp) ?_
  clear F a9
  intro a9 F
  refine fr_do F (by rw [wanted_at F rfl (t := 24) (b := false) (by kernel_rfl) rfl]; rfl) 25 rfl (by decide) (.pointer (some ⟨P, 0, none⟩)) (by intro a' F'; have h4 := F'.at' 4 _ rfl; go_simp) ?_
  clear F a9
  intro a9 F
  refine fr_do F (by rw [wanted_at F rfl (t := 24) (b := false) (by kernel_rfl) rfl]; rfl) 26 rfl (by decide) (.int .u8 (p.ty : Int)) (by intro a' F'; have hc : w9.cell? ⟨P, 0, none⟩ = some (.int .u8 (p.ty : Int)) := (HK.at 0 rfl).cells 0; have h25 := F'.at' 25 _ rfl; go_simp) ?_
  clear F a9
  intro a9 F
  refine fr_do F (by rw [wanted_at F rfl (t := 24) (b := false) (by kernel_rfl) rfl]; rfl) 27 rfl (by decide) (.bool false) (by intro a' F'; have h26 := F'.at' 26 _ rfl; go_simp <;> first | rfl | omega | (rw [IntKind.wrap_i64]; omega) | (rw [IntKind.wrap_u8]; omega) | (intro hcon; exfalso; omega) | (rw [Bool.eq_iff_iff]; simp; omega) | (rw [decide_eq_decide]; omega) | (congr 1; omega) | (congr 2; omega) | (rw [if_pos (by omega)]; congr 4 <;> omega) | (rw [if_pos (by omega), if_pos (by omega)]; congr 4 <;> omega)) ?_
  clear F a9
  intro a9 F
  refine fr_do F (wanted_free rfl) 28 rfl (by decide) (.bool false) (by intro a' F'; have h24 := F'.at' 24 _ rfl; have h27 := F'.at' 27 _ rfl; go_simp) ?_
  clear F a9
  intro a9 F
  refine wpList_nil ?_
  show Code.wp _ _ _ _ _
  refine wp_cond_false (F.ev 28 rfl) ?_
  refine wp_skip ?_
  show Code.wp _ _ _ _ _
  replace F : FrL 130 [(4, .pointer (some ⟨P, 0, none⟩)), (3, .int .u8 (k : Int)), (2, .int .u8 (lt : Int)), (1, .int .u8 (lv : Int))] a9 := (((((FrL.nil F.size F.defers).add 1 _ (F.at' 1 _ rfl)).add 2 _ (F.at' 2 _ rfl)).add 3 _ (F.at' 3 _ rfl)).add 4 _ (F.at' 4 _ rfl))
  refine wp_seq ?_
  refine wp_region_lit ?_
  refine fr_do F (wanted_free rfl) 31 rfl (by decide) (.agg ((pkV p a c))) (by intro a' F'; exact run_load_box rfl (F'.ev 4 rfl) (HK.at 0 rfl) Tryd.underlying27 rfl infoPk) ?_
  clear F a9
  intro a9 F
  refine fr_call F (wanted_free rfl) 32 rfl (by decide) 19 #[.agg (pkV p a c)] (by intro a' F'; have h31 := F'.at' 31 _ rfl; go_simp) (HN.out _ HK.env (HK.rowAt 0 rfl)) ?_
  rintro e9 w8 ⟨rfl, hb8⟩
  replace HK := HK.below hb8
  clear hb8
  clear w9
  rename World => w9
  refine ⟨_, rfl, ?_⟩
  clear F a9
  intro a9 F
  refine fr_do F (wanted_free rfl) 30 rfl (by decide) (.tuple #[.string t, .int .i64 0]) (by intro a' F'; have h32 := F'.at' 32 _ rfl; go_simp) ?_
  clear F a9
  intro a9 F
  refine fr_do F (wanted_free rfl) 33 rfl (by decide) (.string t) (by intro a' F'; have h30 := F'.at' 30 _ rfl; go_simp) ?_
  clear F a9
  intro a9 F
  refine fr_do F (wanted_free rfl) 34 rfl (by decide) (.int .i64 0) (by intro a' F'; have h30 := F'.at' 30 _ rfl; go_simp) ?_
  clear F a9
  intro a9 F
  refine fr_do F (wanted_free rfl) 9 rfl (by decide) (.string t) (by intro a' F'; have h33 := F'.at' 33 _ rfl; go_simp) ?_
  clear F a9
  intro a9 F
  refine fr_do F (wanted_free rfl) 10 rfl (by decide) (.int .i64 0) (by intro a' F'; have h34 := F'.at' 34 _ rfl; go_simp) ?_
  clear F a9
  intro a9 F
  refine wpList_nil ?_
  show Code.wp _ _ _ _ _
  replace F : FrL 130 [(10, .int .i64 0), (9, .string t), (4, .pointer (some ⟨P, 0, none⟩)), (3, .int .u8 (k : Int)), (2, .int .u8 (lt : Int)), (1, .int .u8 (lv : Int))] a9 := (((((((FrL.nil F.size F.defers).add 1 _ (F.at' 1 _ rfl)).add 2 _ (F.at' 2 _ rfl)).add 3 _ (F.at' 3 _ rfl)).add 4 _ (F.at' 4 _ rfl)).add 9 _ (F.at' 9 _ rfl)).add 10 _ (F.at' 10 _ rfl))
  refine wp_seq ?_
  refine wp_seq ?_
  refine wp_region_lit ?_
  refine fr_do F (wanted_free rfl) 35 rfl (by decide) (.int .i64 0) (by intro a' F'; have h10 := F'.at' 10 _ rfl; go_simp) ?_
  clear F a9
  intro a9 F
  refine fr_do F (wanted_free rfl) 36 rfl (by decide) (.bool false) (by intro a' F'; have h35 := F'.at' 35 _ rfl; go_simp) ?_
  clear F a9
  intro a9 F
  refine wpList_nil ?_
  show Code.wp _ _ _ _ _
  refine wp_cond_false (F.ev 36 rfl) ?_
  refine wp_skip ?_
  show Code.wp _ _ _ _ _
  replace F : FrL 130 [(9, .string t), (4, .pointer (some ⟨P, 0, none⟩)), (3, .int .u8 (k : Int)), (2, .int .u8 (lt : Int)), (1, .int .u8 (lv : Int))] a9 := ((((((FrL.nil F.size F.defers).add 1 _ (F.at' 1 _ rfl)).add 2 _ (F.at' 2 _ rfl)).add 3 _ (F.at' 3 _ rfl)).add 4 _ (F.at' 4 _ rfl)).add 9 _ (F.at' 9 _ rfl))
  refine wp_seq ?_
  refine wp_region_lit ?_
  refine fr_do F (wanted_free rfl) 38 rfl (by decide) (.string t) (by intro a' F'; have h9 := F'.at' 9 _ rfl; go_simp) ?_
  clear F a9
  intro a9 F
  refine fr_do F (wanted_free rfl) 39 rfl (by decide) (.int .i64 (t.size : Int)) (by intro a' F'; have h38 := F'.at' 38 _ rfl; go_simp) ?_
  clear F a9
  intro a9 F
  refine fr_do F (wanted_free rfl) 40 rfl (by decide) (.agg ((pkV p a c))) (by intro a' F'; exact run_load_box rfl (F'.ev 4 rfl) (HK.at 0 rfl) Tryd.underlying27 rfl infoPk) ?_
  clear F a9
  intro a9 F
  refine fr_call F (wanted_free rfl) 41 rfl (by decide) 35 #[.agg (pkV p a c)] (by intro a' F'; have h40 := F'.at' 40 _ rfl; go_simp) (HRS.out _ HK.env (HK.rowAt 0 rfl)) ?_
  rintro e9 w8 ⟨rfl, hb8⟩
  replace HK := HK.below hb8
  clear hb8
  clear w9
  rename World => w9
  refine ⟨_, rfl, ?_⟩
  clear F a9
  intro a9 F
  refine fr_do F (wanted_free rfl) 42 rfl (by decide) (.int .i64 (gg : Int)) (by intro a' F'; have h39 := F'.at' 39 _ rfl; have h41 := F'.at' 41 _ rfl; go_simp <;> first | rfl | omega | (rw [IntKind.wrap_i64]; omega) | (rw [IntKind.wrap_u8]; omega) | (intro hcon; exfalso; omega) | (rw [Bool.eq_iff_iff]; simp; omega) | (rw [decide_eq_decide]; omega) | (congr 1; omega) | (congr 2; omega) | (rw [if_pos (by omega)]; congr 4 <;> omega) | (rw [if_pos (by omega), if_pos (by omega)]; congr 4 <;> omega)) ?_
  clear F a9
  intro a9 F
  refine fr_do F (wanted_free rfl) 11 rfl (by decide) (.int .i64 (gg : Int)) (by intro a' F'; have h42 := F'.at' 42 _ rfl; go_simp) ?_
  clear F a9
  intro a9 F
  refine wpList_nil ?_
  show Code.wp _ _ _ _ _
  replace F : FrL 130 [(11, .int .i64 (gg : Int)), (9, .string t), (4, .pointer (some ⟨P, 0, none⟩)), (3, .int .u8 (k : Int)), (2, .int .u8 (lt : Int)), (1, .int .u8 (lv : Int))] a9 := (((((((FrL.nil F.size F.defers).add 1 _ (F.at' 1 _ rfl)).add 2 _ (F.at' 2 _ rfl)).add 3 _ (F.at' 3 _ rfl)).add 4 _ (F.at' 4 _ rfl)).add 9 _ (F.at' 9 _ rfl)).add 11 _ (F.at' 11 _ rfl))
  refine wp_seq ?_
  refine wp_seq ?_
  refine wp_region_lit ?_
  refine fr_do F (wanted_free rfl) 43 rfl (by decide) (.int .i64 (gg : Int)) (by intro a' F'; have h11 := F'.at' 11 _ rfl; go_simp) ?_
  clear F a9
  intro a9 F
  refine fr_do F (wanted_free rfl) 44 rfl (by decide) (.bool false) (by intro a' F'; have h43 := F'.at' 43 _ rfl; go_simp <;> first | rfl | omega | (rw [IntKind.wrap_i64]; omega) | (rw [IntKind.wrap_u8]; omega) | (intro hcon; exfalso; omega) | (rw [Bool.eq_iff_iff]; simp; omega) | (rw [decide_eq_decide]; omega) | (congr 1; omega) | (congr 2; omega) | (rw [if_pos (by omega)]; congr 4 <;> omega) | (rw [if_pos (by omega), if_pos (by omega)]; congr 4 <;> omega)) ?_
  clear F a9
  intro a9 F
  refine fr_do F (wanted_free rfl) 45 rfl (by decide) (.bool false) (by intro a' F'; have h44 := F'.at' 44 _ rfl; go_simp) ?_
  clear F a9
  intro a9 F
  refine fr_do F (by rw [wanted_at F rfl (t := 45) (b := false) (by kernel_rfl) rfl]; rfl) 46 rfl (by decide) (.int .i64 (gg : Int)) (by intro a' F'; have h11 := F'.at' 11 _ rfl; go_simp) ?_
  clear F a9
  intro a9 F
  refine fr_do F (by rw [wanted_at F rfl (t := 45) (b := false) (by kernel_rfl) rfl]; rfl) 47 rfl (by decide) (.int .i64 ((gg + 7 : Nat) : Int)) (by intro a' F'; have h46 := F'.at' 46 _ rfl; go_simp <;> first | rfl | omega | (rw [IntKind.wrap_i64]; omega) | (rw [IntKind.wrap_u8]; omega) | (intro hcon; exfalso; omega) | (rw [Bool.eq_iff_iff]; simp; omega) | (rw [decide_eq_decide]; omega) | (congr 1; omega) | (congr 2; omega) | (rw [if_pos (by omega)]; congr 4 <;> omega) | (rw [if_pos (by omega), if_pos (by omega)]; congr 4 <;> omega)) ?_
  clear F a9
  intro a9 F
  refine fr_do F (by rw [wanted_at F rfl (t := 45) (b := false) (by kernel_rfl) rfl]; rfl) 48 rfl (by decide) (.string t) (by intro a' F'; have h9 := F'.at' 9 _ rfl; go_simp) ?_
  clear F a9
  intro a9 F
  refine fr_do F (by rw [wanted_at F rfl (t := 45) (b := false) (by kernel_rfl) rfl]; rfl) 49 rfl (by decide) (.int .i64 (t.size : Int)) (by intro a' F'; have h48 := F'.at' 48 _ rfl; go_simp) ?_
  clear F a9
  intro a9 F
  refine fr_do F (by rw [wanted_at F rfl (t := 45) (b := false) (by kernel_rfl) rfl]; rfl) 50 rfl (by decide) (.bool false) (by intro a' F'; have h47 := F'.at' 47 _ rfl; have h49 := F'.at' 49 _ rfl; go_simp <;> first | rfl | omega | (rw [IntKind.wrap_i64]; omega) | (rw [IntKind.wrap_u8]; omega) | (intro hcon; exfalso; omega) | (rw [Bool.eq_iff_iff]; simp; omega) | (rw [decide_eq_decide]; omega) | (congr 1; omega) | (congr 2; omega) | (rw [if_pos (by omega)]; congr 4 <;> omega) | (rw [if_pos (by omega), if_pos (by omega)]; congr 4 <;> omega)) ?_
  clear F a9
  intro a9 F
  refine fr_do F (wanted_free rfl) 51 rfl (by decide) (.bool false) (by intro a' F'; have h45 := F'.at' 45 _ rfl; have h50 := F'.at' 50 _ rfl; go_simp) ?_
  clear F a9
  intro a9 F
  refine wpList_nil ?_
  show Code.wp _ _ _ _ _
  refine wp_cond_false (F.ev 51 rfl) ?_
  refine wp_skip ?_
  show Code.wp _ _ _ _ _
  replace F : FrL 130 [(11, .int .i64 (gg : Int)), (9, .string t), (4, .pointer (some ⟨P, 0, none⟩)), (3, .int .u8 (k : Int)), (2, .int .u8 (lt : Int)), (1, .int .u8 (lv : Int))] a9 := (((((((FrL.nil F.size F.defers).add 1 _ (F.at' 1 _ rfl)).add 2 _ (F.at' 2 _ rfl)).add 3 _ (F.at' 3 _ rfl)).add 4 _ (F.at' 4 _ rfl)).add 9 _ (F.at' 9 _ rfl)).add 11 _ (F.at' 11 _ rfl))
  have s1 : (t.extract 0 (gg + 6)).size = gg + 6 := by rw [ByteArray.size_extract]; omega
  have s2 : (t.extract (gg + 7) t.size).size = t.size - (gg + 7) := by rw [ByteArray.size_extract]; omega
  have s3 : (strN [lv]).size = 1 := rfl
  have s4 : (t.extract 0 (gg + 6) ++ strN [lv]).size = gg + 7 := by rw [ByteArray.size_append, s1, s3]
  refine wp_seq ?_
  refine wp_region_noPanic ?_
  have hb8 : Below w9.heap.size w9 w9.drew := below_draws (n := 1) rfl
  replace HK := HK.below hb8
  clear hb8
  refine AnyT.begin (S := fun _ => True) (z := 1000) (by kernel_rfl) trivial (fun hS0 => ?_)
  clear hS0
  generalize w9.drew = w8 at *
  clear w9
  rename World => w9
  refine fr_takeG (i := 0) (o := ⟨some 52, _, _, _, _, _⟩) F trivial rfl (wanted_free rfl) 52 rfl (by decide) (.string t) (fun w9 hS => (by intro a' F'; have h9 := F'.at' 9 _ rfl; go_simp)) ?_
  clear F a9
  intro a9 F
  refine fr_takeG (i := 1) (o := ⟨some 53, _, _, _, _, _⟩) F trivial rfl (wanted_free rfl) 53 rfl (by decide) (.int .i64 (gg : Int)) (fun w9 hS => (by intro a' F'; have h11 := F'.at' 11 _ rfl; go_simp)) ?_
  clear F a9
  intro a9 F
  refine fr_takeG (i := 2) (o := ⟨some 54, _, _, _, _, _⟩) F trivial rfl (wanted_free rfl) 54 rfl (by decide) (.int .i64 ((gg + 6 : Nat) : Int)) (fun w9 hS => (by intro a' F'; have h53 := F'.at' 53 _ rfl; go_simp <;> first | rfl | omega | (rw [IntKind.wrap_i64]; omega) | (rw [IntKind.wrap_u8]; omega) | (intro hcon; exfalso; omega) | (rw [Bool.eq_iff_iff]; simp; omega) | (rw [decide_eq_decide]; omega) | (congr 1; omega) | (congr 2; omega) | (rw [if_pos (by omega)]; congr 4 <;> omega) | (rw [if_pos (by omega), if_pos (by omega)]; congr 4 <;> omega))) ?_
  clear F a9
  intro a9 F
  refine fr_takeG (i := 3) (o := ⟨some 55, _, _, _, _, _⟩) F trivial rfl (wanted_free rfl) 55 rfl (by decide) (.string (t.extract 0 (gg + 6))) (fun w9 hS => (by intro a' F'; have h52 := F'.at' 52 _ rfl; have h54 := F'.at' 54 _ rfl; go_simp <;> first | rfl | omega | (rw [IntKind.wrap_i64]; omega) | (rw [IntKind.wrap_u8]; omega) | (intro hcon; exfalso; omega) | (rw [Bool.eq_iff_iff]; simp; omega) | (rw [decide_eq_decide]; omega) | (congr 1; omega) | (congr 2; omega) | (rw [if_pos (by omega)]; congr 4 <;> omega) | (rw [if_pos (by omega), if_pos (by omega)]; congr 4 <;> omega))) ?_
  clear F a9
  intro a9 F
  refine fr_takeG (i := 4) (o := ⟨some 56, _, _, _, _, _⟩) F trivial rfl (wanted_free rfl) 56 rfl (by decide) (.int .u8 (lv : Int)) (fun w9 hS => (by intro a' F'; have h1 := F'.at' 1 _ rfl; go_simp)) ?_
  clear F a9
  intro a9 F
  refine fr_takeG (i := 8) (o := ⟨some 60, _, _, _, _, _⟩) F trivial rfl (wanted_free rfl) 60 rfl (by decide) (.string t) (fun w9 hS => (by intro a' F'; have h9 := F'.at' 9 _ rfl; go_simp)) ?_
  clear F a9
  intro a9 F
  refine fr_takeG (i := 9) (o := ⟨some 61, _, _, _, _, _⟩) F trivial rfl (wanted_free rfl) 61 rfl (by decide) (.int .i64 (gg : Int)) (fun w9 hS => (by intro a' F'; have h11 := F'.at' 11 _ rfl; go_simp)) ?_
  clear F a9
  intro a9 F
  refine fr_takeG (i := 10) (o := ⟨some 62, _, _, _, _, _⟩) F trivial rfl (wanted_free rfl) 62 rfl (by decide) (.int .i64 ((gg + 7 : Nat) : Int)) (fun w9 hS => (by intro a' F'; have h61 := F'.at' 61 _ rfl; go_simp <;> first | rfl | omega | (rw [IntKind.wrap_i64]; omega) | (rw [IntKind.wrap_u8]; omega) | (intro hcon; exfalso; omega) | (rw [Bool.eq_iff_iff]; simp; omega) | (rw [decide_eq_decide]; omega) | (congr 1; omega) | (congr 2; omega) | (rw [if_pos (by omega)]; congr 4 <;> omega) | (rw [if_pos (by omega), if_pos (by omega)]; congr 4 <;> omega))) ?_
  clear F a9
  intro a9 F
  refine fr_takeG (i := 11) (o := ⟨some 63, _, _, _, _, _⟩) F trivial rfl (wanted_free rfl) 63 rfl (by decide) (.string (t.extract (gg + 7) t.size)) (fun w9 hS => (by intro a' F'; have h60 := F'.at' 60 _ rfl; have h62 := F'.at' 62 _ rfl; go_simp <;> first | rfl | omega | (rw [IntKind.wrap_i64]; omega) | (rw [IntKind.wrap_u8]; omega) | (intro hcon; exfalso; omega) | (rw [Bool.eq_iff_iff]; simp; omega) | (rw [decide_eq_decide]; omega) | (congr 1; omega) | (congr 2; omega) | (rw [if_pos (by omega)]; congr 4 <;> omega) | (rw [if_pos (by omega), if_pos (by omega)]; congr 4 <;> omega))) ?_
  clear F a9
  intro a9 F
  obtain ⟨i0, hi, hz0, hz1, hz2⟩ := info_parts infoU8
  have HK2 := HK.allocRow (natV [lv]) 5
  refine fr_step (i := 5) (o := ⟨some 57, _, _, _, _, _⟩) F rfl rfl 57 rfl (by decide) (.slice (some ⟨w9.heap.size, 0, none⟩) 1 1) (w9.alloc (.cells (natV [lv]).toArray 5)) (fun a' F' => run_bytes1 53 5 _ rfl lv (F'.ev 56 rfl) i0 _ Tryd.underlying53 hi hz0 (by rw [hz1]; decide) (by rw [hz1]; decide) (by rw [hz1]; kernel_rfl)) trivial ?_
  clear F a9
  intro a9 F
  clear hi hz0 hz1 hz2 i0
  obtain ⟨Z, hZ⟩ : ∃ Z, w9.heap.size = Z := ⟨_, rfl⟩
  rw [hZ] at HK2 F
  clear HK hZ
  generalize w9.alloc (.cells (natV [lv]).toArray 5) = w8 at *
  clear w9
  rename World => w9
  have HK := HK2
  clear HK2
  replace HK : Keep w [(P, (pkV p a c), 27)] [(some ⟨Z, 0, none⟩, natV [lv]), (a, subCells p.subs)] w9 := HK
  have kc := conv_nats (P := Tryd.prog) w9 53 5 Tryd.underlying53 Tryd.underlying5 (some ⟨Z, 0, none⟩) 1 [lv] 1 rfl (HK.rowAt 0 rfl) 9 Tryd.underlying9
  refine fr_step (i := 6) (o := ⟨some 58, _, _, _, _, _⟩) F rfl rfl 58 rfl (by decide) (.string (strN [lv])) w9 (fun a' F' => run_conv 53 9 _ rfl _ _ (F'.ev 57 rfl) kc) trivial ?_
  clear F a9
  intro a9 F
  clear kc
  refine fr_takeG (i := 7) (o := ⟨some 59, _, _, _, _, _⟩) F trivial rfl (wanted_free rfl) 59 rfl (by decide) (.string (t.extract 0 (gg + 6) ++ strN [lv])) (fun w9 hS => (by intro a' F'; have h55 := F'.at' 55 _ rfl; have h58 := F'.at' 58 _ rfl; go_simp <;> first | omega | exact rfl | (rw [if_neg (by omega)]; done) | (rw [if_neg (by omega), rfl]; done) | (intro hcon; exfalso; omega) | simpa using rfl)) ?_
  clear F a9
  intro a9 F
  refine fr_takeG (i := 12) (o := ⟨some 64, _, _, _, _, _⟩) F trivial rfl (wanted_free rfl) 64 rfl (by decide) (.string t1) (fun w9 hS => (by intro a' F'; have h59 := F'.at' 59 _ rfl; have h63 := F'.at' 63 _ rfl; have hq := HT1.out; rw [htl] at hq; go_simp <;> first | omega | exact hq | (rw [if_neg (by omega)]; done) | (rw [if_neg (by omega), hq]; done) | (intro hcon; exfalso; omega) | simpa using hq)) ?_
  clear F a9
  intro a9 F
  refine fr_takeG (i := 13) (o := ⟨some 12, _, _, _, _, _⟩) F trivial rfl (wanted_free rfl) 12 rfl (by decide) (.string t1) (fun w9 hS => (by intro a' F'; have h64 := F'.at' 64 _ rfl; go_simp)) ?_
  clear F a9
  intro a9 F
  refine AnyT.done (by kernel_rfl) ?_ _
  refine NoPanic.normal ?_
  show Code.wp _ _ _ _ _
  replace HK := HK.sub (List.Sublist.refl _) (R' := [(a, subCells p.subs)]) (fun r hr => List.mem_cons_of_mem _ hr)
  clear s1 s2 s3 s4
  replace F : FrL 130 [(12, .string t1), (11, .int .i64 (gg : Int)), (4, .pointer (some ⟨P, 0, none⟩)), (3, .int .u8 (k : Int)), (2, .int .u8 (lt : Int)), (1, .int .u8 (lv : Int))] a9 := (((((((FrL.nil F.size F.defers).add 1 _ (F.at' 1 _ rfl)).add 2 _ (F.at' 2 _ rfl)).add 3 _ (F.at' 3 _ rfl)).add 4 _ (F.at' 4 _ rfl)).add 11 _ (F.at' 11 _ rfl)).add 12 _ (F.at' 12 _ rfl))
  refine wp_seq ?_
  refine wp_region_lit ?_
  refine fr_do F (wanted_free rfl) 66 rfl (by decide) (.string t1) (by intro a' F'; have h12 := F'.at' 12 _ rfl; go_simp) ?_
  clear F a9
  intro a9 F
  refine fr_call F (wanted_free rfl) 67 rfl (by decide) 29 #[.string t1] (by intro a' F'; have h66 := F'.at' 66 _ rfl; go_simp) (HD1.out _ HK.env) ?_
  rintro e9 w8 ⟨al, cap, rfl, hown, hb8⟩
  replace HK := HK.ownRow hb8 hown
  clear hb8 hown
  clear w9
  rename World => w9
  refine ⟨_, rfl, ?_⟩
  clear F a9
  intro a9 F
  refine fr_do F (wanted_free rfl) 65 rfl (by decide) (.tuple #[.agg (pkV P4 al cap), .int .i64 (t1.size : Int), .int .i64 ((0 : Nat) : Int)]) (by intro a' F'; have h67 := F'.at' 67 _ rfl; go_simp) ?_
  clear F a9
  intro a9 F
  refine fr_do F (wanted_free rfl) 68 rfl (by decide) (.agg (pkV P4 al cap)) (by intro a' F'; have h65 := F'.at' 65 _ rfl; go_simp) ?_
  clear F a9
  intro a9 F
  refine fr_do F (wanted_free rfl) 69 rfl (by decide) (.int .i64 (t1.size : Int)) (by intro a' F'; have h65 := F'.at' 65 _ rfl; go_simp) ?_
  clear F a9
  intro a9 F
  refine fr_do F (wanted_free rfl) 70 rfl (by decide) (.int .i64 ((0 : Nat) : Int)) (by intro a' F'; have h65 := F'.at' 65 _ rfl; go_simp) ?_
  clear F a9
  intro a9 F
  obtain ⟨i0, hi, hz0, hz1, hz2⟩ := info_parts infoPkR
  refine fr_new F HK 13 (by decide) rfl 27 rfl rfl rfl (.tmp 68) rfl rfl i0 _ hi hz0 (cells := (pkV P4 al cap)) hz1 rfl (pk_one _ _ _) (fun a' Y F' => F'.ev 68 rfl) ?_
  rintro Q a10 w10 hX F' HK' hb
  clear HK F hb hX hi hz0 hz1 hz2 i0
  clear a9 w9
  rename World => w9
  rename Act => a9
  have HK := HK'
  have F := F'
  clear HK' F'
  replace HK : Keep w [(Q, (pkV P4 al cap), 27), (P, (pkV p a c), 27)] [(al, subCells (P4).subs), (a, subCells p.subs)] w9 := HK
  refine fr_do F (wanted_free rfl) 14 rfl (by decide) (.int .i64 (t1.size : Int)) (by intro a' F'; have h69 := F'.at' 69 _ rfl; go_simp) ?_
  clear F a9
  intro a9 F
  refine fr_do F (wanted_free rfl) 15 rfl (by decide) (.int .i64 ((0 : Nat) : Int)) (by intro a' F'; have h70 := F'.at' 70 _ rfl; go_simp) ?_
  clear F a9
  intro a9 F
  refine wpList_nil ?_
  show Code.wp _ _ _ _ _
  replace F : FrL 130 [(15, .int .i64 ((0 : Nat) : Int)), (14, .int .i64 (t1.size : Int)), (13, .pointer (some ⟨Q, 0, none⟩)), (12, .string t1), (11, .int .i64 (gg : Int)), (4, .pointer (some ⟨P, 0, none⟩)), (3, .int .u8 (k : Int)), (2, .int .u8 (lt : Int)), (1, .int .u8 (lv : Int))] a9 := ((((((((((FrL.nil F.size F.defers).add 1 _ (F.at' 1 _ rfl)).add 2 _ (F.at' 2 _ rfl)).add 3 _ (F.at' 3 _ rfl)).add 4 _ (F.at' 4 _ rfl)).add 11 _ (F.at' 11 _ rfl)).add 12 _ (F.at' 12 _ rfl)).add 13 _ (F.at' 13 _ rfl)).add 14 _ (F.at' 14 _ rfl)).add 15 _ (F.at' 15 _ rfl))
  refine wp_seq ?_
  refine wp_region_lit ?_
  refine fr_do F (wanted_free rfl) 71 rfl (by decide) (.int .u8 (lv : Int)) (by intro a' F'; have h1 := F'.at' 1 _ rfl; go_simp) ?_
  clear F a9
  intro a9 F
  refine fr_do F (wanted_free rfl) 72 rfl (by decide) (.agg (pkV { Pk.zero with ty := 1, level := lv } none 0)) (by intro a' F'; have g71 := F'.get 71 rfl; exact run_build_to rfl (by simp only [List.map_toArray, List.map_cons, List.map_nil, Act.eval, g71]; kernel_rfl)) ?_
  clear F a9
  intro a9 F
  obtain ⟨i0, hi, hz0, hz1, hz2⟩ := info_parts infoPkR
  refine fr_new F HK 16 (by decide) rfl 27 rfl rfl rfl (.tmp 72) rfl rfl i0 _ hi hz0 (cells := (pkV { Pk.zero with ty := 1, level := lv } none 0)) hz1 rfl (pk_one _ _ _) (fun a' Y F' => F'.ev 72 rfl) ?_
  rintro W a10 w10 hX F' HK' hb
  clear HK F hb hX hi hz0 hz1 hz2 i0
  clear a9 w9
  rename World => w9
  rename Act => a9
  have HK := HK'
  have F := F'
  clear HK' F'
  replace HK : Keep w [(W, (pkV { Pk.zero with ty := 1, level := lv } none 0), 27), (Q, (pkV P4 al cap), 27), (P, (pkV p a c), 27)] [(al, subCells (P4).subs), (a, subCells p.subs)] w9 := HK
  refine wpList_nil ?_
  show Code.wp _ _ _ _ _
  replace F : FrL 130 [(16, .pointer (some ⟨W, 0, none⟩)), (15, .int .i64 ((0 : Nat) : Int)), (14, .int .i64 (t1.size : Int)), (13, .pointer (some ⟨Q, 0, none⟩)), (12, .string t1), (11, .int .i64 (gg : Int)), (4, .pointer (some ⟨P, 0, none⟩)), (3, .int .u8 (k : Int)), (2, .int .u8 (lt : Int)), (1, .int .u8 (lv : Int))] a9 := (((((((((((FrL.nil F.size F.defers).add 1 _ (F.at' 1 _ rfl)).add 2 _ (F.at' 2 _ rfl)).add 3 _ (F.at' 3 _ rfl)).add 4 _ (F.at' 4 _ rfl)).add 11 _ (F.at' 11 _ rfl)).add 12 _ (F.at' 12 _ rfl)).add 13 _ (F.at' 13 _ rfl)).add 14 _ (F.at' 14 _ rfl)).add 15 _ (F.at' 15 _ rfl)).add 16 _ (F.at' 16 _ rfl))
  refine wp_seq_meet (fun a' w' => FrL 130 [(16, .pointer (some ⟨W, 0, none⟩)), (15, .int .i64 ((0 : Nat) : Int)), (14, .int .i64 (t1.size : Int)), (13, .pointer (some ⟨Q, 0, none⟩)), (12, .string t1), (11, .int .i64 (gg : Int)), (3, .int .u8 (k : Int)), (2, .int .u8 (lt : Int))] a' ∧ ∃ (a2 : Option Addr) (c2 : Nat), Keep w [(W, (pkV P4 a2 c2), 27), (Q, (pkV P4 al cap), 27), (P, (pkV p a c), 27)] [(al, subCells (P4).subs), (a, subCells p.subs)] w' ∧ CellsA w' a2 (subCells P4.subs)) ?_ ?_
  · by_cases h4 : lv = 4
    · have hP := HW4.out h4
      clear HW4 HW5
      refine wp_seq ?_
      refine wp_region_lit ?_
      refine fr_do F (wanted_free rfl) 73 rfl (by decide) (.int .u8 (lv : Int)) (by intro a' F'; have h1 := F'.at' 1 _ rfl; go_simp) ?_
      clear F a9
      intro a9 F
      refine fr_do F (wanted_free rfl) 74 rfl (by decide) (.bool true) (by intro a' F'; have h73 := F'.at' 73 _ rfl; go_simp <;> first | rfl | omega | (rw [IntKind.wrap_i64]; omega) | (rw [IntKind.wrap_u8]; omega) | (intro hcon; exfalso; omega) | (rw [Bool.eq_iff_iff]; simp; omega) | (rw [decide_eq_decide]; omega) | (congr 1; omega) | (congr 2; omega) | (rw [if_pos (by omega)]; congr 4 <;> omega) | (rw [if_pos (by omega), if_pos (by omega)]; congr 4 <;> omega)) ?_
      clear F a9
      intro a9 F
      refine wpList_nil ?_
      show Code.wp _ _ _ _ _
      refine wp_cond_true (F.ev 74 rfl) ?_
      refine wp_region_lit ?_
      refine fr_do F (wanted_free rfl) 75 rfl (by decide) (.agg ((pkV p a c))) (by intro a' F'; exact run_load_box rfl (F'.ev 4 rfl) (HK.at 2 rfl) Tryd.underlying27 rfl infoPk) ?_
      clear F a9
      intro a9 F
      refine fr_storeO F HK 0 rfl rfl rfl 27 (.tmp 16) (.tmp 75) rfl ((pkV p a c)) (fun a' F' => F'.ev 16 rfl) (fun a' F' => F'.ev 75 rfl) infoPk rfl (pk_one _ _ _) ?_
      intro a10 w10 F' HK' HO
      clear HK F HO
      clear a9 w9
      rename World => w9
      rename Act => a9
      have HK := HK'
      have F := F'
      clear HK' F'
      replace HK : Keep w [(W, ((pkV p a c)), 27), (Q, (pkV P4 al cap), 27), (P, (pkV p a c), 27)] [(al, subCells (P4).subs), (a, subCells p.subs)] w9 := HK
      refine wpList_nil ?_
      refine ⟨(((((((((FrL.nil F.size F.defers).add 2 _ (F.at' 2 _ rfl)).add 3 _ (F.at' 3 _ rfl)).add 11 _ (F.at' 11 _ rfl)).add 12 _ (F.at' 12 _ rfl)).add 13 _ (F.at' 13 _ rfl)).add 14 _ (F.at' 14 _ rfl)).add 15 _ (F.at' 15 _ rfl)).add 16 _ (F.at' 16 _ rfl)), a, c, ?_, ?_⟩
      · subst hP
        exact HK
      · subst hP
        exact HK.rowAt 1 rfl
    · have hP := HW5.out h4
      clear HW4 HW5
      refine wp_seq ?_
      refine wp_region_lit ?_
      refine fr_do F (wanted_free rfl) 73 rfl (by decide) (.int .u8 (lv : Int)) (by intro a' F'; have h1 := F'.at' 1 _ rfl; go_simp) ?_
      clear F a9
      intro a9 F
      refine fr_do F (wanted_free rfl) 74 rfl (by decide) (.bool false) (by intro a' F'; have h73 := F'.at' 73 _ rfl; go_simp <;> first | rfl | omega | (rw [IntKind.wrap_i64]; omega) | (rw [IntKind.wrap_u8]; omega) | (intro hcon; exfalso; omega) | (rw [Bool.eq_iff_iff]; simp; omega) | (rw [decide_eq_decide]; omega) | (congr 1; omega) | (congr 2; omega) | (rw [if_pos (by omega)]; congr 4 <;> omega) | (rw [if_pos (by omega), if_pos (by omega)]; congr 4 <;> omega)) ?_
      clear F a9
      intro a9 F
      refine wpList_nil ?_
      show Code.wp _ _ _ _ _
      refine wp_cond_false (F.ev 74 rfl) ?_
      refine wp_skip ?_
      refine ⟨(((((((((FrL.nil F.size F.defers).add 2 _ (F.at' 2 _ rfl)).add 3 _ (F.at' 3 _ rfl)).add 11 _ (F.at' 11 _ rfl)).add 12 _ (F.at' 12 _ rfl)).add 13 _ (F.at' 13 _ rfl)).add 14 _ (F.at' 14 _ rfl)).add 15 _ (F.at' 15 _ rfl)).add 16 _ (F.at' 16 _ rfl)), none, 0, ?_, ?_⟩
      · rw [hP]
        rw [hP] at HK
        exact HK
      · rw [hP]
        exact CellsA.nil _ _
  clear HK F a9 w9 HW4 HW5
  rintro a9 w9 ⟨F, a2, c2, HK, hc2⟩
  have HC2 := Lib.hid hc2
  clear hc2
  replace F : FrL 130 [(16, .pointer (some ⟨W, 0, none⟩)), (15, .int .i64 ((0 : Nat) : Int)), (14, .int .i64 (t1.size : Int)), (13, .pointer (some ⟨Q, 0, none⟩)), (12, .string t1), (11, .int .i64 (gg : Int)), (3, .int .u8 (k : Int)), (2, .int .u8 (lt : Int))] a9 := (((((((((FrL.nil F.size F.defers).add 2 _ (F.at' 2 _ rfl)).add 3 _ (F.at' 3 _ rfl)).add 11 _ (F.at' 11 _ rfl)).add 12 _ (F.at' 12 _ rfl)).add 13 _ (F.at' 13 _ rfl)).add 14 _ (F.at' 14 _ rfl)).add 15 _ (F.at' 15 _ rfl)).add 16 _ (F.at' 16 _ rfl))
  replace HK : Keep w [(W, (pkV P4 a2 c2), 27), (Q, (pkV P4 al cap), 27), (P, (pkV p a c), 27)] [(al, subCells (P4).subs), (a, subCells p.subs)] w9 := HK
  refine wp_seq ?_
  refine wp_seq ?_
  refine wp_region_lit ?_
  refine fr_do F (wanted_free rfl) 76 rfl (by decide) (.int .i64 ((0 : Nat) : Int)) (by intro a' F'; have h15 := F'.at' 15 _ rfl; go_simp) ?_
  clear F a9
  intro a9 F
  refine fr_do F (wanted_free rfl) 77 rfl (by decide) (.bool false) (by intro a' F'; have h76 := F'.at' 76 _ rfl; go_simp) ?_
  clear F a9
  intro a9 F
  refine fr_do F (wanted_free rfl) 78 rfl (by decide) (.bool false) (by intro a' F'; have h77 := F'.at' 77 _ rfl; go_simp) ?_
  clear F a9
  intro a9 F
  refine fr_do F (by rw [wanted_at F rfl (t := 78) (b := false) (by kernel_rfl) rfl]; rfl) 79 rfl (by decide) (.int .i64 (t1.size : Int)) (by intro a' F'; have h14 := F'.at' 14 _ rfl; go_simp) ?_
  clear F a9
  intro a9 F
  refine fr_do F (by rw [wanted_at F rfl (t := 78) (b := false) (by kernel_rfl) rfl]; rfl) 80 rfl (by decide) (.string t1) (by intro a' F'; have h12 := F'.at' 12 _ rfl; go_simp) ?_
  clear F a9
  intro a9 F
  refine fr_do F (by rw [wanted_at F rfl (t := 78) (b := false) (by kernel_rfl) rfl]; rfl) 81 rfl (by decide) (.int .i64 (t1.size : Int)) (by intro a' F'; have h80 := F'.at' 80 _ rfl; go_simp) ?_
  clear F a9
  intro a9 F
  refine fr_do F (by rw [wanted_at F rfl (t := 78) (b := false) (by kernel_rfl) rfl]; rfl) 82 rfl (by decide) (.bool false) (by intro a' F'; have h79 := F'.at' 79 _ rfl; have h81 := F'.at' 81 _ rfl; go_simp <;> first | rfl | omega | (rw [IntKind.wrap_i64]; omega) | (rw [IntKind.wrap_u8]; omega) | (intro hcon; exfalso; omega) | (rw [Bool.eq_iff_iff]; simp; omega) | (rw [decide_eq_decide]; omega) | (congr 1; omega) | (congr 2; omega) | (rw [if_pos (by omega)]; congr 4 <;> omega) | (rw [if_pos (by omega), if_pos (by omega)]; congr 4 <;> omega)) ?_
  clear F a9
  intro a9 F
  refine fr_do F (wanted_free rfl) 83 rfl (by decide) (.bool false) (by intro a' F'; have h78 := F'.at' 78 _ rfl; have h82 := F'.at' 82 _ rfl; go_simp) ?_
  clear F a9
  intro a9 F
  refine fr_do F (wanted_free rfl) 84 rfl (by decide) (.bool false) (by intro a' F'; have h83 := F'.at' 83 _ rfl; go_simp) ?_
  clear F a9
  intro a9 F
  refine fr_do F (by rw [wanted_at F rfl (t := 84) (b := false) (by kernel_rfl) rfl]; rfl) 85 rfl (by decide) (.agg ((pkV P4 al cap))) (by intro a' F'; exact run_load_box rfl (F'.ev 13 rfl) (HK.at 1 rfl) Tryd.underlying27 rfl infoPk) ?_
  clear F a9
  intro a9 F
  refine fr_do F (by rw [wanted_at F rfl (t := 84) (b := false) (by kernel_rfl) rfl]; rfl) 86 rfl (by decide) (.agg ((pkV P4 a2 c2))) (by intro a' F'; exact run_load_box rfl (F'.ev 16 rfl) (HK.at 0 rfl) Tryd.underlying27 rfl infoPk) ?_
  clear F a9
  intro a9 F
  refine fr_call F (by rw [wanted_at F rfl (t := 84) (b := false) (by kernel_rfl) rfl]; rfl) 87 rfl (by decide) 30 #[.agg (pkV P4 al cap), .agg (pkV P4 a2 c2)] (by intro a' F'; have h85 := F'.at' 85 _ rfl; have h86 := F'.at' 86 _ rfl; go_simp) (HSM.out _ _ _ _ _ HK.env (HK.rowAt 0 rfl) HC2.out) ?_
  rintro e9 w8 ⟨rfl, hb8⟩
  replace HK := HK.below hb8
  clear HC2
  clear hb8
  clear w9
  rename World => w9
  refine ⟨_, rfl, ?_⟩
  clear F a9
  intro a9 F
  refine fr_do F (by rw [wanted_at F rfl (t := 84) (b := false) (by kernel_rfl) rfl]; rfl) 88 rfl (by decide) (.bool false) (by intro a' F'; have h87 := F'.at' 87 _ rfl; go_simp) ?_
  clear F a9
  intro a9 F
  refine fr_do F (wanted_free rfl) 89 rfl (by decide) (.bool false) (by intro a' F'; have h84 := F'.at' 84 _ rfl; have h88 := F'.at' 88 _ rfl; go_simp) ?_
  clear F a9
  intro a9 F
  refine wpList_nil ?_
  show Code.wp _ _ _ _ _
  refine wp_cond_false (F.ev 89 rfl) ?_
  refine wp_skip ?_
  show Code.wp _ _ _ _ _
  replace F : FrL 130 [(12, .string t1), (11, .int .i64 (gg : Int)), (3, .int .u8 (k : Int)), (2, .int .u8 (lt : Int))] a9 := (((((FrL.nil F.size F.defers).add 2 _ (F.at' 2 _ rfl)).add 3 _ (F.at' 3 _ rfl)).add 11 _ (F.at' 11 _ rfl)).add 12 _ (F.at' 12 _ rfl))
  refine wp_seq ?_
  refine wp_region_lit ?_
  refine fr_do F (wanted_free rfl) 90 rfl (by decide) (.int .i64 (gg : Int)) (by intro a' F'; have h11 := F'.at' 11 _ rfl; go_simp) ?_
  clear F a9
  intro a9 F
  refine fr_do F (wanted_free rfl) 91 rfl (by decide) (.int .u8 (k : Int)) (by intro a' F'; have h3 := F'.at' 3 _ rfl; go_simp) ?_
  clear F a9
  intro a9 F
  refine fr_do F (wanted_free rfl) 92 rfl (by decide) (.int .i64 (k : Int)) (by intro a' F'; have h91 := F'.at' 91 _ rfl; go_simp <;> first | rfl | omega | (rw [IntKind.wrap_i64]; omega) | (rw [IntKind.wrap_u8]; omega) | (intro hcon; exfalso; omega) | (rw [Bool.eq_iff_iff]; simp; omega) | (rw [decide_eq_decide]; omega) | (congr 1; omega) | (congr 2; omega) | (rw [if_pos (by omega)]; congr 4 <;> omega) | (rw [if_pos (by omega), if_pos (by omega)]; congr 4 <;> omega)) ?_
  clear F a9
  intro a9 F
  refine fr_do F (wanted_free rfl) 93 rfl (by decide) (.int .i64 (j : Int)) (by intro a' F'; have h92 := F'.at' 92 _ rfl; have hq := HM.out; go_simp <;> first | exact hq | simpa using hq) ?_
  clear F a9
  intro a9 F
  refine fr_do F (wanted_free rfl) 94 rfl (by decide) (.int .i64 ((gg + j : Nat) : Int)) (by intro a' F'; have h90 := F'.at' 90 _ rfl; have h93 := F'.at' 93 _ rfl; go_simp <;> first | rfl | omega | (rw [IntKind.wrap_i64]; omega) | (rw [IntKind.wrap_u8]; omega) | (intro hcon; exfalso; omega) | (rw [Bool.eq_iff_iff]; simp; omega) | (rw [decide_eq_decide]; omega) | (congr 1; omega) | (congr 2; omega) | (rw [if_pos (by omega)]; congr 4 <;> omega) | (rw [if_pos (by omega), if_pos (by omega)]; congr 4 <;> omega)) ?_
  clear F a9
  intro a9 F
  refine fr_do F (wanted_free rfl) 17 rfl (by decide) (.int .i64 ((gg + j : Nat) : Int)) (by intro a' F'; have h94 := F'.at' 94 _ rfl; go_simp) ?_
  clear F a9
  intro a9 F
  refine wpList_nil ?_
  show Code.wp _ _ _ _ _
  replace F : FrL 130 [(17, .int .i64 ((gg + j : Nat) : Int)), (12, .string t1), (2, .int .u8 (lt : Int))] a9 := ((((FrL.nil F.size F.defers).add 2 _ (F.at' 2 _ rfl)).add 12 _ (F.at' 12 _ rfl)).add 17 _ (F.at' 17 _ rfl))
  have s1 : (t1.extract 0 (gg + j)).size = gg + j := by rw [ByteArray.size_extract]; omega
  have s2 : (t1.extract (gg + j + 1) t1.size).size = t1.size - (gg + j + 1) := by rw [ByteArray.size_extract]; omega
  have s3 : (strN [lt]).size = 1 := rfl
  have s4 : (t1.extract 0 (gg + j) ++ strN [lt]).size = gg + j + 1 := by rw [ByteArray.size_append, s1, s3]
  refine wp_seq ?_
  refine wp_region_noPanic ?_
  have hb8 : Below w9.heap.size w9 w9.drew := below_draws (n := 1) rfl
  replace HK := HK.below hb8
  clear hb8
  refine AnyT.begin (S := fun _ => True) (z := 1000) (by kernel_rfl) trivial (fun hS0 => ?_)
  clear hS0
  generalize w9.drew = w8 at *
  clear w9
  rename World => w9
  refine fr_takeG (i := 0) (o := ⟨some 95, _, _, _, _, _⟩) F trivial rfl (wanted_free rfl) 95 rfl (by decide) (.string t1) (fun w9 hS => (by intro a' F'; have h12 := F'.at' 12 _ rfl; go_simp)) ?_
  clear F a9
  intro a9 F
  refine fr_takeG (i := 1) (o := ⟨some 96, _, _, _, _, _⟩) F trivial rfl (wanted_free rfl) 96 rfl (by decide) (.int .i64 ((gg + j : Nat) : Int)) (fun w9 hS => (by intro a' F'; have h17 := F'.at' 17 _ rfl; go_simp)) ?_
  clear F a9
  intro a9 F
  refine fr_takeG (i := 2) (o := ⟨some 97, _, _, _, _, _⟩) F trivial rfl (wanted_free rfl) 97 rfl (by decide) (.string (t1.extract 0 (gg + j))) (fun w9 hS => (by intro a' F'; have h95 := F'.at' 95 _ rfl; have h96 := F'.at' 96 _ rfl; go_simp <;> first | rfl | omega | (rw [IntKind.wrap_i64]; omega) | (rw [IntKind.wrap_u8]; omega) | (intro hcon; exfalso; omega) | (rw [Bool.eq_iff_iff]; simp; omega) | (rw [decide_eq_decide]; omega) | (congr 1; omega) | (congr 2; omega) | (rw [if_pos (by omega)]; congr 4 <;> omega) | (rw [if_pos (by omega), if_pos (by omega)]; congr 4 <;> omega))) ?_
  clear F a9
  intro a9 F
  refine fr_takeG (i := 3) (o := ⟨some 98, _, _, _, _, _⟩) F trivial rfl (wanted_free rfl) 98 rfl (by decide) (.int .u8 (lt : Int)) (fun w9 hS => (by intro a' F'; have h2 := F'.at' 2 _ rfl; go_simp)) ?_
  clear F a9
  intro a9 F
  refine fr_takeG (i := 7) (o := ⟨some 102, _, _, _, _, _⟩) F trivial rfl (wanted_free rfl) 102 rfl (by decide) (.string t1) (fun w9 hS => (by intro a' F'; have h12 := F'.at' 12 _ rfl; go_simp)) ?_
  clear F a9
  intro a9 F
  refine fr_takeG (i := 8) (o := ⟨some 103, _, _, _, _, _⟩) F trivial rfl (wanted_free rfl) 103 rfl (by decide) (.int .i64 ((gg + j : Nat) : Int)) (fun w9 hS => (by intro a' F'; have h17 := F'.at' 17 _ rfl; go_simp)) ?_
  clear F a9
  intro a9 F
  refine fr_takeG (i := 9) (o := ⟨some 104, _, _, _, _, _⟩) F trivial rfl (wanted_free rfl) 104 rfl (by decide) (.int .i64 ((gg + j + 1 : Nat) : Int)) (fun w9 hS => (by intro a' F'; have h103 := F'.at' 103 _ rfl; go_simp <;> first | rfl | omega | (rw [IntKind.wrap_i64]; omega) | (rw [IntKind.wrap_u8]; omega) | (intro hcon; exfalso; omega) | (rw [Bool.eq_iff_iff]; simp; omega) | (rw [decide_eq_decide]; omega) | (congr 1; omega) | (congr 2; omega) | (rw [if_pos (by omega)]; congr 4 <;> omega) | (rw [if_pos (by omega), if_pos (by omega)]; congr 4 <;> omega))) ?_
  clear F a9
  intro a9 F
  refine fr_takeG (i := 10) (o := ⟨some 105, _, _, _, _, _⟩) F trivial rfl (wanted_free rfl) 105 rfl (by decide) (.string (t1.extract (gg + j + 1) t1.size)) (fun w9 hS => (by intro a' F'; have h102 := F'.at' 102 _ rfl; have h104 := F'.at' 104 _ rfl; go_simp <;> first | rfl | omega | (rw [IntKind.wrap_i64]; omega) | (rw [IntKind.wrap_u8]; omega) | (intro hcon; exfalso; omega) | (rw [Bool.eq_iff_iff]; simp; omega) | (rw [decide_eq_decide]; omega) | (congr 1; omega) | (congr 2; omega) | (rw [if_pos (by omega)]; congr 4 <;> omega) | (rw [if_pos (by omega), if_pos (by omega)]; congr 4 <;> omega))) ?_
  clear F a9
  intro a9 F
  obtain ⟨i0, hi, hz0, hz1, hz2⟩ := info_parts infoU8
  have HK2 := HK.allocRow (natV [lt]) 5
  refine fr_step (i := 4) (o := ⟨some 99, _, _, _, _, _⟩) F rfl rfl 99 rfl (by decide) (.slice (some ⟨w9.heap.size, 0, none⟩) 1 1) (w9.alloc (.cells (natV [lt]).toArray 5)) (fun a' F' => run_bytes1 53 5 _ rfl lt (F'.ev 98 rfl) i0 _ Tryd.underlying53 hi hz0 (by rw [hz1]; decide) (by rw [hz1]; decide) (by rw [hz1]; kernel_rfl)) trivial ?_
  clear F a9
  intro a9 F
  clear hi hz0 hz1 hz2 i0
  obtain ⟨Z, hZ⟩ : ∃ Z, w9.heap.size = Z := ⟨_, rfl⟩
  rw [hZ] at HK2 F
  clear HK hZ
  generalize w9.alloc (.cells (natV [lt]).toArray 5) = w8 at *
  clear w9
  rename World => w9
  have HK := HK2
  clear HK2
  replace HK : Keep w [(W, (pkV P4 a2 c2), 27), (Q, (pkV P4 al cap), 27), (P, (pkV p a c), 27)] [(some ⟨Z, 0, none⟩, natV [lt]), (al, subCells (P4).subs), (a, subCells p.subs)] w9 := HK
  have kc := conv_nats (P := Tryd.prog) w9 53 5 Tryd.underlying53 Tryd.underlying5 (some ⟨Z, 0, none⟩) 1 [lt] 1 rfl (HK.rowAt 0 rfl) 9 Tryd.underlying9
  refine fr_step (i := 5) (o := ⟨some 100, _, _, _, _, _⟩) F rfl rfl 100 rfl (by decide) (.string (strN [lt])) w9 (fun a' F' => run_conv 53 9 _ rfl _ _ (F'.ev 99 rfl) kc) trivial ?_
  clear F a9
  intro a9 F
  clear kc
  refine fr_takeG (i := 6) (o := ⟨some 101, _, _, _, _, _⟩) F trivial rfl (wanted_free rfl) 101 rfl (by decide) (.string (t1.extract 0 (gg + j) ++ strN [lt])) (fun w9 hS => (by intro a' F'; have h97 := F'.at' 97 _ rfl; have h100 := F'.at' 100 _ rfl; go_simp <;> first | omega | exact rfl | (rw [if_neg (by omega)]; done) | (rw [if_neg (by omega), rfl]; done) | (intro hcon; exfalso; omega) | simpa using rfl)) ?_
  clear F a9
  intro a9 F
  refine fr_takeG (i := 11) (o := ⟨some 106, _, _, _, _, _⟩) F trivial rfl (wanted_free rfl) 106 rfl (by decide) (.string u1) (fun w9 hS => (by intro a' F'; have h101 := F'.at' 101 _ rfl; have h105 := F'.at' 105 _ rfl; have hq := HU1.out; rw [ht1l] at hq; go_simp <;> first | omega | exact hq | (rw [if_neg (by omega)]; done) | (rw [if_neg (by omega), hq]; done) | (intro hcon; exfalso; omega) | simpa using hq)) ?_
  clear F a9
  intro a9 F
  refine fr_takeG (i := 12) (o := ⟨some 18, _, _, _, _, _⟩) F trivial rfl (wanted_free rfl) 18 rfl (by decide) (.string u1) (fun w9 hS => (by intro a' F'; have h106 := F'.at' 106 _ rfl; go_simp)) ?_
  clear F a9
  intro a9 F
  refine AnyT.done (by kernel_rfl) ?_ _
  refine NoPanic.normal ?_
  show Code.wp _ _ _ _ _
  replace HK := HK.sub (List.Sublist.refl _) (R' := [(al, subCells (P4).subs), (a, subCells p.subs)]) (fun r hr => List.mem_cons_of_mem _ hr)
  clear s1 s2 s3 s4
  replace F : FrL 130 [(18, .string u1), (12, .string t1)] a9 := (((FrL.nil F.size F.defers).add 12 _ (F.at' 12 _ rfl)).add 18 _ (F.at' 18 _ rfl))
  refine wp_seq ?_
  refine wp_region_lit ?_
  refine fr_do F (wanted_free rfl) 108 rfl (by decide) (.string u1) (by intro a' F'; have h18 := F'.at' 18 _ rfl; go_simp) ?_
  clear F a9
  intro a9 F
  refine fr_call F (wanted_free rfl) 109 rfl (by decide) 29 #[.string u1] (by intro a' F'; have h108 := F'.at' 108 _ rfl; go_simp) (HD2.out _ HK.env) ?_
  rintro e9 w8 ⟨al3, cap3, rfl, hown, hb8⟩
  replace HK := HK.ownRow hb8 hown
  clear hb8 hown
  clear w9
  rename World => w9
  refine ⟨_, rfl, ?_⟩
  clear F a9
  intro a9 F
  refine fr_do F (wanted_free rfl) 107 rfl (by decide) (.tuple #[.agg (pkV p3 al3 cap3), .int .i64 (n3 : Int), .int .i64 (e3 : Int)]) (by intro a' F'; have h109 := F'.at' 109 _ rfl; go_simp) ?_
  clear F a9
  intro a9 F
  refine fr_do F (wanted_free rfl) 110 rfl (by decide) (.agg (pkV p3 al3 cap3)) (by intro a' F'; have h107 := F'.at' 107 _ rfl; go_simp) ?_
  clear F a9
  intro a9 F
  refine fr_do F (wanted_free rfl) 111 rfl (by decide) (.int .i64 (n3 : Int)) (by intro a' F'; have h107 := F'.at' 107 _ rfl; go_simp) ?_
  clear F a9
  intro a9 F
  refine fr_do F (wanted_free rfl) 112 rfl (by decide) (.int .i64 (e3 : Int)) (by intro a' F'; have h107 := F'.at' 107 _ rfl; go_simp) ?_
  clear F a9
  intro a9 F
  obtain ⟨i0, hi, hz0, hz1, hz2⟩ := info_parts infoPkR
  refine fr_new F HK 19 (by decide) rfl 27 rfl rfl rfl (.tmp 110) rfl rfl i0 _ hi hz0 (cells := (pkV p3 al3 cap3)) hz1 rfl (pk_one _ _ _) (fun a' Y F' => F'.ev 110 rfl) ?_
  rintro X a10 w10 hX F' HK' hb
  clear HK F hb hX hi hz0 hz1 hz2 i0
  clear a9 w9
  rename World => w9
  rename Act => a9
  have HK := HK'
  have F := F'
  clear HK' F'
  replace HK : Keep w [(X, (pkV p3 al3 cap3), 27), (W, (pkV P4 a2 c2), 27), (Q, (pkV P4 al cap), 27), (P, (pkV p a c), 27)] [(al3, subCells (p3).subs), (al, subCells (P4).subs), (a, subCells p.subs)] w9 := HK
  refine fr_do F (wanted_free rfl) 20 rfl (by decide) (.int .i64 (n3 : Int)) (by intro a' F'; have h111 := F'.at' 111 _ rfl; go_simp) ?_
  clear F a9
  intro a9 F
  refine fr_do F (wanted_free rfl) 21 rfl (by decide) (.int .i64 (e3 : Int)) (by intro a' F'; have h112 := F'.at' 112 _ rfl; go_simp) ?_
  clear F a9
  intro a9 F
  refine wpList_nil ?_
  show Code.wp _ _ _ _ _
  replace F : FrL 130 [(21, .int .i64 (e3 : Int)), (18, .string u1), (12, .string t1)] a9 := ((((FrL.nil F.size F.defers).add 12 _ (F.at' 12 _ rfl)).add 18 _ (F.at' 18 _ rfl)).add 21 _ (F.at' 21 _ rfl))
  cases z
  · have he3 : e3 = 4 := hdu
    clear hdu
    subst he3
    replace F : FrL 130 [(21, .int .i64 ((4 : Nat) : Int)), (18, .string u1), (12, .string t1)] a9 := ((((FrL.nil F.size F.defers).add 12 _ (F.at' 12 _ rfl)).add 18 _ (F.at' 18 _ rfl)).add 21 _ (F.at' 21 _ rfl))
    refine wp_seq ?_
    refine wp_region_lit ?_
    refine fr_do F (wanted_free rfl) 113 rfl (by decide) (.int .i64 ((4 : Nat) : Int)) (by intro a' F'; have h21 := F'.at' 21 _ rfl; go_simp) ?_
    clear F a9
    intro a9 F
    refine fr_do F (wanted_free rfl) 114 rfl (by decide) (.bool false) (by intro a' F'; have h113 := F'.at' 113 _ rfl; go_simp) ?_
    clear F a9
    intro a9 F
    refine fr_do F (wanted_free rfl) 115 rfl (by decide) (.string u1) (by intro a' F'; have h18 := F'.at' 18 _ rfl; go_simp) ?_
    clear F a9
    intro a9 F
    refine fr_do F (wanted_free rfl) 116 rfl (by decide) (.string t1) (by intro a' F'; have h12 := F'.at' 12 _ rfl; go_simp) ?_
    clear F a9
    intro a9 F
    refine fr_do F (wanted_free rfl) 117 rfl (by decide) (.bool false) (by intro a' F'; have h115 := F'.at' 115 _ rfl; have h116 := F'.at' 116 _ rfl; have hq := HZ.out; go_simp <;> first | exact hq | simpa using hq) ?_
    clear F a9
    intro a9 F
    refine fr_do F (wanted_free rfl) 118 rfl (by decide) (.bool true) (by intro a' F'; have h114 := F'.at' 114 _ rfl; have h117 := F'.at' 117 _ rfl; go_simp) ?_
    clear F a9
    intro a9 F
    refine fr_do F (wanted_free rfl) 119 rfl (by decide) (.bool true) (by intro a' F'; have h118 := F'.at' 118 _ rfl; go_simp) ?_
    clear F a9
    intro a9 F
    refine fr_do F (by rw [wanted_at F rfl (t := 119) (b := true) (by kernel_rfl) rfl]; rfl) 120 rfl (by decide) (.int .i64 ((4 : Nat) : Int)) (by intro a' F'; have h21 := F'.at' 21 _ rfl; go_simp) ?_
    clear F a9
    intro a9 F
    refine fr_do F (by rw [wanted_at F rfl (t := 119) (b := true) (by kernel_rfl) rfl]; rfl) 121 rfl (by decide) (.bool false) (by intro a' F'; have h120 := F'.at' 120 _ rfl; go_simp) ?_
    clear F a9
    intro a9 F
    refine fr_do F (by rw [wanted_at F rfl (t := 119) (b := true) (by kernel_rfl) rfl]; rfl) 122 rfl (by decide) (.bool false) (by intro a' F'; have h121 := F'.at' 121 _ rfl; go_simp) ?_
    clear F a9
    intro a9 F
    refine fr_do F (by rw [wanted_at F rfl (t := 122) (b := false) (by kernel_rfl) rfl]; rfl) 123 rfl (by decide) (.int .i64 ((4 : Nat) : Int)) (by intro a' F'; have h21 := F'.at' 21 _ rfl; go_simp) ?_
    clear F a9
    intro a9 F
    refine fr_do F (by rw [wanted_at F rfl (t := 122) (b := false) (by kernel_rfl) rfl]; rfl) 124 rfl (by decide) (.bool true) (by intro a' F'; have h123 := F'.at' 123 _ rfl; go_simp) ?_
    clear F a9
    intro a9 F
    refine fr_do F (by rw [wanted_at F rfl (t := 119) (b := true) (by kernel_rfl) rfl]; rfl) 125 rfl (by decide) (.bool true) (by intro a' F'; have h122 := F'.at' 122 _ rfl; have h124 := F'.at' 124 _ rfl; go_simp) ?_
    clear F a9
    intro a9 F
    refine fr_do F (wanted_free rfl) 126 rfl (by decide) (.bool true) (by intro a' F'; have h119 := F'.at' 119 _ rfl; have h125 := F'.at' 125 _ rfl; go_simp) ?_
    clear F a9
    intro a9 F
    refine fr_do F (wanted_free rfl) 127 rfl (by decide) (.bool true) (by intro a' F'; have h126 := F'.at' 126 _ rfl; go_simp) ?_
    clear F a9
    intro a9 F
    refine fr_call F (by rw [wanted_at F rfl (t := 127) (b := true) (by kernel_rfl) rfl]; rfl) 128 rfl (by decide) 28 #[] (by intro a' F'; go_simp) (law05_awake _ HK.env) ?_
    rintro e9 w8 ⟨rfl, hb8⟩
    replace HK := HK.below hb8
    clear hb8
    clear w9
    rename World => w9
    refine ⟨_, rfl, ?_⟩
    clear F a9
    intro a9 F
    refine fr_do F (wanted_free rfl) 129 rfl (by decide) (.bool true) (by intro a' F'; have h127 := F'.at' 127 _ rfl; have h128 := F'.at' 128 _ rfl; go_simp) ?_
    clear F a9
    intro a9 F
    refine fr_do F (wanted_free rfl) 8 rfl (by decide) (.bool true) (by intro a' F'; have h129 := F'.at' 129 _ rfl; go_simp) ?_
    clear F a9
    intro a9 F
    refine wpList_nil ?_
    show Code.wp _ _ _ _ _
    refine wp_ret ?_
    exact fr_ret1 F rfl _ rfl (FIN.out _ HK.low)
  · have he3 : e3 = 0 := hdu
    clear hdu
    subst he3
    replace F : FrL 130 [(21, .int .i64 ((0 : Nat) : Int)), (18, .string u1), (12, .string t1)] a9 := ((((FrL.nil F.size F.defers).add 12 _ (F.at' 12 _ rfl)).add 18 _ (F.at' 18 _ rfl)).add 21 _ (F.at' 21 _ rfl))
    refine wp_seq ?_
    refine wp_region_lit ?_
    refine fr_do F (wanted_free rfl) 113 rfl (by decide) (.int .i64 ((0 : Nat) : Int)) (by intro a' F'; have h21 := F'.at' 21 _ rfl; go_simp) ?_
    clear F a9
    intro a9 F
    refine fr_do F (wanted_free rfl) 114 rfl (by decide) (.bool true) (by intro a' F'; have h113 := F'.at' 113 _ rfl; go_simp) ?_
    clear F a9
    intro a9 F
    refine fr_do F (wanted_free rfl) 115 rfl (by decide) (.string u1) (by intro a' F'; have h18 := F'.at' 18 _ rfl; go_simp) ?_
    clear F a9
    intro a9 F
    refine fr_do F (wanted_free rfl) 116 rfl (by decide) (.string t1) (by intro a' F'; have h12 := F'.at' 12 _ rfl; go_simp) ?_
    clear F a9
    intro a9 F
    refine fr_do F (wanted_free rfl) 117 rfl (by decide) (.bool true) (by intro a' F'; have h115 := F'.at' 115 _ rfl; have h116 := F'.at' 116 _ rfl; have hq := HZ.out; go_simp <;> first | exact hq | simpa using hq) ?_
    clear F a9
    intro a9 F
    refine fr_do F (wanted_free rfl) 118 rfl (by decide) (.bool true) (by intro a' F'; have h114 := F'.at' 114 _ rfl; have h117 := F'.at' 117 _ rfl; go_simp) ?_
    clear F a9
    intro a9 F
    refine fr_do F (wanted_free rfl) 119 rfl (by decide) (.bool true) (by intro a' F'; have h118 := F'.at' 118 _ rfl; go_simp) ?_
    clear F a9
    intro a9 F
    refine fr_do F (by rw [wanted_at F rfl (t := 119) (b := true) (by kernel_rfl) rfl]; rfl) 120 rfl (by decide) (.int .i64 ((0 : Nat) : Int)) (by intro a' F'; have h21 := F'.at' 21 _ rfl; go_simp) ?_
    clear F a9
    intro a9 F
    refine fr_do F (by rw [wanted_at F rfl (t := 119) (b := true) (by kernel_rfl) rfl]; rfl) 121 rfl (by decide) (.bool true) (by intro a' F'; have h120 := F'.at' 120 _ rfl; go_simp) ?_
    clear F a9
    intro a9 F
    refine fr_do F (by rw [wanted_at F rfl (t := 119) (b := true) (by kernel_rfl) rfl]; rfl) 122 rfl (by decide) (.bool true) (by intro a' F'; have h121 := F'.at' 121 _ rfl; go_simp) ?_
    clear F a9
    intro a9 F
    refine fr_left F (by rw [wanted_at F rfl (t := 122) (b := true) (by kernel_rfl) rfl]; rfl) 123 rfl (by decide) ?_
    clear F a9
    intro a9 F
    refine fr_left F (by rw [wanted_at F rfl (t := 122) (b := true) (by kernel_rfl) rfl]; rfl) 124 rfl (by decide) ?_
    clear F a9
    intro a9 F
    refine fr_do F (by rw [wanted_at F rfl (t := 119) (b := true) (by kernel_rfl) rfl]; rfl) 125 rfl (by decide) (.bool true) (by intro a' F'; have h122 := F'.at' 122 _ rfl; have h124 := F'.at' 124 _ rfl; go_simp) ?_
    clear F a9
    intro a9 F
    refine fr_do F (wanted_free rfl) 126 rfl (by decide) (.bool true) (by intro a' F'; have h119 := F'.at' 119 _ rfl; have h125 := F'.at' 125 _ rfl; go_simp) ?_
    clear F a9
    intro a9 F
    refine fr_do F (wanted_free rfl) 127 rfl (by decide) (.bool true) (by intro a' F'; have h126 := F'.at' 126 _ rfl; go_simp) ?_
    clear F a9
    intro a9 F
    refine fr_call F (by rw [wanted_at F rfl (t := 127) (b := true) (by kernel_rfl) rfl]; rfl) 128 rfl (by decide) 28 #[] (by intro a' F'; go_simp) (law05_awake _ HK.env) ?_
    rintro e9 w8 ⟨rfl, hb8⟩
    replace HK := HK.below hb8
    clear hb8
    clear w9
    rename World => w9
    refine ⟨_, rfl, ?_⟩
    clear F a9
    intro a9 F
    refine fr_do F (wanted_free rfl) 129 rfl (by decide) (.bool true) (by intro a' F'; have h127 := F'.at' 127 _ rfl; have h128 := F'.at' 128 _ rfl; go_simp) ?_
    clear F a9
    intro a9 F
    refine fr_do F (wanted_free rfl) 8 rfl (by decide) (.bool true) (by intro a' F'; have h129 := F'.at' 129 _ rfl; go_simp) ?_
    clear F a9
    intro a9 F
    refine wpList_nil ?_
    show Code.wp _ _ _ _ _
    refine wp_ret ?_
    exact fr_ret1 F rfl _ rfl (FIN.out _ HK.low)
theorem law05_ReadLevels (p : Pk) (a : Option Addr) (c : Nat) (lv lt k : Nat) (w : World) (hE : Env w) (hq : PkArg w p a c) (hlv : lv < 256) (hlt : lt < 256) (hk : k < 256) : Calls Tryd.prog 9 #[.agg (pkV p a c), .int .u8 (lv : Int), .int .u8 (lt : Int), .int .u8 (k : Int)] w fun e w' => e = .returned (.bool true) ∧ Below w.heap.size w w' := by
  cases hgp : greatB p
  · by_cases hty : p.ty = 1
    · by_cases h0 : 0 ≤ restP p
      · exact rlev_good p a c lv lt k w hE hq hgp hty h0 hlv hlt hk
      · exact rlev_bad p a c lv lt k w hE hq hgp hty (by omega)
    · exact rlev_other p a c lv lt k w hE hq hgp hty
  · exact rlev_great p a c lv lt k w hE hq hgp
end Go.Proofs.YtcghokbcjbbbhaaDoor
