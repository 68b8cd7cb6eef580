/- The walk of WriteApart. Conditions: the decoder's tables lie as Go lays them; the packets' lists in their cells. -/
import Derived.Test.YtkphaihbdmjogaaDoorPlainRead
import Derived.Test.YtkphaihbdmjogaaDoorPlainRow
import Derived.Test.YtkphaihbdmjogaaDoorLaw03Great
import Derived.Test.YtkphaihbdmjogaaDoorCardPk
namespace Go.Proofs.YtkphaihbdmjogaaDoor
open Go.RowKit
set_option maxRecDepth 100000 in
set_option maxHeartbeats 4000000 in
theorem apart_great (p : Pk) (a : Option Addr) (c : Nat) (q : Pk) (b : Option Addr) (d : Nat) (w : World) (hE : Env w) (hq : PkArg w p a c) (hq2 : PkArg w q b d) (hg : (greatB p || greatB q) = true) : Calls Tryd.prog 13 #[.agg (pkV p a c), .agg (pkV q b d)] w fun e w' => e = .returned (.bool true) ∧ Below w.heap.size w w' := by
  have ha := hq.row
  have hb := hq2.row
  have HK := Lib.hid (((Keep.begin hE [(a, subCells p.subs), (b, subCells q.subs)] (by intro r hr; simp at hr; rcases hr with rfl | rfl; exact ha; exact hb)).alloc' (pkV p a c) 27 w.heap.size rfl).alloc' (pkV q b d) 27 (w.heap.size + 1) (by simp))
  have hGP := fun w1 ha => law03_Great p a c w1 ha
  have hGQ := fun w1 ha => law03_Great q b d w1 ha
  clear hE ha hb hq hq2
  obtain ⟨g1, h1⟩ : ∃ g, greatB p = g := ⟨_, rfl⟩
  obtain ⟨g2, h2⟩ : ∃ g, greatB q = g := ⟨_, rfl⟩
  rw [h1] at hGP hg
  rw [h2] at hGQ hg
  have HGP := Lib.hid hGP
  have HGQ := Lib.hid hGQ
  clear hGP hGQ h1 h2
  cases g1
  · cases g2
    · cases hg
    · go_enter Tryd.func13, Tryd.ntmps13
      go_wp2_with (first
        | ((with_reducible show wpList _ _ _ (⟨some 10, _, _, _, _, _⟩ :: _) _ _); refine wpList_load_box rfl 27 _ rfl _ rfl 27 _ (HK.out.at 1 rfl) _ Tryd.underlying27 rfl (pk_size _ _ _) ?_)
        | ((with_reducible show wpList _ _ _ (⟨some 13, _, _, _, _, _⟩ :: _) _ _); refine wpList_load_boxG (by kernel_rfl) 27 _ rfl _ rfl 27 _ (by (first | exact HK.out.at 0 rfl | exact HK.out.at 1 rfl)) _ Tryd.underlying27 rfl (pk_size _ _ _) ?_)
        | (go_at_call 17; (with_reducible refine Calls.mono (HGP.out _ (HK.out.rowAt 0 rfl)) ?_); rintro e w1 ⟨rfl, hb1⟩; replace HK := Lib.hid (HK.out.below hb1); clear hb1)
        | (go_at_call 17; (with_reducible refine Calls.mono (HGQ.out _ (HK.out.rowAt 1 rfl)) ?_); rintro e w1 ⟨rfl, hb1⟩; replace HK := Lib.hid (HK.out.below hb1); clear hb1)
        | (go_at_call 33; refine Calls.mono (law04_awake _ HK.out.env) ?_; rintro e w1 ⟨rfl, hb1⟩; replace HK := Lib.hid (HK.out.below hb1); clear hb1))
      go_ret
      exact ⟨rfl, HK.out.low⟩
  · go_enter Tryd.func13, Tryd.ntmps13
    go_wp2_with (first
      | ((with_reducible show wpList _ _ _ (⟨some 10, _, _, _, _, _⟩ :: _) _ _); refine wpList_load_box rfl 27 _ rfl _ rfl 27 _ (HK.out.at 1 rfl) _ Tryd.underlying27 rfl (pk_size _ _ _) ?_)
      | (go_at_call 17; (with_reducible refine Calls.mono (HGP.out _ (HK.out.rowAt 0 rfl)) ?_); rintro e w1 ⟨rfl, hb1⟩; replace HK := Lib.hid (HK.out.below hb1); clear hb1)
      | (go_at_call 33; refine Calls.mono (law04_awake _ HK.out.env) ?_; rintro e w1 ⟨rfl, hb1⟩; replace HK := Lib.hid (HK.out.below hb1); clear hb1))
    go_ret
    exact ⟨rfl, HK.out.low⟩
set_option maxRecDepth 100000 in
set_option maxHeartbeats 4000000 in
theorem apart_bad (p : Pk) (a : Option Addr) (c : Nat) (q : Pk) (b : Option Addr) (d : Nat) (w : World) (hE : Env w) (hq : PkArg w p a c) (hq2 : PkArg w q b d) (hgp : greatB p = false) (hgq : greatB q = false) (hbad : restP p < 0 ∨ restP q < 0) : Calls Tryd.prog 13 #[.agg (pkV p a c), .agg (pkV q b d)] w fun e w' => e = .returned (.bool true) ∧ Below w.heap.size w w' := by
  have ha := hq.row
  have hb := hq2.row
  have HK := Lib.hid (((Keep.begin hE [(a, subCells p.subs), (b, subCells q.subs)] (by intro r hr; simp at hr; rcases hr with rfl | rfl; exact ha; exact hb)).alloc' (pkV p a c) 27 w.heap.size rfl).alloc' (pkV q b d) 27 (w.heap.size + 1) (by simp))
  have hGP := fun w1 ha => law03_Great p a c w1 ha
  have hGQ := fun w1 ha => law03_Great q b d w1 ha
  rw [hgp] at hGP
  rw [hgq] at hGQ
  have hp := (small_of hgp).ok hq.ty
  have hp2 := (small_of hgq).ok hq2.ty
  have HGP := Lib.hid hGP
  have HGQ := Lib.hid hGQ
  have hNP := fun w1 hE ha => write_Encode p a c w1 hE hp ha
  have hNQ := fun w1 hE ha => write_Encode q b d w1 hE hp2 ha
  have hRP := fun w1 hE ha => packet_Right p a c w1 hE hp ha
  have hRQ := fun w1 hE ha => packet_Right q b d w1 hE hp2 ha
  have hcase : (encE p = 4 ∧ decide (0 ≤ restP p) = false ∧ ((encE q = 4 ∧ decide (0 ≤ restP q) = false) ∨ (encE q = 0 ∧ decide (0 ≤ restP q) = true))) ∨ ((encE p = 0 ∧ decide (0 ≤ restP p) = true) ∧ encE q = 4 ∧ decide (0 ≤ restP q) = false) := by
    have e1 : ∀ x : Pk, restP x < 0 → encE x = 4 ∧ decide (0 ≤ restP x) = false := fun x h => ⟨encE_bad h, by rw [decide_eq_false_iff_not]; omega⟩
    have e2 : ∀ x : Pk, 0 ≤ restP x → encE x = 0 ∧ decide (0 ≤ restP x) = true := fun x h => ⟨encE_good h, by rw [decide_eq_true_eq]; exact h⟩
    by_cases h1 : restP p < 0
    · left
      refine ⟨(e1 p h1).1, (e1 p h1).2, ?_⟩
      by_cases h2 : restP q < 0
      · left; exact e1 q h2
      · right; exact e2 q (by omega)
    · right
      exact ⟨e2 p (by omega), e1 q (by omega)⟩
  generalize encE p = ep at *
  generalize encE q = eq at *
  generalize encS p = sp at *
  generalize encS q = sq at *
  generalize decide (0 ≤ restP p) = rp at *
  generalize decide (0 ≤ restP q) = rq at *
  clear hgp hgq hp hp2 hq hq2 ha hb hGP hGQ hbad hE
  rcases hcase with ⟨rfl, rfl, ⟨rfl, rfl⟩ | ⟨rfl, rfl⟩⟩ | ⟨⟨rfl, rfl⟩, rfl, rfl⟩
  all_goals
    have HNP := Lib.hid hNP
    have HNQ := Lib.hid hNQ
    have HRP := Lib.hid hRP
    have HRQ := Lib.hid hRQ
    clear hNP hNQ hRP hRQ
    go_enter Tryd.func13, Tryd.ntmps13
    go_wp2_with (first
      | ((with_reducible show wpList _ _ _ (⟨some 10, _, _, _, _, _⟩ :: _) _ _); refine wpList_load_box rfl 27 _ rfl _ rfl 27 _ (HK.out.at 1 rfl) _ Tryd.underlying27 rfl (pk_size _ _ _) ?_)
      | ((with_reducible show wpList _ _ _ (⟨some 13, _, _, _, _, _⟩ :: _) _ _); refine wpList_load_boxG (by kernel_rfl) 27 _ rfl _ rfl 27 _ (by (first | exact HK.out.at 0 rfl | exact HK.out.at 1 rfl)) _ Tryd.underlying27 rfl (pk_size _ _ _) ?_)
      | ((with_reducible show wpList _ _ _ (⟨some 18, _, _, _, _, _⟩ :: _) _ _); refine wpList_load_box rfl 27 _ rfl _ rfl 27 _ (HK.out.at 1 rfl) _ Tryd.underlying27 rfl (pk_size _ _ _) ?_)
      | ((with_reducible show wpList _ _ _ (⟨some 23, _, _, _, _, _⟩ :: _) _ _); refine wpList_load_box rfl 27 _ rfl _ rfl 27 _ (HK.out.at 0 rfl) _ Tryd.underlying27 rfl (pk_size _ _ _) ?_)
      | ((with_reducible show wpList _ _ _ (⟨some 35, _, _, _, _, _⟩ :: _) _ _); refine wpList_load_box rfl 27 _ rfl _ rfl 27 _ (HK.out.at 1 rfl) _ Tryd.underlying27 rfl (pk_size _ _ _) ?_)
      | ((with_reducible show wpList _ _ _ (⟨some 41, _, _, _, _, _⟩ :: _) _ _); refine wpList_load_boxG (by kernel_rfl) 27 _ rfl _ rfl 27 _ (by (first | exact HK.out.at 0 rfl | exact HK.out.at 1 rfl)) _ Tryd.underlying27 rfl (pk_size _ _ _) ?_)
      | ((with_reducible show wpList _ _ _ (⟨some 62, _, _, _, _, _⟩ :: _) _ _); refine wpList_load_box rfl 27 _ rfl _ rfl 27 _ (HK.out.at 1 rfl) _ Tryd.underlying27 rfl (pk_size _ _ _) ?_)
      | ((with_reducible show wpList _ _ _ (⟨some 63, _, _, _, _, _⟩ :: _) _ _); refine wpList_load_box rfl 27 _ rfl _ rfl 27 _ (HK.out.at 0 rfl) _ Tryd.underlying27 rfl (pk_size _ _ _) ?_)
      | (go_at_call 17; (with_reducible refine Calls.mono (HGP.out _ (HK.out.rowAt 0 rfl)) ?_); rintro e w1 ⟨rfl, hb1⟩; replace HK := Lib.hid (HK.out.below hb1); clear hb1)
      | (go_at_call 17; (with_reducible refine Calls.mono (HGQ.out _ (HK.out.rowAt 1 rfl)) ?_); rintro e w1 ⟨rfl, hb1⟩; replace HK := Lib.hid (HK.out.below hb1); clear hb1)
      | (go_at_call 31; (with_reducible refine Calls.mono (HNP.out _ HK.out.env (HK.out.rowAt 0 rfl)) ?_); rintro e w1 ⟨rfl, hb1⟩; replace HK := Lib.hid (HK.out.below hb1); clear hb1)
      | (go_at_call 31; (with_reducible refine Calls.mono (HNQ.out _ HK.out.env (HK.out.rowAt 1 rfl)) ?_); rintro e w1 ⟨rfl, hb1⟩; replace HK := Lib.hid (HK.out.below hb1); clear hb1)
      | (go_at_call 18; (with_reducible refine Calls.mono (HRP.out _ HK.out.env (HK.out.rowAt 0 rfl)) ?_); rintro e w1 ⟨rfl, hb1⟩; replace HK := Lib.hid (HK.out.below hb1); clear hb1)
      | (go_at_call 18; (with_reducible refine Calls.mono (HRQ.out _ HK.out.env (HK.out.rowAt 1 rfl)) ?_); rintro e w1 ⟨rfl, hb1⟩; replace HK := Lib.hid (HK.out.below hb1); clear hb1)
      | (go_at_call 33; refine Calls.mono (law04_awake _ HK.out.env) ?_; rintro e w1 ⟨rfl, hb1⟩; replace HK := Lib.hid (HK.out.below hb1); clear hb1))
    go_ret
    exact ⟨rfl, HK.out.low⟩
theorem cut_toList (t : ByteArray) (n : Nat) : bl (t.extract 0 n) = (bl t).take n := by
  unfold bl
  simp
theorem cut_all (t : ByteArray) : t.extract 0 t.size = t := by
  apply bl_inj
  rw [cut_toList, ← bl_len, List.take_length]
theorem begins_enc (p q : Pk) (hp : PkOk p) (hq : PkOk q) (h1 : 0 ≤ restP p) (h2 : 0 ≤ restP q) (hne : p ≠ q) (e : (encS q).extract 0 (encS p).size = encS p) : False := by
  rw [encS_good h1, encS_good h2] at e
  have h3 := congrArg bl e
  rw [cut_toList] at h3
  have h4 : encB q = encB p ++ (encB q).drop (bB (encB p)).size := by
    have h5 : (encB q).take (bB (encB p)).size = encB p := h3
    conv => lhs; rw [← List.take_append_drop (bB (encB p)).size (encB q), h5]
  exact hne (enc_apart p q hp hq h1 h2 _ h4)
theorem neqL {x y : ByteArray} (h : x ≠ y) : (x.toList == y.toList) = false := by
  rw [beq_eq_false_iff_ne, Lib.toList_data, Lib.toList_data]
  exact fun e => h (bl_inj e)
set_option maxRecDepth 100000 in
set_option maxHeartbeats 4000000 in
theorem apart_same (p : Pk) (a : Option Addr) (c : Nat) (q : Pk) (b : Option Addr) (d : Nat) (w : World) (hE : Env w) (hq : PkArg w p a c) (hq2 : PkArg w q b d) (hgp : greatB p = false) (hgq : greatB q = false) (h1 : 0 ≤ restP p) (he : p = q) : Calls Tryd.prog 13 #[.agg (pkV p a c), .agg (pkV q b d)] w fun e w' => e = .returned (.bool true) ∧ Below w.heap.size w w' := by
  subst he
  have ha := hq.row
  have hb := hq2.row
  have HK := Lib.hid (((Keep.begin hE [(a, subCells p.subs), (b, subCells p.subs)] (by intro r hr; simp at hr; rcases hr with rfl | rfl; exact ha; exact hb)).alloc' (pkV p a c) 27 w.heap.size rfl).alloc' (pkV p b d) 27 (w.heap.size + 1) (by simp))
  have hGP := fun w1 ha => law03_Great p a c w1 ha
  have hGQ := fun w1 ha => law03_Great p b d w1 ha
  rw [hgp] at hGP
  rw [hgq] at hGQ
  have hp := (small_of hgp).ok hq.ty
  have hp2 := (small_of hgq).ok hq2.ty
  have HGP := Lib.hid hGP
  have HGQ := Lib.hid hGQ
  have hNP := fun w1 hE ha => write_Encode p a c w1 hE hp ha
  have hNQ := fun w1 hE ha => write_Encode p b d w1 hE hp2 ha
  have hSM := fun w1 hE ha hb => packet_Same p p a b c d w1 hE hp hp2 ha hb
  rw [encE_good h1] at hNP hNQ
  rw [decide_eq_true rfl] at hSM
  have HSM := Lib.hid hSM
  have hs : (encS p).size ≤ 300000000 := by rw [encS_good h1]; exact enc_le hp h1
  generalize encS p = s at *
  have HNP := Lib.hid hNP
  have HNQ := Lib.hid hNQ
  have hcut := cut_all s
  clear hgp hgq hp hp2 hq hq2 ha hb hGP hGQ hE hNP hNQ hSM
  go_enter Tryd.func13, Tryd.ntmps13
  go_wp2_with (first
    | ((with_reducible show wpList _ _ _ (⟨some 10, _, _, _, _, _⟩ :: _) _ _); refine wpList_load_box rfl 27 _ rfl _ rfl 27 _ (HK.out.at 1 rfl) _ Tryd.underlying27 rfl (pk_size _ _ _) ?_)
    | ((with_reducible show wpList _ _ _ (⟨some 13, _, _, _, _, _⟩ :: _) _ _); refine wpList_load_boxG (by kernel_rfl) 27 _ rfl _ rfl 27 _ (by (first | exact HK.out.at 0 rfl | exact HK.out.at 1 rfl)) _ Tryd.underlying27 rfl (pk_size _ _ _) ?_)
    | ((with_reducible show wpList _ _ _ (⟨some 18, _, _, _, _, _⟩ :: _) _ _); refine wpList_load_box rfl 27 _ rfl _ rfl 27 _ (HK.out.at 1 rfl) _ Tryd.underlying27 rfl (pk_size _ _ _) ?_)
    | ((with_reducible show wpList _ _ _ (⟨some 23, _, _, _, _, _⟩ :: _) _ _); refine wpList_load_box rfl 27 _ rfl _ rfl 27 _ (HK.out.at 0 rfl) _ Tryd.underlying27 rfl (pk_size _ _ _) ?_)
    | ((with_reducible show wpList _ _ _ (⟨some 35, _, _, _, _, _⟩ :: _) _ _); refine wpList_load_box rfl 27 _ rfl _ rfl 27 _ (HK.out.at 1 rfl) _ Tryd.underlying27 rfl (pk_size _ _ _) ?_)
    | ((with_reducible show wpList _ _ _ (⟨some 41, _, _, _, _, _⟩ :: _) _ _); refine wpList_load_boxG (by kernel_rfl) 27 _ rfl _ rfl 27 _ (by (first | exact HK.out.at 0 rfl | exact HK.out.at 1 rfl)) _ Tryd.underlying27 rfl (pk_size _ _ _) ?_)
    | ((with_reducible show wpList _ _ _ (⟨some 62, _, _, _, _, _⟩ :: _) _ _); refine wpList_load_box rfl 27 _ rfl _ rfl 27 _ (HK.out.at 1 rfl) _ Tryd.underlying27 rfl (pk_size _ _ _) ?_)
    | ((with_reducible show wpList _ _ _ (⟨some 63, _, _, _, _, _⟩ :: _) _ _); refine wpList_load_box rfl 27 _ rfl _ rfl 27 _ (HK.out.at 0 rfl) _ Tryd.underlying27 rfl (pk_size _ _ _) ?_)
    | (go_at_call 17; (with_reducible refine Calls.mono (HGP.out _ (HK.out.rowAt 0 rfl)) ?_); rintro e w1 ⟨rfl, hb1⟩; replace HK := Lib.hid (HK.out.below hb1); clear hb1)
    | (go_at_call 17; (with_reducible refine Calls.mono (HGQ.out _ (HK.out.rowAt 1 rfl)) ?_); rintro e w1 ⟨rfl, hb1⟩; replace HK := Lib.hid (HK.out.below hb1); clear hb1)
    | (go_at_call 31; (with_reducible refine Calls.mono (HNP.out _ HK.out.env (HK.out.rowAt 0 rfl)) ?_); rintro e w1 ⟨rfl, hb1⟩; replace HK := Lib.hid (HK.out.below hb1); clear hb1)
    | (go_at_call 31; (with_reducible refine Calls.mono (HNQ.out _ HK.out.env (HK.out.rowAt 1 rfl)) ?_); rintro e w1 ⟨rfl, hb1⟩; replace HK := Lib.hid (HK.out.below hb1); clear hb1)
    | (go_at_call 24; (with_reducible refine Calls.mono (HSM.out _ HK.out.env (HK.out.rowAt 0 rfl) (HK.out.rowAt 1 rfl)) ?_); rintro e w1 ⟨rfl, hb1⟩; replace HK := Lib.hid (HK.out.below hb1); clear hb1)
    | (go_at_call 33; refine Calls.mono (law04_awake _ HK.out.env) ?_; rintro e w1 ⟨rfl, hb1⟩; replace HK := Lib.hid (HK.out.below hb1); clear hb1))
  go_ret
  exact ⟨rfl, HK.out.low⟩
set_option maxRecDepth 100000 in
set_option maxHeartbeats 4000000 in
theorem apart_other (p : Pk) (a : Option Addr) (c : Nat) (q : Pk) (b : Option Addr) (d : Nat) (w : World) (hE : Env w) (hq : PkArg w p a c) (hq2 : PkArg w q b d) (hgp : greatB p = false) (hgq : greatB q = false) (h1 : 0 ≤ restP p) (h2 : 0 ≤ restP q) (he : p ≠ q) : Calls Tryd.prog 13 #[.agg (pkV p a c), .agg (pkV q b d)] w fun e w' => e = .returned (.bool true) ∧ Below w.heap.size w w' := by
  have ha := hq.row
  have hb := hq2.row
  have HK := Lib.hid (((Keep.begin hE [(a, subCells p.subs), (b, subCells q.subs)] (by intro r hr; simp at hr; rcases hr with rfl | rfl; exact ha; exact hb)).alloc' (pkV p a c) 27 w.heap.size rfl).alloc' (pkV q b d) 27 (w.heap.size + 1) (by simp))
  have hGP := fun w1 ha => law03_Great p a c w1 ha
  have hGQ := fun w1 ha => law03_Great q b d w1 ha
  rw [hgp] at hGP
  rw [hgq] at hGQ
  have hp := (small_of hgp).ok hq.ty
  have hp2 := (small_of hgq).ok hq2.ty
  have HGP := Lib.hid hGP
  have HGQ := Lib.hid hGQ
  have hNP := fun w1 hE ha => write_Encode p a c w1 hE hp ha
  have hNQ := fun w1 hE ha => write_Encode q b d w1 hE hp2 ha
  have hSM := fun w1 hE ha hb => packet_Same p q a b c d w1 hE hp hp2 ha hb
  rw [encE_good h1] at hNP
  rw [encE_good h2] at hNQ
  rw [decide_eq_false he] at hSM
  have HSM := Lib.hid hSM
  have hs : (encS p).size ≤ 300000000 := by rw [encS_good h1]; exact enc_le hp h1
  have ht : (encS q).size ≤ 300000000 := by rw [encS_good h2]; exact enc_le hp2 h2
  have hx : (((encS q).extract 0 (encS p).size).toList == (encS p).toList) = false := neqL (fun e => begins_enc p q hp hp2 h1 h2 he e)
  have hy : ((encS p).toList == (encS q).toList) = false := neqL (fun e => begins_enc p q hp hp2 h1 h2 he (by rw [← e]; exact cut_all _))
  generalize encS p = s at *
  generalize encS q = t at *
  have HNP := Lib.hid hNP
  have HNQ := Lib.hid hNQ
  clear hgp hgq hp hp2 hq hq2 ha hb hGP hGQ hE hNP hNQ hSM
  by_cases hl : s.size ≤ t.size
  · go_enter Tryd.func13, Tryd.ntmps13
    go_wp2_with (first
      | ((with_reducible show wpList _ _ _ (⟨some 10, _, _, _, _, _⟩ :: _) _ _); refine wpList_load_box rfl 27 _ rfl _ rfl 27 _ (HK.out.at 1 rfl) _ Tryd.underlying27 rfl (pk_size _ _ _) ?_)
      | ((with_reducible show wpList _ _ _ (⟨some 13, _, _, _, _, _⟩ :: _) _ _); refine wpList_load_boxG (by kernel_rfl) 27 _ rfl _ rfl 27 _ (by (first | exact HK.out.at 0 rfl | exact HK.out.at 1 rfl)) _ Tryd.underlying27 rfl (pk_size _ _ _) ?_)
      | ((with_reducible show wpList _ _ _ (⟨some 18, _, _, _, _, _⟩ :: _) _ _); refine wpList_load_box rfl 27 _ rfl _ rfl 27 _ (HK.out.at 1 rfl) _ Tryd.underlying27 rfl (pk_size _ _ _) ?_)
      | ((with_reducible show wpList _ _ _ (⟨some 23, _, _, _, _, _⟩ :: _) _ _); refine wpList_load_box rfl 27 _ rfl _ rfl 27 _ (HK.out.at 0 rfl) _ Tryd.underlying27 rfl (pk_size _ _ _) ?_)
      | ((with_reducible show wpList _ _ _ (⟨some 35, _, _, _, _, _⟩ :: _) _ _); refine wpList_load_box rfl 27 _ rfl _ rfl 27 _ (HK.out.at 1 rfl) _ Tryd.underlying27 rfl (pk_size _ _ _) ?_)
      | ((with_reducible show wpList _ _ _ (⟨some 41, _, _, _, _, _⟩ :: _) _ _); refine wpList_load_boxG (by kernel_rfl) 27 _ rfl _ rfl 27 _ (by (first | exact HK.out.at 0 rfl | exact HK.out.at 1 rfl)) _ Tryd.underlying27 rfl (pk_size _ _ _) ?_)
      | ((with_reducible show wpList _ _ _ (⟨some 62, _, _, _, _, _⟩ :: _) _ _); refine wpList_load_box rfl 27 _ rfl _ rfl 27 _ (HK.out.at 1 rfl) _ Tryd.underlying27 rfl (pk_size _ _ _) ?_)
      | ((with_reducible show wpList _ _ _ (⟨some 63, _, _, _, _, _⟩ :: _) _ _); refine wpList_load_box rfl 27 _ rfl _ rfl 27 _ (HK.out.at 0 rfl) _ Tryd.underlying27 rfl (pk_size _ _ _) ?_)
      | (go_at_call 17; (with_reducible refine Calls.mono (HGP.out _ (HK.out.rowAt 0 rfl)) ?_); rintro e w1 ⟨rfl, hb1⟩; replace HK := Lib.hid (HK.out.below hb1); clear hb1)
      | (go_at_call 17; (with_reducible refine Calls.mono (HGQ.out _ (HK.out.rowAt 1 rfl)) ?_); rintro e w1 ⟨rfl, hb1⟩; replace HK := Lib.hid (HK.out.below hb1); clear hb1)
      | (go_at_call 31; (with_reducible refine Calls.mono (HNP.out _ HK.out.env (HK.out.rowAt 0 rfl)) ?_); rintro e w1 ⟨rfl, hb1⟩; replace HK := Lib.hid (HK.out.below hb1); clear hb1)
      | (go_at_call 31; (with_reducible refine Calls.mono (HNQ.out _ HK.out.env (HK.out.rowAt 1 rfl)) ?_); rintro e w1 ⟨rfl, hb1⟩; replace HK := Lib.hid (HK.out.below hb1); clear hb1)
      | (go_at_call 24; (with_reducible refine Calls.mono (HSM.out _ HK.out.env (HK.out.rowAt 0 rfl) (HK.out.rowAt 1 rfl)) ?_); rintro e w1 ⟨rfl, hb1⟩; replace HK := Lib.hid (HK.out.below hb1); clear hb1)
      | (go_at_call 33; refine Calls.mono (law04_awake _ HK.out.env) ?_; rintro e w1 ⟨rfl, hb1⟩; replace HK := Lib.hid (HK.out.below hb1); clear hb1))
    go_ret
    exact ⟨rfl, HK.out.low⟩
  · have hl2 : decide ((s.size : Int) ≤ (t.size : Int)) = false := by rw [decide_eq_false_iff_not]; omega
    go_enter Tryd.func13, Tryd.ntmps13
    go_wp2_with (first
      | ((with_reducible show wpList _ _ _ (⟨some 10, _, _, _, _, _⟩ :: _) _ _); refine wpList_load_box rfl 27 _ rfl _ rfl 27 _ (HK.out.at 1 rfl) _ Tryd.underlying27 rfl (pk_size _ _ _) ?_)
      | ((with_reducible show wpList _ _ _ (⟨some 13, _, _, _, _, _⟩ :: _) _ _); refine wpList_load_boxG (by kernel_rfl) 27 _ rfl _ rfl 27 _ (by (first | exact HK.out.at 0 rfl | exact HK.out.at 1 rfl)) _ Tryd.underlying27 rfl (pk_size _ _ _) ?_)
      | ((with_reducible show wpList _ _ _ (⟨some 18, _, _, _, _, _⟩ :: _) _ _); refine wpList_load_box rfl 27 _ rfl _ rfl 27 _ (HK.out.at 1 rfl) _ Tryd.underlying27 rfl (pk_size _ _ _) ?_)
      | ((with_reducible show wpList _ _ _ (⟨some 23, _, _, _, _, _⟩ :: _) _ _); refine wpList_load_box rfl 27 _ rfl _ rfl 27 _ (HK.out.at 0 rfl) _ Tryd.underlying27 rfl (pk_size _ _ _) ?_)
      | ((with_reducible show wpList _ _ _ (⟨some 35, _, _, _, _, _⟩ :: _) _ _); refine wpList_load_box rfl 27 _ rfl _ rfl 27 _ (HK.out.at 1 rfl) _ Tryd.underlying27 rfl (pk_size _ _ _) ?_)
      | ((with_reducible show wpList _ _ _ (⟨some 41, _, _, _, _, _⟩ :: _) _ _); refine wpList_load_boxG (by kernel_rfl) 27 _ rfl _ rfl 27 _ (by (first | exact HK.out.at 0 rfl | exact HK.out.at 1 rfl)) _ Tryd.underlying27 rfl (pk_size _ _ _) ?_)
      | ((with_reducible show wpList _ _ _ (⟨some 62, _, _, _, _, _⟩ :: _) _ _); refine wpList_load_box rfl 27 _ rfl _ rfl 27 _ (HK.out.at 1 rfl) _ Tryd.underlying27 rfl (pk_size _ _ _) ?_)
      | ((with_reducible show wpList _ _ _ (⟨some 63, _, _, _, _, _⟩ :: _) _ _); refine wpList_load_box rfl 27 _ rfl _ rfl 27 _ (HK.out.at 0 rfl) _ Tryd.underlying27 rfl (pk_size _ _ _) ?_)
      | (go_at_call 17; (with_reducible refine Calls.mono (HGP.out _ (HK.out.rowAt 0 rfl)) ?_); rintro e w1 ⟨rfl, hb1⟩; replace HK := Lib.hid (HK.out.below hb1); clear hb1)
      | (go_at_call 17; (with_reducible refine Calls.mono (HGQ.out _ (HK.out.rowAt 1 rfl)) ?_); rintro e w1 ⟨rfl, hb1⟩; replace HK := Lib.hid (HK.out.below hb1); clear hb1)
      | (go_at_call 31; (with_reducible refine Calls.mono (HNP.out _ HK.out.env (HK.out.rowAt 0 rfl)) ?_); rintro e w1 ⟨rfl, hb1⟩; replace HK := Lib.hid (HK.out.below hb1); clear hb1)
      | (go_at_call 31; (with_reducible refine Calls.mono (HNQ.out _ HK.out.env (HK.out.rowAt 1 rfl)) ?_); rintro e w1 ⟨rfl, hb1⟩; replace HK := Lib.hid (HK.out.below hb1); clear hb1)
      | (go_at_call 24; (with_reducible refine Calls.mono (HSM.out _ HK.out.env (HK.out.rowAt 0 rfl) (HK.out.rowAt 1 rfl)) ?_); rintro e w1 ⟨rfl, hb1⟩; replace HK := Lib.hid (HK.out.below hb1); clear hb1)
      | (go_at_call 33; refine Calls.mono (law04_awake _ HK.out.env) ?_; rintro e w1 ⟨rfl, hb1⟩; replace HK := Lib.hid (HK.out.below hb1); clear hb1))
    go_ret
    exact ⟨rfl, HK.out.low⟩
theorem law04_WriteApart (p : Pk) (a : Option Addr) (c : Nat) (q : Pk) (b : Option Addr) (d : Nat) (w : World) (hE : Env w) (hq : PkArg w p a c) (hq2 : PkArg w q b d) : Calls Tryd.prog 13 #[.agg (pkV p a c), .agg (pkV q b d)] w fun e w' => e = .returned (.bool true) ∧ Below w.heap.size w w' := by
  by_cases hg : (greatB p || greatB q) = true
  · exact apart_great p a c q b d w hE hq hq2 hg
  · have g1 : greatB p = false := by simp at hg; exact hg.1
    have g2 : greatB q = false := by simp at hg; exact hg.2
    by_cases hb : restP p < 0 ∨ restP q < 0
    · exact apart_bad p a c q b d w hE hq hq2 g1 g2 hb
    · by_cases he : p = q
      · exact apart_same p a c q b d w hE hq hq2 g1 g2 (by omega) he
      · exact apart_other p a c q b d w hE hq hq2 g1 g2 (by omega) (by omega) he
end Go.Proofs.YtkphaihbdmjogaaDoor
