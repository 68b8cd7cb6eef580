/- The walk of WriteAll. Conditions: the decoder's tables lie as Go lays them; the packets and their lists in their cells. -/
import Derived.Test.YtfljdlaelanliaaDoorRefEncode
import Derived.Test.YtfljdlaelanliaaDoorRefSameAll
import Derived.Test.YtfljdlaelanliaaDoorPksMore
namespace Go.Proofs.YtfljdlaelanliaaDoor
open Go.RowKit
theorem okAll_map {U T : List PkE} (h : U.map (·.1) = T.map (·.1)) : okAll U = okAll T ∧ encAll U = encAll T := by
  have e1 : ∀ L : List PkE, okAll L = (L.map (·.1)).all (fun p => decide (0 ≤ restP p)) := fun L => by unfold okAll; rw [List.all_map]; rfl
  have e2 : ∀ L : List PkE, encAll L = (L.map (·.1)).flatMap encB := fun L => by unfold encAll; rw [List.flatMap_map]
  rw [e1, e1, e2, e2, h]
  exact ⟨rfl, rfl⟩
theorem allS_map {U T : List PkE} (h : U.map (·.1) = T.map (·.1)) : allS U = allS T ∧ allE U = allE T := by
  obtain ⟨h1, h2⟩ := okAll_map h
  unfold allS allE
  rw [h1, h2]
  exact ⟨rfl, rfl⟩
theorem pkin_all {w : World} {B : Nat} {U : List PkE} (h1 : ∀ x ∈ U, PkOk x.1) (h2 : ∀ x ∈ U, w.ownsRow B 31 2 (.slice x.2.1 x.1.subs.length x.2.2) x.1.subs.length (subCells x.1.subs)) : ∀ x ∈ U, PkIn w x :=
  fun x hx => ⟨h1 x hx, own_cells (h2 x hx)⟩
theorem sub_grown {w w' : World} {B B' n m : Nat} {v y : Value} {xs ys : List Value} (ho : w.ownsRow B 27 24 v n xs) (hk : w.ownsRow B' 31 2 y m ys) (hg : w.grownBy w' v.ownBlock) : w'.ownsRow B' 31 2 y m ys :=
  own_grown hk hg (own_ne_own ho hk (by decide))
theorem own_nil0 {w : World} {B n m c size : Nat} {e : TypeId} {a : Option Addr} {xs : List Value} (h : w.ownsRow B e size (.slice a n c) m xs) : a = none → c = 0 := by
  rintro rfl
  rcases h.2 with ⟨hv, _⟩ | ⟨g, cap, cur, hv, _⟩
  · injection hv
  · injection hv with h1 _ _
    cases h1
set_option maxRecDepth 100000 in
set_option maxHeartbeats 4000000 in
theorem wall_great (al : Option Addr) (cl : Nat) (T : List PkE) (w : World) (hE : Env w) (hc : CellsA w al (pkCells T)) (hT : ∀ x ∈ T, PkArg w x.1 x.2.1 x.2.2) (hg : greatAll T = true) : Calls Tryd.prog 4 #[.slice al T.length cl] w fun e w' => e = .returned (.bool true) ∧ Below w.heap.size w w' := by
  have HK := Lib.hid (Keep.begin hE [] (by intro r hr; cases hr))
  have hG := fun w1 hE (hl : Below w.heap.size w w1) => law04_great al cl T w1 hE (hc.below hl) (fun x hx => ⟨(hT x hx).row.below hl⟩)
  rw [hg] at hG
  have HG := Lib.hid hG
  clear hG hg hc hT hE
  go_enter Tryd.func4, Tryd.ntmps4
  go_wp2_with (first
    | (go_at_call 12; (with_reducible refine Calls.mono (HG.out _ HK.out.env HK.out.low) ?_); rintro e w1 ⟨rfl, hb1⟩; replace HK := Lib.hid (HK.out.below hb1); clear hb1)
    | (go_at_call 13; refine Calls.mono (law04_awake _ HK.out.env) ?_; rintro e w1 ⟨rfl, hb1⟩; replace HK := Lib.hid (HK.out.below hb1); clear hb1))
  go_ret
  exact ⟨rfl, HK.out.low⟩
set_option maxRecDepth 100000 in
set_option maxHeartbeats 4000000 in
theorem wall_small (al : Option Addr) (cl : Nat) (T : List PkE) (w : World) (hE : Env w) (hc : CellsA w al (pkCells T)) (hT : ∀ x ∈ T, PkArg w x.1 x.2.1 x.2.2) (hg : greatAll T = false) : Calls Tryd.prog 4 #[.slice al T.length cl] w fun e w' => e = .returned (.bool true) ∧ Below w.heap.size w w' := by
  obtain ⟨i0, hi, hz0, hz1, hz2⟩ := info_parts infoPkA
  have HK := Lib.hid (Keep.begin hE [] (by intro r hr; cases hr))
  have hG := fun w1 hE (hl : Below w.heap.size w w1) => law04_great al cl T w1 hE (hc.below hl) (fun x hx => ⟨(hT x hx).row.below hl⟩)
  rw [hg] at hG
  have HG := Lib.hid hG
  have hk := great_parts hg
  have hn := hk.1
  have hIN := fun x hx => (hT x hx).inRow (hk.2 x hx)
  have HIN := Lib.hid hIN
  have HNIL := Lib.hid (fun x hx => (hT x hx).nil)
  have HC := Lib.hid hc
  have HRA := Lib.hid (fun w1 hE (hl : Below w.heap.size w w1) => ref04_All al cl T w1 hE (hc.below hl) (fun x hx => (hIN x hx).below hl) (by omega))
  have HSA := Lib.hid (fun U (hUT : U.map (·.1) = T.map (·.1)) m (hm : U.length = m) ul cu w1 hE (hl : Below w.heap.size w w1) (hu : CellsA w1 ul (pkCells U)) (hU : ∀ x ∈ U, PkIn w1 x) => ref03_SameAll al cl T ul cu U m w1 hE hm hUT hu (hc.below hl) hU (fun x hx => (hIN x hx).below hl) (by omega))
  clear hG hg hc hT hE hk hIN
  go_enter Tryd.func4, Tryd.ntmps4
  go_wp2_with (go_at_call 12; (with_reducible refine Calls.mono (HG.out _ HK.out.env HK.out.low) ?_); rintro e w1 ⟨rfl, hb1⟩; replace HK := Lib.hid (HK.out.below hb1); clear hb1)
  go_loopw [3, 4] (fun v i wr => ∃ k : Nat, k ≤ T.length ∧ i = .int .i64 (k : Int) ∧ ∃ U : List PkE, U.length = k ∧ Hid (U.map (·.1) = (T.take k).map (·.1)) ∧ Hid (wr.ownsRow w.heap.size 27 24 v U.length (pkCells U)) ∧ Hid (∀ x ∈ U, wr.ownsRow w.heap.size 31 2 (.slice x.2.1 x.1.subs.length x.2.2) x.1.subs.length (subCells x.1.subs)) ∧ Hid (Keep w [] [] wr)) (fun _ i _ => T.length - (intOf i).toNat)
  case atStart => exact ⟨0, by omega, rfl, [], rfl, rfl, World.ownsRow_nil _ _ _ _, (fun x hx => by cases hx), HK⟩
  case round =>
    clear HK
    obtain ⟨k, hk, rfl, U, hUk, HM, HOW, HSUB, HK⟩ := hrel
    by_cases hlt : k < T.length
    · obtain ⟨x, hx⟩ : ∃ x, T[k]? = some x := ⟨_, List.getElem?_eq_getElem hlt⟩
      have hmem := List.mem_of_getElem? hx
      have hin := HIN.out x hmem
      have hnil := HNIL.out x hmem
      obtain ⟨bb, oo, hal, hrg, hbb⟩ := pk_range HC.out hx
      subst hal
      obtain ⟨p, pa, pc⟩ := x
      dsimp only at hnil
      have HIP := Lib.hid hin
      have HRG := Lib.hid hrg
      have HM2 := Lib.hid (fun (a1 : Option Addr) (c1 : Nat) => (show (U ++ [(p, a1, c1)]).map (·.1) = (T.take (k + 1)).map (·.1) by
        rw [List.map_append, HM.out, List.take_add_one, hx, List.map_append]; rfl))
      clear hrg hin hx hmem
      go_wp2_with (first
        | ((with_reducible show wpList _ _ _ (⟨some 22, _, _, _, _, _⟩ :: _) _ _); refine wpList_load_mid rfl 27 _ rfl bb (oo + k * 24) rfl (pkC (p, pa, pc)) _ (range_low HRG.out hbb HK.out.low) Tryd.underlying27 rfl (pk_size p pa pc) ?_)
        | (go_at_call 14; refine Calls.mono (ref03_Copy p pa pc _ HK.out.env HIP.out.ok hnil (HIP.out.row.below HK.out.low)) ?_; rintro e w4 ⟨a1, c1, rfl, hown, hb1⟩; have HNEW := Lib.hid (own_base hown HK.out.size); clear hown; replace HOW := Lib.hid (own_only HOW.out (Only.of_below hb1 (fun _ => False)) (fun _ _ h => h)); replace HSUB := Lib.hid (fun (x : PkE) hx => own_only (HSUB.out x hx) (Only.of_below hb1 (fun _ => False)) (fun _ _ h => h)); replace HK := Lib.hid (HK.out.below hb1); clear hb1)
        | ((with_reducible show wpList _ _ _ (⟨some 24, .buildSlice _ _ _, _, _, _, _⟩ :: _) _ _); refine Great.wpList_buildSliceTo rfl 33 27 1 _ rfl _ rfl _ rfl Tryd.underlying33 (List.toArray (pkCells [(p, a1, c1)])) (by kernel_rfl) ?_; replace HOW := Lib.hid (HOW.out.alloc (.cells (List.toArray (pkCells [(p, a1, c1)])) 27)); replace HNEW := Lib.hid (HNEW.out.alloc (.cells (List.toArray (pkCells [(p, a1, c1)])) 27)); replace HSUB := Lib.hid (fun (x : PkE) hx => (HSUB.out x hx).alloc (.cells (List.toArray (pkCells [(p, a1, c1)])) 27)); replace HK := Lib.hid (HK.out.allocRow (pkCells [(p, a1, c1)]) 27); generalize hgw : World.alloc _ _ = w5 at HK HOW HNEW HSUB ⊢; clear hgw)
        | ((with_reducible show wpList _ _ _ (⟨some 25, _, _, _, _, _⟩ :: _) _ _); at_builtin; refine wpList_append_cells rfl (.tmp 18) (.tmp 24) 33 rfl w.heap.size 27 i0 _ 24 200 Tryd.underlying33 hi hz0 hz1 hz2 rfl (by decide) u3 U.length (pkCells U) rfl HOW.out _ 1 1 (fun h => by cases h) (pkCells [(p, a1, c1)]) rfl (pkCells_len _) (HK.out.rowAt 0 rfl) (pkCells_one _) (by unfold maxLen; omega) (by omega) HK.out.size ?_; intro v2 w6 hown hg1; replace HK := Lib.hid (keep_grown (HK.out.sub (L' := []) (R' := []) (List.nil_sublist _) (fun r hr => by cases hr)) hg1 (fun g hg => (own_lt HOW.out hg).2)); replace HSUB := Lib.hid (fun (x : PkE) hx => sub_grown HOW.out (HSUB.out x hx) hg1); replace HNEW := Lib.hid (sub_grown HOW.out HNEW.out hg1); rw [← pkCells_append] at hown; have HW2 := Lib.hid hown; clear hown hg1 HOW))
      go_roundw
      case rel => exact ⟨k + 1, by omega, by first | rfl | go_num, U ++ [(p, a1, c1)], by simp; omega, HM2.out a1 c1, Lib.hid (by have h9 := HW2.out; simpa using h9), (fun x hx => by
        rcases List.mem_append.1 hx with hx | hx
        · exact HSUB.out x hx
        · simp at hx; subst hx; exact HNEW.out), HK⟩
      case measure => simp [intOf]; omega
    · have hk2 : k = T.length := by omega
      have hM := HM.out
      rw [hk2, List.take_length] at hM
      have HPK := Lib.hid (show ∀ x ∈ U, PkOk x.1 from fun x hx => by
        have : x.1 ∈ T.map (·.1) := by rw [← hM]; exact List.mem_map_of_mem hx
        obtain ⟨y, hy, e⟩ := List.mem_map.1 this
        rw [← e]; exact (HIN.out y hy).ok)
      obtain ⟨ua, uc, hv, _, _⟩ := own_form HOW.out
      subst hv
      have hUT : U.length = T.length := by omega
      have hSA := fun w1 hE hl hu hU => HSA.out U hM T.length hUT ua uc w1 hE hl hu hU
      have hWA := fun w1 hE (hu : CellsA w1 ua (pkCells U)) (hU : ∀ x ∈ U, PkIn w1 x) => all_len ua uc U T.length w1 hE hu hU (by omega) hUT
      rw [(allS_map hM).1, (allS_map hM).2] at hWA
      clear HSA
      have HSA := Lib.hid hSA
      have HWA := Lib.hid hWA
      generalize allS T = s at *
      generalize allE T = n at *
      clear hSA hWA hM HM
      go_wp2_with (first
        | (go_at_call 15; have hcu := own_cells HOW.out; have hps := pkin_all HPK.out HSUB.out; (with_reducible refine Calls.mono (HWA.out _ HK.out.env hcu hps) ?_); clear hcu hps; rintro e w1 ⟨rfl, hb1⟩; have hlo := HK.out.low; replace HOW := Lib.hid (own_only HOW.out (Only.of_below hb1 (fun _ => False)) (fun _ _ h => h)); replace HSUB := Lib.hid (fun (x : PkE) hx => own_only (HSUB.out x hx) (Only.of_below hb1 (fun _ => False)) (fun _ _ h => h)); replace HK := Lib.hid (HK.out.below hb1); clear hb1 hlo)
        | (go_at_call 16; (with_reducible refine Calls.mono (HRA.out _ HK.out.env HK.out.low) ?_); rintro e w1 ⟨rfl, hb1⟩; replace HOW := Lib.hid (own_only HOW.out (Only.of_below hb1 (fun _ => False)) (fun _ _ h => h)); replace HSUB := Lib.hid (fun (x : PkE) hx => own_only (HSUB.out x hx) (Only.of_below hb1 (fun _ => False)) (fun _ _ h => h)); replace HK := Lib.hid (HK.out.below hb1); clear hb1)
        | (go_at_call 17; have hcu := own_cells HOW.out; have hps := pkin_all HPK.out HSUB.out; (with_reducible refine Calls.mono (HSA.out _ HK.out.env HK.out.low hcu hps) ?_); clear hcu hps; rintro e w1 ⟨rfl, hb1⟩; replace HK := Lib.hid (HK.out.below hb1); clear hb1)
        | (go_at_call 13; refine Calls.mono (law04_awake _ HK.out.env) ?_; rintro e w1 ⟨rfl, hb1⟩; replace HK := Lib.hid (HK.out.below hb1); clear hb1))
      go_ret
      exact ⟨rfl, HK.out.low⟩
theorem law04_WriteAll (al : Option Addr) (cl : Nat) (T : List PkE) (w : World) (hE : Env w) (_ : al = none → cl = 0) (_ : T.length ≤ 9223372036854775807) (hc : CellsA w al (pkCells T)) (hT : ∀ x ∈ T, PkArg w x.1 x.2.1 x.2.2) : Calls Tryd.prog 4 #[.slice al T.length cl] w fun e w' => e = .returned (.bool true) ∧ Below w.heap.size w w' := by
  cases hg : greatAll T
  · exact wall_small al cl T w hE hc hT hg
  · exact wall_great al cl T w hE hc hT hg
end Go.Proofs.YtfljdlaelanliaaDoor
