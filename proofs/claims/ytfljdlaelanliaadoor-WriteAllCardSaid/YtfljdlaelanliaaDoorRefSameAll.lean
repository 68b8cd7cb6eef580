/- The walk of the reference's SameAll where the rows are alike. Conditions: a machine's bounds; the packets and their lists in their cells. -/
import Derived.Test.YtfljdlaelanliaaDoorRefPacketSame
import Derived.Test.YtfljdlaelanliaaDoorPkRows
namespace Go.Proofs.YtfljdlaelanliaaDoor
open Go.RowKit
set_option maxRecDepth 100000 in
set_option maxHeartbeats 4000000 in
theorem ref03_SameAll (al : Option Addr) (cl : Nat) (T : List PkE) (ul : Option Addr) (cu : Nat) (U : List PkE) (m : Nat) (w : World) (hE : Env w) (hm : U.length = m) (hUT : U.map (·.1) = T.map (·.1)) (hu : CellsA w ul (pkCells U)) (hc : CellsA w al (pkCells T)) (hU : ∀ x ∈ U, PkIn w x) (hT : ∀ x ∈ T, PkIn w x) (hn : T.length ≤ 1000) :
    Calls Tryd.prog 17 #[.slice ul m cu, .slice al T.length cl] w fun e w' => e = .returned (.bool true) ∧ Below w.heap.size w w' := by
  have hlen : U.length = T.length := by have := congrArg List.length hUT; simpa using this
  have hmt : m = T.length := by omega
  subst hm
  have HC := Lib.hid hc
  have HU := Lib.hid hu
  have HIT := Lib.hid hT
  have HIU := Lib.hid hU
  have HM := Lib.hid hUT
  have HK := Lib.hid (Keep.begin hE [] (by intro r hr; cases hr))
  have hne : ((U.length : Int) != (T.length : Int)) = false := by rw [hlen]; simp
  clear hc hu hT hU hUT hE hmt
  go_enter Tryd.func17, Tryd.ntmps17
  go_wp2_with fail
  go_loopw [5] (fun i wr => ∃ k : Nat, k ≤ T.length ∧ i = .int .i64 (k : Int) ∧ Hid (Keep w [] [] wr)) (fun i _ => T.length - (intOf i).toNat)
  case atStart => exact ⟨0, by omega, rfl, HK⟩
  case round =>
    clear HK
    obtain ⟨k, hk, rfl, HK⟩ := hrel
    by_cases hlt : k < T.length
    · have hltU : k < U.length := by omega
      obtain ⟨x, hx⟩ : ∃ x, T[k]? = some x := ⟨_, List.getElem?_eq_getElem hlt⟩
      obtain ⟨y, hy⟩ : ∃ y, U[k]? = some y := ⟨_, List.getElem?_eq_getElem hltU⟩
      have hix := HIT.out x (List.mem_of_getElem? hx)
      have hiy := HIU.out y (List.mem_of_getElem? hy)
      obtain ⟨b, o, hal, hrg, hb⟩ := pk_range HC.out hx
      obtain ⟨b', o', hal', hrg', hb'⟩ := pk_range HU.out hy
      subst hal hal'
      have hxy : y.1 = x.1 := by
        have h1 := congrArg (fun L => L[k]?) HM.out
        simp only [List.getElem?_map, hx, hy, Option.map_some] at h1
        injection h1
      obtain ⟨p, pa, pc⟩ := x
      obtain ⟨p', qa, qc⟩ := y
      dsimp only at hxy
      subst hxy
      have hS := fun w1 hE (h1 : CellsA w1 qa (subCells p'.subs)) (h2 : CellsA w1 pa (subCells p'.subs)) => ref03_Same p' p' qa pa qc pc w1 hE hiy.ok hix.ok h1 h2
      rw [show decide (p' = p') = true by simp] at hS
      have HS := Lib.hid hS
      have HX := Lib.hid hix
      have HY := Lib.hid hiy
      have HRG := Lib.hid hrg
      have HRG' := Lib.hid hrg'
      clear hS hix hiy hrg hrg' hx hy
      go_upto_region 6 with fail
      refine wp_region_noPanic ?_
      refine wp_region_held_drew (S := fun w' => Keep w [] [] w') (by kernel_rfl) ?_ (fun hHeld => ?_)
      · exact HK.out.drew
      replace HK := Lib.hid hHeld
      refine wpAnyH_take (i := 0) (oi := ⟨some 17, _, _, _, _, _⟩) (v := ?_) rfl (by kernel_rfl) (by kernel_rfl) (by kernel_rfl) (fun _ _ _ h => h) (Or.inl ⟨by rfl, ?_⟩) (by assumption) ?_
      rotate_left
      · (intro w hSw; (try dsimp only at hSw); go_simp; try with_reducible rfl)
      try simp only [Act.put, List.setIfInBounds_toArray, List.set_cons_zero, List.set_cons_succ]
      refine wpAnyH_take (i := 1) (oi := ⟨some 18, _, _, _, _, _⟩) (v := ?_) rfl (by kernel_rfl) (by kernel_rfl) (by kernel_rfl) (fun _ _ _ h => h) (Or.inl ⟨by rfl, ?_⟩) (by assumption) ?_
      rotate_left
      · (intro w hSw; (try dsimp only at hSw); go_simp; try with_reducible rfl)
      try simp only [Act.put, List.setIfInBounds_toArray, List.set_cons_zero, List.set_cons_succ]
      refine wpAnyH_take (i := 2) (oi := ⟨some 19, _, _, _, _, _⟩) (v := ?_) rfl (by kernel_rfl) (by kernel_rfl) (by kernel_rfl) (fun _ _ _ h => h) (Or.inl ⟨by rfl, ?_⟩) (by assumption) ?_
      rotate_left
      · (intro w hSw; (try dsimp only at hSw); go_simp; try with_reducible rfl)
      try simp only [Act.put, List.setIfInBounds_toArray, List.set_cons_zero, List.set_cons_succ]
      refine wpAnyH_take (i := 3) (oi := ⟨some 20, _, _, _, _, _⟩) (v := .agg (pkC (p', qa, qc)).toArray) rfl (by kernel_rfl) (by kernel_rfl) (by kernel_rfl) (fun _ _ _ h => h) ((yieldsIf_load_mid (by kernel_rfl) 27 _ rfl b' (o' + k * 24) rfl (pkC (p', qa, qc)) _ (fun w h => range_low HRG'.out hb' h.low) Tryd.underlying27 rfl (pk_size _ _ _))) (by assumption) ?_
      try simp only [Act.put, List.setIfInBounds_toArray, List.set_cons_zero, List.set_cons_succ]
      refine wpAnyH_take (i := 4) (oi := ⟨some 21, _, _, _, _, _⟩) (v := ?_) rfl (by kernel_rfl) (by kernel_rfl) (by kernel_rfl) (fun _ _ _ h => h) (Or.inl ⟨by rfl, ?_⟩) (by assumption) ?_
      rotate_left
      · (intro w hSw; (try dsimp only at hSw); go_simp; try with_reducible rfl)
      try simp only [Act.put, List.setIfInBounds_toArray, List.set_cons_zero, List.set_cons_succ]
      refine wpAnyH_take (i := 5) (oi := ⟨some 22, _, _, _, _, _⟩) (v := ?_) rfl (by kernel_rfl) (by kernel_rfl) (by kernel_rfl) (fun _ _ _ h => h) (Or.inl ⟨by rfl, ?_⟩) (by assumption) ?_
      rotate_left
      · (intro w hSw; (try dsimp only at hSw); go_simp; try with_reducible rfl)
      try simp only [Act.put, List.setIfInBounds_toArray, List.set_cons_zero, List.set_cons_succ]
      refine wpAnyH_take (i := 6) (oi := ⟨some 23, _, _, _, _, _⟩) (v := ?_) rfl (by kernel_rfl) (by kernel_rfl) (by kernel_rfl) (fun _ _ _ h => h) (Or.inl ⟨by rfl, ?_⟩) (by assumption) ?_
      rotate_left
      · (intro w hSw; (try dsimp only at hSw); go_simp; try with_reducible rfl)
      try simp only [Act.put, List.setIfInBounds_toArray, List.set_cons_zero, List.set_cons_succ]
      refine wpAnyH_take (i := 7) (oi := ⟨some 24, _, _, _, _, _⟩) (v := .agg (pkC (p', pa, pc)).toArray) rfl (by kernel_rfl) (by kernel_rfl) (by kernel_rfl) (fun _ _ _ h => h) ((yieldsIf_load_mid (by kernel_rfl) 27 _ rfl b (o + k * 24) rfl (pkC (p', pa, pc)) _ (fun w h => range_low HRG.out hb h.low) Tryd.underlying27 rfl (pk_size _ _ _))) (by assumption) ?_
      try simp only [Act.put, List.setIfInBounds_toArray, List.set_cons_zero, List.set_cons_succ]
      refine wpAnyH_ready (rs := [8]) (by kernel_rfl) (by simp) ?_
      refine AllReadyH.cons (o := ⟨some 25, _, _, _, _, _⟩) rfl (fun K hK => ?_) AllReadyH.nil
      go_simp
      (go_at_call 24; refine Calls.mono (HS.out _ HK.out.env (HY.out.row.below HK.out.low) (HX.out.row.below HK.out.low)) ?_; rintro e w9 ⟨rfl, hb1⟩; replace HK := Lib.hid (HK.out.below hb1); clear hb1; go_simp)
      refine hK.out _ _ ?_ (fun hHeld => ?_)
      · exact HK.out
      clear hK K hHeld
      have hHeld := HK.out
      try simp only [Act.put, List.setIfInBounds_toArray, List.set_cons_zero, List.set_cons_succ]
      refine wpAnyH_take (i := 9) (oi := ⟨some 26, _, _, _, _, _⟩) (v := ?_) rfl (by kernel_rfl) (by kernel_rfl) (by kernel_rfl) (fun _ _ _ h => h) (Or.inl ⟨by rfl, ?_⟩) (by assumption) ?_
      rotate_left
      · (intro w hSw; (try dsimp only at hSw); go_simp; try with_reducible rfl)
      try simp only [Act.put, List.setIfInBounds_toArray, List.set_cons_zero, List.set_cons_succ]
      refine wpAnyH_done (by kernel_rfl) ?_ _
      refine NoPanic.normal ?_
      go_wp2_with fail
      go_roundw
      case rel => exact ⟨k + 1, by omega, by first | rfl | go_num, HK⟩
      case measure => simp [intOf]; omega
    · go_wp2_with fail
      go_ret
      exact ⟨rfl, HK.out.low⟩
end Go.Proofs.YtfljdlaelanliaaDoor
