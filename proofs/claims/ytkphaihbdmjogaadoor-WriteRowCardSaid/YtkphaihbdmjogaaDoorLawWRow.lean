/- The walk of WriteRow. Conditions: the decoder's tables lie as Go lays them; the packets and their lists in their cells. -/
import Derived.Test.YtkphaihbdmjogaaDoorPkRows
import Derived.Test.YtkphaihbdmjogaaDoorCardPks
namespace Go.Proofs.YtkphaihbdmjogaaDoor
open Go.RowKit
theorem infoPkA : (Tryd.prog.info? 27).map (fun i => (i.zero, i.size, i.bytes)) = some (some (.agg (pkV Pk.zero none 0)), 24, 200) := by kernel_rfl
theorem keep_grown {w0 w w' : World} (h : Keep w0 [] [] w) {r : Option Nat} (k : w.grownBy w' r) (h1 : ∀ g, r = some g → w0.heap.size ≤ g) : Keep w0 [] [] w' :=
  h.grown k h1 (fun _ _ x hx => by cases hx) (fun r hr => by cases hr)
theorem all_len (al : Option Addr) (cl : Nat) (T : List PkE) (m : Nat) (w : World) (hE : Env w) (hc : CellsA w al (pkCells T)) (hT : ∀ x ∈ T, PkIn w x) (hn : T.length ≤ 300) (hm : T.length = m) :
    Calls Tryd.prog 30 #[.slice al m cl] w fun e w' => e = .returned (.tuple #[.string (allS T), .int .i64 (allE T)]) ∧ Below w.heap.size w w' := hm ▸ write_All al cl T w hE hc hT hn
theorem allS_size (A : List PkE) (hA : ∀ x ∈ A, PkOk x.1) : (allS A).size ≤ A.length * 300000000 := by
  unfold allS
  cases h : okAll A
  · show 0 ≤ _; omega
  · exact encAll_le A (fun x hx => ⟨hA x hx, ok_each h hx⟩)
set_option maxRecDepth 100000 in
set_option maxHeartbeats 4000000 in
theorem wrow_great (a : Option Addr) (ca : Nat) (A : List PkE) (b : Option Addr) (cb : Nat) (B : List PkE) (w : World) (hE : Env w) (ha : CellsA w a (pkCells A)) (hA : ∀ x ∈ A, PkArg w x.1 x.2.1 x.2.2) (hb : CellsA w b (pkCells B)) (hB : ∀ x ∈ B, PkArg w x.1 x.2.1 x.2.2) (hg : (greatAll A || greatAll B) = true) : Calls Tryd.prog 12 #[.slice a A.length ca, .slice b B.length cb] w fun e w' => e = .returned (.bool true) ∧ Below w.heap.size w w' := by
  have HK := Lib.hid (Keep.begin hE [] (by intro r hr; cases hr))
  have hGA := fun w1 hE (hl : Below w.heap.size w w1) => law04_great a ca A w1 hE (ha.below hl) (fun x hx => ⟨(hA x hx).row.below hl⟩)
  have hGB := fun w1 hE (hl : Below w.heap.size w w1) => law04_great b cb B w1 hE (hb.below hl) (fun x hx => ⟨(hB x hx).row.below hl⟩)
  obtain ⟨g1, h1⟩ : ∃ g, greatAll A = g := ⟨_, rfl⟩
  obtain ⟨g2, h2⟩ : ∃ g, greatAll B = g := ⟨_, rfl⟩
  rw [h1] at hGA hg
  rw [h2] at hGB hg
  have HGA := Lib.hid hGA
  have HGB := Lib.hid hGB
  clear hGA hGB h1 h2 ha hb hA hB hE
  cases g1
  · cases g2
    · cases hg
    · go_enter Tryd.func12, Tryd.ntmps12
      go_wp2_with (first
        | (go_at_call 35; (with_reducible refine Calls.mono (HGA.out _ HK.out.env HK.out.low) ?_); rintro e w1 ⟨rfl, hb1⟩; replace HK := Lib.hid (HK.out.below hb1); clear hb1 HGA)
        | (go_at_call 35; (with_reducible refine Calls.mono (HGB.out _ HK.out.env HK.out.low) ?_); rintro e w1 ⟨rfl, hb1⟩; replace HK := Lib.hid (HK.out.below hb1); clear hb1)
        | (go_at_call 33; refine Calls.mono (law04_awake _ HK.out.env) ?_; rintro e w1 ⟨rfl, hb1⟩; replace HK := Lib.hid (HK.out.below hb1); clear hb1))
      go_ret
      exact ⟨rfl, HK.out.low⟩
  · go_enter Tryd.func12, Tryd.ntmps12
    go_wp2_with (first
      | (go_at_call 35; (with_reducible refine Calls.mono (HGA.out _ HK.out.env HK.out.low) ?_); rintro e w1 ⟨rfl, hb1⟩; replace HK := Lib.hid (HK.out.below hb1); clear hb1)
      | (go_at_call 33; refine Calls.mono (law04_awake _ HK.out.env) ?_; rintro e w1 ⟨rfl, hb1⟩; replace HK := Lib.hid (HK.out.below hb1); clear hb1))
    go_ret
    exact ⟨rfl, HK.out.low⟩
set_option maxRecDepth 100000 in
set_option maxHeartbeats 4000000 in
theorem wrow_bad (a : Option Addr) (ca : Nat) (A : List PkE) (b : Option Addr) (cb : Nat) (B : List PkE) (w : World) (hE : Env w) (ha : CellsA w a (pkCells A)) (hA : ∀ x ∈ A, PkIn w x) (hb : CellsA w b (pkCells B)) (hB : ∀ x ∈ B, PkIn w x) (hca : a = none → ca = 0) (hcb : b = none → cb = 0) (hnA : A.length ≤ 20) (hnB : B.length ≤ 20) (hGA : ∀ w1, Env w1 → Below w.heap.size w w1 → Calls Tryd.prog 35 #[.slice a A.length ca] w1 fun e w2 => e = .returned (.bool false) ∧ Below w1.heap.size w1 w2) (hGB : ∀ w1, Env w1 → Below w.heap.size w w1 → Calls Tryd.prog 35 #[.slice b B.length cb] w1 fun e w2 => e = .returned (.bool false) ∧ Below w1.heap.size w1 w2) (hbad : okAll A = false ∨ okAll B = false) : Calls Tryd.prog 12 #[.slice a A.length ca, .slice b B.length cb] w fun e w' => e = .returned (.bool true) ∧ Below w.heap.size w w' := by
  obtain ⟨i0, hi, hz0, hz1, hz2⟩ := info_parts infoPkA
  have hab : (A ++ B).length = A.length + B.length := List.length_append
  have hAB := fun w1 al cl hE (hc : CellsA w1 al (pkCells (A ++ B))) (hl : Below w.heap.size w w1) => all_len al cl (A ++ B) (A.length + B.length) w1 hE hc (fun x hx => by
    rcases List.mem_append.1 hx with hx | hx
    · exact (hA x hx).below hl
    · exact (hB x hx).below hl) (by omega) hab
  have hAA := fun w1 hE (hl : Below w.heap.size w w1) => write_All a ca A w1 hE (ha.below hl) (fun x hx => (hA x hx).below hl) (by omega)
  have hBB := fun w1 hE (hl : Below w.heap.size w w1) => write_All b cb B w1 hE (hb.below hl) (fun x hx => (hB x hx).below hl) (by omega)
  have HCA := Lib.hid hca
  have HCB := Lib.hid hcb
  have HRA := Lib.hid ha
  have HRB := Lib.hid hb
  have HLA := Lib.hid (pkCells_len A)
  have HLB := Lib.hid (pkCells_len B)
  have HOA := Lib.hid (pkCells_one A)
  have HOB := Lib.hid (pkCells_one B)
  have HK := Lib.hid (Keep.begin hE [] (by intro r hr; cases hr))
  have HGA := Lib.hid hGA
  have HGB := Lib.hid hGB
  rw [(allS_not hbad).1, (allS_not hbad).2] at hAB
  have HAB := Lib.hid (fun w1 al cl hE hc => hAB w1 al cl hE hc)
  have hab1 : allE A = 4 ∨ (allE A = 0 ∧ allE B = 4) := by
    unfold allE
    rcases hbad with h | h
    · left; simp [h]
    · cases okAll A
      · left; rfl
      · right; simp [h]
  generalize allS A = sA at *
  generalize allS B = sB at *
  generalize allE A = eA at *
  generalize allE B = eB at *
  clear hAB hGA hGB ha hb hA hB hE hbad hab hca hcb
  rcases hab1 with rfl | ⟨rfl, rfl⟩
  all_goals
    have HAA := Lib.hid hAA
    have HBB := Lib.hid hBB
    clear hAA hBB
    go_enter Tryd.func12, Tryd.ntmps12
    go_wp2_with (first
      | (go_at_call 35; (with_reducible refine Calls.mono (HGA.out _ HK.out.env HK.out.low) ?_); rintro e w1 ⟨rfl, hb1⟩; replace HK := Lib.hid (HK.out.below hb1); clear hb1 HGA)
      | (go_at_call 35; (with_reducible refine Calls.mono (HGB.out _ HK.out.env HK.out.low) ?_); rintro e w1 ⟨rfl, hb1⟩; replace HK := Lib.hid (HK.out.below hb1); clear hb1)
      | ((with_reducible show wpList _ _ _ (⟨some 26, _, _, _, _, _⟩ :: _) _ _); at_builtin; refine wpList_append_cells rfl (.tmp 24) (.tmp 25) 49 rfl w.heap.size 27 i0 _ 24 200 Tryd.underlying49 hi hz0 hz1 hz2 rfl (by decide) (.slice none 0 0) (0) ([]) rfl (World.ownsRow_nil _ _ _ _) a A.length ca HCA.out (pkCells A) rfl HLA.out (HRA.out.below HK.out.low) HOA.out (by unfold maxLen; omega) (by omega) HK.out.size ?_; intro v1 x1 hown hg1; replace HK := Lib.hid (keep_grown HK.out hg1 (by intro g hg; cases hg)); rw [Nat.zero_add, List.nil_append] at hown; have HW := Lib.hid hown; clear hown hg1)
      | ((with_reducible show wpList _ _ _ (⟨some 29, _, _, _, _, _⟩ :: _) _ _); at_builtin; refine wpList_append_cells rfl (.tmp 27) (.tmp 28) 49 rfl w.heap.size 27 i0 _ 24 200 Tryd.underlying49 hi hz0 hz1 hz2 rfl (by decide) (v1) (A.length) (pkCells A) rfl (HW.out) b B.length cb HCB.out (pkCells B) rfl HLB.out (HRB.out.below HK.out.low) HOB.out (by unfold maxLen; omega) (by omega) HK.out.size ?_; intro v2 x2 hown hg1; replace HK := Lib.hid (keep_grown HK.out hg1 (fun g hg => (own_lt HW.out hg).2)); rw [← pkCells_append] at hown; obtain ⟨a2, c2, hv2, _, hcc⟩ := own_form hown; subst hv2; have HCC := Lib.hid hcc; clear hown hg1 hcc HW)
      | (go_at_call 30; (with_reducible refine Calls.mono (HAB.out _ _ _ HK.out.env HCC.out HK.out.low) ?_); rintro e w1 ⟨rfl, hb1⟩; replace HK := Lib.hid (HK.out.below hb1); clear hb1 HAB HCC)
      | (go_at_call 30; (with_reducible refine Calls.mono (HAA.out _ HK.out.env HK.out.low) ?_); rintro e w1 ⟨rfl, hb1⟩; replace HK := Lib.hid (HK.out.below hb1); clear hb1 HAA)
      | (go_at_call 30; (with_reducible refine Calls.mono (HBB.out _ HK.out.env HK.out.low) ?_); rintro e w1 ⟨rfl, hb1⟩; replace HK := Lib.hid (HK.out.below hb1); clear hb1 HBB)
      | (go_at_call 33; refine Calls.mono (law04_awake _ HK.out.env) ?_; rintro e w1 ⟨rfl, hb1⟩; replace HK := Lib.hid (HK.out.below hb1); clear hb1))
    go_ret
    exact ⟨rfl, HK.out.low⟩
set_option maxRecDepth 100000 in
set_option maxHeartbeats 4000000 in
theorem wrow_good (a : Option Addr) (ca : Nat) (A : List PkE) (b : Option Addr) (cb : Nat) (B : List PkE) (w : World) (hE : Env w) (ha : CellsA w a (pkCells A)) (hA : ∀ x ∈ A, PkIn w x) (hb : CellsA w b (pkCells B)) (hB : ∀ x ∈ B, PkIn w x) (hca : a = none → ca = 0) (hcb : b = none → cb = 0) (hnA : A.length ≤ 20) (hnB : B.length ≤ 20) (hGA : ∀ w1, Env w1 → Below w.heap.size w w1 → Calls Tryd.prog 35 #[.slice a A.length ca] w1 fun e w2 => e = .returned (.bool false) ∧ Below w1.heap.size w1 w2) (hGB : ∀ w1, Env w1 → Below w.heap.size w w1 → Calls Tryd.prog 35 #[.slice b B.length cb] w1 fun e w2 => e = .returned (.bool false) ∧ Below w1.heap.size w1 w2) (hgA : okAll A = true) (hgB : okAll B = true) : Calls Tryd.prog 12 #[.slice a A.length ca, .slice b B.length cb] w fun e w' => e = .returned (.bool true) ∧ Below w.heap.size w w' := by
  obtain ⟨i0, hi, hz0, hz1, hz2⟩ := info_parts infoPkA
  have hab : (A ++ B).length = A.length + B.length := List.length_append
  have hAB := fun w1 al cl hE (hc : CellsA w1 al (pkCells (A ++ B))) (hl : Below w.heap.size w w1) => all_len al cl (A ++ B) (A.length + B.length) w1 hE hc (fun x hx => by
    rcases List.mem_append.1 hx with hx | hx
    · exact (hA x hx).below hl
    · exact (hB x hx).below hl) (by omega) hab
  have hAA := fun w1 hE (hl : Below w.heap.size w w1) => write_All a ca A w1 hE (ha.below hl) (fun x hx => (hA x hx).below hl) (by omega)
  have hBB := fun w1 hE (hl : Below w.heap.size w w1) => write_All b cb B w1 hE (hb.below hl) (fun x hx => (hB x hx).below hl) (by omega)
  have HCA := Lib.hid hca
  have HCB := Lib.hid hcb
  have HRA := Lib.hid ha
  have HRB := Lib.hid hb
  have HLA := Lib.hid (pkCells_len A)
  have HLB := Lib.hid (pkCells_len B)
  have HOA := Lib.hid (pkCells_one A)
  have HOB := Lib.hid (pkCells_one B)
  have HK := Lib.hid (Keep.begin hE [] (by intro r hr; cases hr))
  have HGA := Lib.hid hGA
  have HGB := Lib.hid hGB
  rw [(allS_two hgA hgB).1, (allS_two hgA hgB).2] at hAB
  rw [(allE_iff A).2 hgA] at hAA
  rw [(allE_iff B).2 hgB] at hBB
  have HAB := Lib.hid hAB
  have HAA := Lib.hid hAA
  have HBB := Lib.hid hBB
  have HJ := Lib.hid (fun (k : Nat) (x : PkE) (hx : A[k]? = some x) => join_snoc hgA hx)
  have HJA := Lib.hid (join_all hgA)
  have HSA := Lib.hid (show sumS A = (allS A).size by rw [sum_join hgA (fun x hx => (hA x hx).ok)]; unfold allS; rw [hgA]; rfl)
  have hsA := allS_size A (fun x hx => (hA x hx).ok)
  have hsB := allS_size B (fun x hx => (hB x hx).ok)
  have HLE := Lib.hid (fun k => encAll_le (A.take k) (fun x hx => ⟨(hA x (List.mem_of_mem_take hx)).ok, ok_each hgA (List.mem_of_mem_take hx)⟩))
  have HIN := Lib.hid hA
  have HOKS := Lib.hid (fun x hx => ok_each (A := A) hgA (x := x) hx)
  generalize allS A = sA at *
  generalize allS B = sB at *
  have hsum : ¬ 9223372036854775807 < sA.size + sB.size := by omega
  clear hAB hAA hBB hGA hGB ha hb hA hB hE hab hca hcb hgA hgB
  go_enter Tryd.func12, Tryd.ntmps12
  go_wp2_with (first
    | (go_at_call 35; (with_reducible refine Calls.mono (HGA.out _ HK.out.env HK.out.low) ?_); rintro e w1 ⟨rfl, hb1⟩; replace HK := Lib.hid (HK.out.below hb1); clear hb1 HGA)
    | (go_at_call 35; (with_reducible refine Calls.mono (HGB.out _ HK.out.env HK.out.low) ?_); rintro e w1 ⟨rfl, hb1⟩; replace HK := Lib.hid (HK.out.below hb1); clear hb1)
    | ((with_reducible show wpList _ _ _ (⟨some 26, _, _, _, _, _⟩ :: _) _ _); at_builtin; refine wpList_append_cells rfl (.tmp 24) (.tmp 25) 49 rfl w.heap.size 27 i0 _ 24 200 Tryd.underlying49 hi hz0 hz1 hz2 rfl (by decide) (.slice none 0 0) (0) ([]) rfl (World.ownsRow_nil _ _ _ _) a A.length ca HCA.out (pkCells A) rfl HLA.out (HRA.out.below HK.out.low) HOA.out (by unfold maxLen; omega) (by omega) HK.out.size ?_; intro v1 x1 hown hg1; replace HK := Lib.hid (keep_grown HK.out hg1 (by intro g hg; cases hg)); rw [Nat.zero_add, List.nil_append] at hown; have HW := Lib.hid hown; clear hown hg1)
    | ((with_reducible show wpList _ _ _ (⟨some 29, _, _, _, _, _⟩ :: _) _ _); at_builtin; refine wpList_append_cells rfl (.tmp 27) (.tmp 28) 49 rfl w.heap.size 27 i0 _ 24 200 Tryd.underlying49 hi hz0 hz1 hz2 rfl (by decide) (v1) (A.length) (pkCells A) rfl (HW.out) b B.length cb HCB.out (pkCells B) rfl HLB.out (HRB.out.below HK.out.low) HOB.out (by unfold maxLen; omega) (by omega) HK.out.size ?_; intro v2 x2 hown hg1; replace HK := Lib.hid (keep_grown HK.out hg1 (fun g hg => (own_lt HW.out hg).2)); rw [← pkCells_append] at hown; obtain ⟨a2, c2, hv2, _, hcc⟩ := own_form hown; subst hv2; have HCC := Lib.hid hcc; clear hown hg1 hcc HW)
    | (go_at_call 30; (with_reducible refine Calls.mono (HAB.out _ _ _ HK.out.env HCC.out HK.out.low) ?_); rintro e w1 ⟨rfl, hb1⟩; replace HK := Lib.hid (HK.out.below hb1); clear hb1 HAB HCC)
    | (go_at_call 30; (with_reducible refine Calls.mono (HAA.out _ HK.out.env HK.out.low) ?_); rintro e w1 ⟨rfl, hb1⟩; replace HK := Lib.hid (HK.out.below hb1); clear hb1 HAA)
    | (go_at_call 30; (with_reducible refine Calls.mono (HBB.out _ HK.out.env HK.out.low) ?_); rintro e w1 ⟨rfl, hb1⟩; replace HK := Lib.hid (HK.out.below hb1); clear hb1 HBB))
  go_loopw [12, 13, 14] (fun z j i wr => ∃ k : Nat, k ≤ A.length ∧ i = .int .i64 k ∧ ∃ s : Nat, z = .int .i64 (s : Int) ∧ s ≤ k * 300000010 ∧ ∃ J : ByteArray, j = .string J ∧ J.size ≤ k * 300000000 ∧ Hid (s = sumS (A.take k) ∧ J = bB (encAll (A.take k))) ∧ Hid (Keep w [] [] wr)) (fun _ _ i _ => A.length - (intOf i).toNat)
  case atStart => exact ⟨0, by omega, rfl, 0, rfl, by omega, _, rfl, by show 0 ≤ _; omega, ⟨rfl, rfl⟩, HK⟩
  case round =>
    clear HK
    obtain ⟨k, hk, rfl, s, rfl, hs, J, rfl, hj, HP, HK⟩ := hrel
    by_cases hlt : k < A.length
    · obtain ⟨x, hx⟩ : ∃ x, A[k]? = some x := ⟨_, List.getElem?_eq_getElem hlt⟩
      have hmem := List.mem_of_getElem? hx
      have hin := HIN.out x hmem
      have h0 := HOKS.out x hmem
      obtain ⟨bb, oo, hal, hrg, hbb⟩ := pk_range HRA.out hx
      subst hal
      have hst := HJ.out k x hx
      have hst2 := sumS_snoc A k x hx
      obtain ⟨p, pa, pc⟩ := x
      dsimp only at h0 hst hst2
      have hS := fun w1 hE ha => write_Size p pa pc w1 hE hin.ok ha
      have hN := fun w1 hE ha => write_Encode p pa pc w1 hE hin.ok ha
      rw [encE_good h0] at hN
      have hmx := restP_max p
      have hle : sizeN p ≤ 300000000 := by unfold sizeN; have := lenS_le (restP p).toNat; split <;> omega
      have hle2 : (encS p).size ≤ 300000000 := by rw [← size_good hin.ok h0]; exact hle
      rw [← HP.out.1] at hst2
      rw [← HP.out.2] at hst
      generalize encS p = t at *
      generalize sizeN p = zz at *
      have HST := Lib.hid (And.intro hst2 hst)
      have HS := Lib.hid hS
      have HN := Lib.hid hN
      have HIP := Lib.hid hin
      have HRG := Lib.hid hrg
      have hcat : ¬ 9223372036854775807 < J.size + t.size := by omega
      clear hrg hin hx hst hst2 hS hN h0 hmx hmem HP
      go_wp2_with (first
        | ((with_reducible show wpList _ _ _ (⟨some 70, _, _, _, _, _⟩ :: _) _ _); refine wpList_load_mid rfl 27 _ rfl bb (oo + k * 24) rfl (pkC (p, pa, pc)) _ (range_low HRG.out hbb HK.out.low) Tryd.underlying27 rfl (pk_size p pa pc) ?_)
        | ((with_reducible show wpList _ _ _ (⟨some 83, _, _, _, _, _⟩ :: _) _ _); refine wpList_load_mid rfl 27 _ rfl bb (oo + k * 24) rfl (pkC (p, pa, pc)) _ (range_low HRG.out hbb HK.out.low) Tryd.underlying27 rfl (pk_size p pa pc) ?_)
        | (go_at_call 31; refine Calls.mono (HN.out _ HK.out.env (HIP.out.row.below HK.out.low)) ?_; rintro e w1 ⟨rfl, hb1⟩; replace HK := Lib.hid (HK.out.below hb1); clear hb1)
        | (go_at_call 32; refine Calls.mono (HS.out _ HK.out.env (HIP.out.row.below HK.out.low)) ?_; rintro e w1 ⟨rfl, hb1⟩; replace HK := Lib.hid (HK.out.below hb1); clear hb1))
      go_roundw
      case rel => exact ⟨k + 1, by omega, by first | rfl | go_num, s + zz, by first | rfl | go_num, by omega, J ++ t, rfl, by rw [ByteArray.size_append]; omega, ⟨HST.out.1.symm, HST.out.2.symm⟩, HK⟩
      case measure => simp [intOf]; omega
    · have hk2 : k = A.length := by omega
      subst hk2
      have hJ : J = sA := by
        have := HP.out.2
        rw [HJA.out] at this
        exact this
      have hS2 : s = sA.size := by
        have := HP.out.1
        rw [List.take_length, HSA.out] at this
        exact this
      subst hJ hS2
      clear HP
      go_wp2_with (first
        | (go_at_call 33; refine Calls.mono (law04_awake _ HK.out.env) ?_; rintro e w1 ⟨rfl, hb1⟩; replace HK := Lib.hid (HK.out.below hb1); clear hb1))
      go_ret
      exact ⟨rfl, HK.out.low⟩
theorem great_parts {A : List PkE} (h : greatAll A = false) : A.length ≤ 20 ∧ ∀ x ∈ A, greatB x.1 = false := by
  unfold greatAll at h
  simp only [Bool.or_eq_false_iff, decide_eq_false_iff_not] at h
  refine ⟨by omega, fun x hx => ?_⟩
  have := List.any_eq_false.1 h.2 x hx
  simpa using this
theorem PkArg.inRow {w : World} {x : PkE} (h : PkArg w x.1 x.2.1 x.2.2) (hg : greatB x.1 = false) : PkIn w x := ⟨(small_of hg).ok h.ty, h.row⟩
theorem law04_WriteRow (a : Option Addr) (ca : Nat) (A : List PkE) (b : Option Addr) (cb : Nat) (B : List PkE) (w : World) (hE : Env w) (hzA : a = none → ca = 0) (_ : A.length ≤ 9223372036854775807) (ha : CellsA w a (pkCells A)) (hA : ∀ x ∈ A, PkArg w x.1 x.2.1 x.2.2) (hzB : b = none → cb = 0) (_ : B.length ≤ 9223372036854775807) (hb : CellsA w b (pkCells B)) (hB : ∀ x ∈ B, PkArg w x.1 x.2.1 x.2.2) : Calls Tryd.prog 12 #[.slice a A.length ca, .slice b B.length cb] w fun e w' => e = .returned (.bool true) ∧ Below w.heap.size w w' := by
  by_cases hg : (greatAll A || greatAll B) = true
  · exact wrow_great a ca A b cb B w hE ha hA hb hB hg
  · have h1 : greatAll A = false := by simp at hg; exact hg.1
    have h2 : greatAll B = false := by simp at hg; exact hg.2
    have hGA := fun w1 hE (hl : Below w.heap.size w w1) => law04_great a ca A w1 hE (ha.below hl) (fun x hx => ⟨(hA x hx).row.below hl⟩)
    have hGB := fun w1 hE (hl : Below w.heap.size w w1) => law04_great b cb B w1 hE (hb.below hl) (fun x hx => ⟨(hB x hx).row.below hl⟩)
    rw [h1] at hGA
    rw [h2] at hGB
    have k1 := great_parts h1
    have k2 := great_parts h2
    have hA' := fun x hx => (hA x hx).inRow (k1.2 x hx)
    have hB' := fun x hx => (hB x hx).inRow (k2.2 x hx)
    by_cases hbad : okAll A = false ∨ okAll B = false
    · exact wrow_bad a ca A b cb B w hE ha hA' hb hB' hzA hzB k1.1 k2.1 hGA hGB hbad
    · have g1 : okAll A = true := by cases h : okAll A; exact absurd (Or.inl h) hbad; rfl
      have g2 : okAll B = true := by cases h : okAll B; exact absurd (Or.inr h) hbad; rfl
      exact wrow_good a ca A b cb B w hE ha hA' hb hB' hzA hzB k1.1 k2.1 hGA hGB g1 g2
end Go.Proofs.YtkphaihbdmjogaaDoor
