/- The walks of law06's same (of rows that tell the same) and Great. Conditions: the rows and the packets' lists in their cells; the decoder's tables lie as Go lays them. -/
import Derived.Test.YtfljdlaelanliaaDoorFrameD
import Derived.Test.YtfljdlaelanliaaDoorRefPacketSame
import Derived.Test.YtfljdlaelanliaaDoorLess
namespace Go.Proofs.YtfljdlaelanliaaDoor
open Go.RowKit
/-- What is asked of what was told. -/
def TdIn (w : World) (T : List TdE) : Prop := ∀ x ∈ T, PkOk x.1.1 ∧ CellsA w x.1.2.1 (subCells x.1.1.subs)
theorem TdIn.below {w w' : World} {T : List TdE} (h : TdIn w T) (k : Below w.heap.size w w') : TdIn w' T := fun x hx => ⟨(h x hx).1, (h x hx).2.below k⟩
theorem td_range {w : World} {a : Option Addr} {T : List TdE} (h : CellsA w a (tdCells T)) {k : Nat} {x : TdE} (hx : T[k]? = some x) : ∃ b o, a = some ⟨b, o, none⟩ ∧ w.rangeAt b (o + k * 25) (tdC x) ∧ b < w.heap.size := by
  obtain ⟨b, o, e, hj⟩ := CellsA.elem tdC_len h hx (.int .u8 (x.1.1.ty : Int)) rfl
  exact ⟨b, o, e, fun j v hv => hj j v hv, World.block_lt_of_cell? _ _ (hj 0 _ rfl)⟩
theorem td_pk {w : World} {b o : Nat} {x : TdE} (h : w.rangeAt b o (tdC x)) : w.rangeAt b o (pkV x.1.1 x.1.2.1 x.1.2.2).toList := fun j v hv => by
  refine h j v ?_
  unfold tdC
  rw [List.getElem?_append_left]
  · exact hv
  · exact (List.getElem?_eq_some_iff.1 hv).1
set_option maxRecDepth 100000 in
set_option maxHeartbeats 4000000 in
theorem law06_same (a : Option Addr) (cT : Nat) (T : List TdE) (b : Option Addr) (cU : Nat) (U : List TdE) (w : World) (hE : Env w) (ha : CellsA w a (tdCells T)) (hb : CellsA w b (tdCells U)) (hT : TdIn w T) (hU : TdIn w U) (hTU : T.map tp = U.map tp) (hn : T.length ≤ 1000000) : Calls Tryd.prog 22 #[.slice a T.length cT, .slice b U.length cU] w fun e w' => e = .returned (.bool true) ∧ Below w.heap.size w w' := by
  have HTI := Lib.hid hT
  have HUI := Lib.hid hU
  have HRT := Lib.hid ha
  have HRU := Lib.hid hb
  have hlen : U.length = T.length := by have := congrArg List.length hTU; simp at this; omega
  have HEQ := Lib.hid (show ∀ (k : Nat) (x y : TdE), T[k]? = some x → U[k]? = some y → x.1.1 = y.1.1 ∧ x.2 = y.2 from fun k x y hx hy => by
    have h1 : (T.map tp)[k]? = some (tp x) := by rw [List.getElem?_map, hx]; rfl
    rw [hTU, List.getElem?_map, hy] at h1
    injection h1 with h1
    unfold tp at h1
    injection h1 with h1 h2
    exact ⟨h1.symm, h2.symm⟩)
  obtain ⟨RR, hRR⟩ : ∃ RR : Ending → World → Prop, RR = fun e w' => e = .returned (.bool true) ∧ Below w.heap.size w w' := ⟨_, rfl⟩
  have FIN := Lib.hid (show ∀ w', Below w.heap.size w w' → RR (.returned (.bool true)) w' from fun w' hb => by rw [hRR]; exact ⟨rfl, hb⟩)
  rw [← hRR]
  obtain ⟨w9, hw9⟩ : ∃ w9, w9 = w := ⟨_, rfl⟩
  have HK : Keep w [] [] w9 := by rw [hw9]; exact Keep.begin hE _ (by intro r hr; cases hr)
  suffices hgo : Calls Tryd.prog 22 #[.slice a T.length cT, .slice b U.length cU] w9 RR by rw [hw9] at hgo; exact hgo
  clear hw9 hRR hE hT hU ha hb hTU
  go_enter Tryd.func22, Tryd.ntmps22
  refine wp_forget (n := 42) (L := [(1, .slice b U.length cU), (0, .slice a T.length cT)]) (FrL.add (FrL.add (FrL.nil ?_ ?_) _ _ ?_) _ _ ?_) ?_
  iterate 4 rfl
  intro a9 F
  refine wp_seq ?_
  refine wp_region_lit ?_
  refine fr_ch F 1 [(4, .bool false)] (by kernel_rfl) ?_
  clear F a9
  intro a9 F
  refine wpList_nil ?_
  show Code.wp _ _ _ _ _
  replace F := F.cut [(1, .slice b U.length cU), (0, .slice a T.length cT)] (by kernel_rfl)
  refine wp_seq ?_
  refine wp_seq ?_
  refine wp_region_lit ?_
  refine fr_ch F 4 [(9, .int .i64 (U.length : Int)), (8, .slice b U.length cU), (7, .int .i64 (T.length : Int)), (6, .slice a T.length cT)] (by kernel_rfl) ?_
  clear F a9
  intro a9 F
  refine fr_do F (wanted_free rfl) 10 rfl (by decide) (.bool false) (by intro a' F'; have h7 := F'.at' 7 _ rfl; have h9 := F'.at' 9 _ rfl; go_simp) ?_
  clear F a9
  intro a9 F
  refine wpList_nil ?_
  show Code.wp _ _ _ _ _
  refine wp_cond_false (F.ev 10 rfl) ?_
  refine wp_skip ?_
  show Code.wp _ _ _ _ _
  replace F := F.cut [(1, .slice b U.length cU), (0, .slice a T.length cT)] (by kernel_rfl)
  refine wp_seq ?_
  refine wp_seq ?_
  refine wp_region_lit ?_
  refine fr_ch F 1 [(5, .int .i64 0)] (by kernel_rfl) ?_
  clear F a9
  intro a9 F
  refine wpList_nil ?_
  show Code.wp _ _ _ _ _
  replace F := F.cut [(5, .int .i64 0), (1, .slice b U.length cU), (0, .slice a T.length cT)] (by kernel_rfl)
  refine wp_block_end (fun a' w' => FrL 42 [] a' ∧ Keep w [] [] w') ?_ ?_
  · skip
    refine wp_loop (fun a' w' => ∃ (k : Nat), FrL 42 [(5, .int .i64 (k : Int)), (1, .slice b U.length cU), (0, .slice a T.length cT)] a' ∧ Keep w [] [] w' ∧ k ≤ T.length) (fun a' _ => muI T.length 5 a') ⟨0, F, HK, Nat.zero_le _⟩ ?_
    clear HK F a9 w9
    rintro a9 w9 ⟨k, F, HK, hk⟩
    rw [muI_at F 5 k rfl]
    refine wp_seq ?_
    refine wp_seq ?_
    by_cases hlt : k < T.length
    · skip
      refine wp_region_lit ?_
      refine fr_ch F 3 [(13, .int .i64 (T.length : Int)), (12, .slice a T.length cT), (11, .int .i64 (k : Int))] (by kernel_rfl) ?_
      clear F a9
      intro a9 F
      refine fr_do F (wanted_free rfl) 14 rfl (by decide) (.bool true) (by intro a' F'; have h11 := F'.at' 11 _ rfl; have h13 := F'.at' 13 _ rfl; go_simp) ?_
      clear F a9
      intro a9 F
      refine wpList_nil ?_
      show Code.wp _ _ _ _ _
      refine wp_cond_true (F.ev 14 rfl) ?_
      refine wp_skip ?_
      show Code.wp _ _ _ _ _
      replace F := F.cut [(5, .int .i64 (k : Int)), (1, .slice b U.length cU), (0, .slice a T.length cT)] (by kernel_rfl)
      obtain ⟨x, hx⟩ : ∃ x, T[k]? = some x := ⟨_, List.getElem?_eq_getElem hlt⟩
      obtain ⟨y, hy⟩ : ∃ y, U[k]? = some y := ⟨_, List.getElem?_eq_getElem (by omega)⟩
      obtain ⟨he1, he2⟩ := HEQ.out k x y hx hy
      obtain ⟨bb, oo, hal, hrg, hbb⟩ := td_range HRT.out hx
      obtain ⟨b2, o2, hbl, hrg2, hbb2⟩ := td_range HRU.out hy
      have HRG := Lib.hid hrg
      have HRG2 := Lib.hid hrg2
      have HX := Lib.hid (HTI.out x (List.mem_of_getElem? hx))
      have HY := Lib.hid (HUI.out y (List.mem_of_getElem? hy))
      clear hrg hrg2 hx hy
      obtain ⟨⟨p, pa, pc⟩, e⟩ := x
      obtain ⟨⟨q, qa, qc⟩, e2⟩ := y
      simp only at he1 he2
      subst he1 he2
      have hlU : k < U.length := by omega
      have HSM := Lib.hid (show ∀ w9, Env w9 → CellsA w9 pa (subCells p.subs) → CellsA w9 qa (subCells p.subs) → Calls Tryd.prog 24 #[.agg (pkV p pa pc), .agg (pkV p qa qc)] w9 fun e w' => e = .returned (.bool true) ∧ Below w9.heap.size w9 w' from fun w9 h1 h2 h3 => by
        have h4 := ref03_Same p p pa qa pc qc w9 h1 HX.out.1 HX.out.1 h2 h3
        rw [decide_eq_true rfl] at h4
        exact h4)
      refine wp_seq ?_
      refine wp_block_end (fun a' w' => FrL 42 [(5, .int .i64 (k : Int)), (1, .slice b U.length cU), (0, .slice a T.length cT)] a' ∧ Keep w [] [] w') ?_ ?_
      · skip
        refine wp_seq ?_
        refine wp_region_noPanic ?_
        have hb8 : Below w9.heap.size w9 w9.drew := below_draws (n := 1) rfl
        replace HK := HK.below hb8
        clear hb8
        refine AnyT.begin (S := fun w' => w'.rangeAt bb (oo + k * 25) (tdC ((p, pa, pc), e)) ∧ w'.rangeAt b2 (o2 + k * 25) (tdC ((p, qa, qc), e))) (z := 1000) (by kernel_rfl) ⟨range_low HRG.out hbb HK.low, range_low HRG2.out hbb2 HK.low⟩ (fun hS0 => ?_)
        clear hS0
        generalize w9.drew = w8 at *
        clear w9
        rename World => w9
        refine fr_takeG (i := 0) (o := ⟨some 17, _, _, _, _, _⟩) F ⟨range_low HRG.out hbb HK.low, range_low HRG2.out hbb2 HK.low⟩ rfl (wanted_free rfl) 17 rfl (by decide) (.slice a T.length cT) (fun w9 hS => (by intro a' F'; have h0 := F'.at' 0 _ rfl; go_simp)) ?_
        clear F a9
        intro a9 F
        refine fr_takeG (i := 1) (o := ⟨some 18, _, _, _, _, _⟩) F ⟨range_low HRG.out hbb HK.low, range_low HRG2.out hbb2 HK.low⟩ rfl (wanted_free rfl) 18 rfl (by decide) (.int .i64 (k : Int)) (fun w9 hS => (by intro a' F'; have h5 := F'.at' 5 _ rfl; go_simp)) ?_
        clear F a9
        intro a9 F
        refine fr_takeG (i := 2) (o := ⟨some 19, _, _, _, _, _⟩) F ⟨range_low HRG.out hbb HK.low, range_low HRG2.out hbb2 HK.low⟩ rfl (wanted_free rfl) 19 rfl (by decide) (.pointer (some ⟨bb, oo + k * 25, none⟩)) (fun w9 hS => (by intro a' F'; have h17 := F'.at' 17 _ rfl; have h18 := F'.at' 18 _ rfl; go_simp)) ?_
        clear F a9
        intro a9 F
        refine fr_takeG (i := 3) (o := ⟨some 20, _, _, _, _, _⟩) F ⟨range_low HRG.out hbb HK.low, range_low HRG2.out hbb2 HK.low⟩ rfl (wanted_free rfl) 20 rfl (by decide) (.pointer (some ⟨bb, oo + k * 25 + 24, none⟩)) (fun w9 hS => (by intro a' F'; have h19 := F'.at' 19 _ rfl; go_simp)) ?_
        clear F a9
        intro a9 F
        refine fr_takeG (i := 4) (o := ⟨some 21, _, _, _, _, _⟩) F ⟨range_low HRG.out hbb HK.low, range_low HRG2.out hbb2 HK.low⟩ rfl (wanted_free rfl) 21 rfl (by decide) (.int .i64 (e : Int)) (fun w9 hS => (by intro a' F'; have h20 := F'.at' 20 _ rfl; have hc : w9.cell? ⟨bb, oo + k * 25 + 24, none⟩ = some (.int .i64 (e : Int)) := hS.1 24 _ rfl; go_simp)) ?_
        clear F a9
        intro a9 F
        refine fr_takeG (i := 5) (o := ⟨some 22, _, _, _, _, _⟩) F ⟨range_low HRG.out hbb HK.low, range_low HRG2.out hbb2 HK.low⟩ rfl (wanted_free rfl) 22 rfl (by decide) (.slice b U.length cU) (fun w9 hS => (by intro a' F'; have h1 := F'.at' 1 _ rfl; go_simp)) ?_
        clear F a9
        intro a9 F
        refine fr_takeG (i := 6) (o := ⟨some 23, _, _, _, _, _⟩) F ⟨range_low HRG.out hbb HK.low, range_low HRG2.out hbb2 HK.low⟩ rfl (wanted_free rfl) 23 rfl (by decide) (.int .i64 (k : Int)) (fun w9 hS => (by intro a' F'; have h5 := F'.at' 5 _ rfl; go_simp)) ?_
        clear F a9
        intro a9 F
        refine fr_takeG (i := 7) (o := ⟨some 24, _, _, _, _, _⟩) F ⟨range_low HRG.out hbb HK.low, range_low HRG2.out hbb2 HK.low⟩ rfl (wanted_free rfl) 24 rfl (by decide) (.pointer (some ⟨b2, o2 + k * 25, none⟩)) (fun w9 hS => (by intro a' F'; have h22 := F'.at' 22 _ rfl; have h23 := F'.at' 23 _ rfl; go_simp)) ?_
        clear F a9
        intro a9 F
        refine fr_takeG (i := 8) (o := ⟨some 25, _, _, _, _, _⟩) F ⟨range_low HRG.out hbb HK.low, range_low HRG2.out hbb2 HK.low⟩ rfl (wanted_free rfl) 25 rfl (by decide) (.pointer (some ⟨b2, o2 + k * 25 + 24, none⟩)) (fun w9 hS => (by intro a' F'; have h24 := F'.at' 24 _ rfl; go_simp)) ?_
        clear F a9
        intro a9 F
        refine fr_takeG (i := 9) (o := ⟨some 26, _, _, _, _, _⟩) F ⟨range_low HRG.out hbb HK.low, range_low HRG2.out hbb2 HK.low⟩ rfl (wanted_free rfl) 26 rfl (by decide) (.int .i64 (e : Int)) (fun w9 hS => (by intro a' F'; have h25 := F'.at' 25 _ rfl; have hc : w9.cell? ⟨b2, o2 + k * 25 + 24, none⟩ = some (.int .i64 (e : Int)) := hS.2 24 _ rfl; go_simp)) ?_
        clear F a9
        intro a9 F
        refine fr_takeG (i := 10) (o := ⟨some 27, _, _, _, _, _⟩) F ⟨range_low HRG.out hbb HK.low, range_low HRG2.out hbb2 HK.low⟩ rfl (wanted_free rfl) 27 rfl (by decide) (.bool false) (fun w9 hS => (by intro a' F'; have h21 := F'.at' 21 _ rfl; have h26 := F'.at' 26 _ rfl; go_simp)) ?_
        clear F a9
        intro a9 F
        refine fr_takeG (i := 11) (o := ⟨some 28, _, _, _, _, _⟩) F ⟨range_low HRG.out hbb HK.low, range_low HRG2.out hbb2 HK.low⟩ rfl (wanted_free rfl) 28 rfl (by decide) (.bool false) (fun w9 hS => (by intro a' F'; have h27 := F'.at' 27 _ rfl; go_simp)) ?_
        clear F a9
        intro a9 F
        refine fr_takeG (i := 12) (o := ⟨some 29, _, _, _, _, _⟩) F ⟨range_low HRG.out hbb HK.low, range_low HRG2.out hbb2 HK.low⟩ rfl (by rw [wanted_at F rfl (t := 28) (b := false) (by kernel_rfl) rfl]; rfl) 29 rfl (by decide) (.slice a T.length cT) (fun w9 hS => (by intro a' F'; have h0 := F'.at' 0 _ rfl; go_simp)) ?_
        clear F a9
        intro a9 F
        refine fr_takeG (i := 13) (o := ⟨some 30, _, _, _, _, _⟩) F ⟨range_low HRG.out hbb HK.low, range_low HRG2.out hbb2 HK.low⟩ rfl (by rw [wanted_at F rfl (t := 28) (b := false) (by kernel_rfl) rfl]; rfl) 30 rfl (by decide) (.int .i64 (k : Int)) (fun w9 hS => (by intro a' F'; have h5 := F'.at' 5 _ rfl; go_simp)) ?_
        clear F a9
        intro a9 F
        refine fr_takeG (i := 14) (o := ⟨some 31, _, _, _, _, _⟩) F ⟨range_low HRG.out hbb HK.low, range_low HRG2.out hbb2 HK.low⟩ rfl (by rw [wanted_at F rfl (t := 28) (b := false) (by kernel_rfl) rfl]; rfl) 31 rfl (by decide) (.pointer (some ⟨bb, oo + k * 25, none⟩)) (fun w9 hS => (by intro a' F'; have h29 := F'.at' 29 _ rfl; have h30 := F'.at' 30 _ rfl; go_simp)) ?_
        clear F a9
        intro a9 F
        refine fr_takeG (i := 15) (o := ⟨some 32, _, _, _, _, _⟩) F ⟨range_low HRG.out hbb HK.low, range_low HRG2.out hbb2 HK.low⟩ rfl (by rw [wanted_at F rfl (t := 28) (b := false) (by kernel_rfl) rfl]; rfl) 32 rfl (by decide) (.pointer (some ⟨bb, oo + k * 25, none⟩)) (fun w9 hS => (by intro a' F'; have h31 := F'.at' 31 _ rfl; go_simp)) ?_
        clear F a9
        intro a9 F
        refine fr_takeG (i := 16) (o := ⟨some 33, _, _, _, _, _⟩) F ⟨range_low HRG.out hbb HK.low, range_low HRG2.out hbb2 HK.low⟩ rfl (by rw [wanted_at F rfl (t := 28) (b := false) (by kernel_rfl) rfl]; rfl) 33 rfl (by decide) (.agg (pkV p pa pc)) (fun w9 hS => (fun a' F' => run_load_midF 27 _ rfl bb (oo + k * 25) (F'.ev 32 rfl) (pkV p pa pc).toList _ (td_pk hS.1) Tryd.underlying27 rfl infoPk)) ?_
        clear F a9
        intro a9 F
        refine fr_takeG (i := 17) (o := ⟨some 34, _, _, _, _, _⟩) F ⟨range_low HRG.out hbb HK.low, range_low HRG2.out hbb2 HK.low⟩ rfl (by rw [wanted_at F rfl (t := 28) (b := false) (by kernel_rfl) rfl]; rfl) 34 rfl (by decide) (.slice b U.length cU) (fun w9 hS => (by intro a' F'; have h1 := F'.at' 1 _ rfl; go_simp)) ?_
        clear F a9
        intro a9 F
        refine fr_takeG (i := 18) (o := ⟨some 35, _, _, _, _, _⟩) F ⟨range_low HRG.out hbb HK.low, range_low HRG2.out hbb2 HK.low⟩ rfl (by rw [wanted_at F rfl (t := 28) (b := false) (by kernel_rfl) rfl]; rfl) 35 rfl (by decide) (.int .i64 (k : Int)) (fun w9 hS => (by intro a' F'; have h5 := F'.at' 5 _ rfl; go_simp)) ?_
        clear F a9
        intro a9 F
        refine fr_takeG (i := 19) (o := ⟨some 36, _, _, _, _, _⟩) F ⟨range_low HRG.out hbb HK.low, range_low HRG2.out hbb2 HK.low⟩ rfl (by rw [wanted_at F rfl (t := 28) (b := false) (by kernel_rfl) rfl]; rfl) 36 rfl (by decide) (.pointer (some ⟨b2, o2 + k * 25, none⟩)) (fun w9 hS => (by intro a' F'; have h34 := F'.at' 34 _ rfl; have h35 := F'.at' 35 _ rfl; go_simp)) ?_
        clear F a9
        intro a9 F
        refine fr_takeG (i := 20) (o := ⟨some 37, _, _, _, _, _⟩) F ⟨range_low HRG.out hbb HK.low, range_low HRG2.out hbb2 HK.low⟩ rfl (by rw [wanted_at F rfl (t := 28) (b := false) (by kernel_rfl) rfl]; rfl) 37 rfl (by decide) (.pointer (some ⟨b2, o2 + k * 25, none⟩)) (fun w9 hS => (by intro a' F'; have h36 := F'.at' 36 _ rfl; go_simp)) ?_
        clear F a9
        intro a9 F
        refine fr_takeG (i := 21) (o := ⟨some 38, _, _, _, _, _⟩) F ⟨range_low HRG.out hbb HK.low, range_low HRG2.out hbb2 HK.low⟩ rfl (by rw [wanted_at F rfl (t := 28) (b := false) (by kernel_rfl) rfl]; rfl) 38 rfl (by decide) (.agg (pkV p qa qc)) (fun w9 hS => (fun a' F' => run_load_midF 27 _ rfl b2 (o2 + k * 25) (F'.ev 37 rfl) (pkV p qa qc).toList _ (td_pk hS.2) Tryd.underlying27 rfl infoPk)) ?_
        clear F a9
        intro a9 F
        refine fr_stepC (i := 22) (o := ⟨some 39, _, _, _, _, _⟩) F rfl (by rw [wanted_at F rfl (t := 28) (b := false) (by kernel_rfl) rfl]; rfl) 39 rfl (by decide) 24 #[.agg (pkV p pa pc), .agg (pkV p qa qc)] (by intro a' F'; have h33 := F'.at' 33 _ rfl; have h38 := F'.at' 38 _ rfl; go_simp) (HSM.out _ HK.env (HX.out.2.below HK.low) (HY.out.2.below HK.low)) ?_
        rintro e9 w8 ⟨rfl, hb8⟩
        replace HK := HK.below hb8
        clear hb8
        clear w9
        rename World => w9
        refine ⟨_, rfl, ⟨range_low HRG.out hbb HK.low, range_low HRG2.out hbb2 HK.low⟩, ?_⟩
        clear F a9
        intro a9 F
        refine fr_takeG (i := 23) (o := ⟨some 40, _, _, _, _, _⟩) F ⟨range_low HRG.out hbb HK.low, range_low HRG2.out hbb2 HK.low⟩ rfl (by rw [wanted_at F rfl (t := 28) (b := false) (by kernel_rfl) rfl]; rfl) 40 rfl (by decide) (.bool false) (fun w9 hS => (by intro a' F'; have h39 := F'.at' 39 _ rfl; go_simp)) ?_
        clear F a9
        intro a9 F
        refine fr_takeG (i := 24) (o := ⟨some 41, _, _, _, _, _⟩) F ⟨range_low HRG.out hbb HK.low, range_low HRG2.out hbb2 HK.low⟩ rfl (wanted_free rfl) 41 rfl (by decide) (.bool false) (fun w9 hS => (by intro a' F'; have h28 := F'.at' 28 _ rfl; have h40 := F'.at' 40 _ rfl; go_simp)) ?_
        clear F a9
        intro a9 F
        refine AnyT.done (by kernel_rfl) ?_ _
        refine NoPanic.normal ?_
        show Code.wp _ _ _ _ _
        refine wp_cond_false (F.ev 41 rfl) ?_
        refine wp_skip ?_
        exact ⟨((((FrL.nil F.size F.defers).add 0 _ (F.at' 0 _ rfl)).add 1 _ (F.at' 1 _ rfl)).add 5 _ (F.at' 5 _ rfl)), HK⟩
      · clear HK F a9 w9
        rintro a9 w9 ⟨F, HK⟩
        show Code.wp _ _ _ _ _
        refine wp_region_lit ?_
        refine fr_ch F 1 [(15, .int .i64 (k : Int))] (by kernel_rfl) ?_
        clear F a9
        intro a9 F
        refine fr_do F (wanted_free rfl) 16 rfl (by decide) (.int .i64 ((k + 1 : Nat) : Int)) (by intro a' F'; have h15 := F'.at' 15 _ rfl; go_simp <;> (rw [IntKind.wrap_i64]; omega)) ?_
        clear F a9
        intro a9 F
        refine fr_ch F 1 [(5, .int .i64 ((k + 1 : Nat) : Int))] (by kernel_rfl) ?_
        clear F a9
        intro a9 F
        refine wpList_nil ?_
        replace F := F.cut [(5, .int .i64 ((k + 1 : Nat) : Int)), (1, .slice b U.length cU), (0, .slice a T.length cT)] (by kernel_rfl)
        refine ⟨⟨k + 1, F, HK, by omega⟩, ?_⟩
        rw [muI_at F 5 (k + 1) rfl]
        omega
    · have hk2 : k = T.length := by omega
      subst hk2
      refine wp_region_lit ?_
      refine fr_ch F 3 [(13, .int .i64 (T.length : Int)), (11, .int .i64 (T.length : Int))] (by kernel_rfl) ?_
      clear F a9
      intro a9 F
      refine fr_do F (wanted_free rfl) 14 rfl (by decide) (.bool false) (by intro a' F'; have h11 := F'.at' 11 _ rfl; have h13 := F'.at' 13 _ rfl; go_simp) ?_
      clear F a9
      intro a9 F
      refine wpList_nil ?_
      show Code.wp _ _ _ _ _
      refine wp_cond_false (F.ev 14 rfl) ?_
      refine wp_exit ?_
      exact then_exit (then_exit (exit_in ⟨(FrL.nil F.size F.defers), HK⟩))
  · clear HK F a9 w9
    rintro a9 w9 ⟨F, HK⟩
    show Code.wp _ _ _ _ _
    refine wp_seq ?_
    refine wp_region_lit ?_
    refine fr_ch F 1 [(4, .bool true)] (by kernel_rfl) ?_
    clear F a9
    intro a9 F
    refine wpList_nil ?_
    show Code.wp _ _ _ _ _
    refine wp_ret ?_
    exact fr_ret1 F rfl _ rfl (FIN.out _ HK.low)
end Go.Proofs.YtfljdlaelanliaaDoor
