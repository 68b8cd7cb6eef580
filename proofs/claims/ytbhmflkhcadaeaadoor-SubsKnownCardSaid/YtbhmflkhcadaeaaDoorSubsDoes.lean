/- The walk of law15's does: an act on both lists, and what is asked of both behind it. Conditions: both lists are one list, their blocks apart; the decoder's tables lie as Go lays them. -/
import Derived.Test.YtbhmflkhcadaeaaDoorSubsBoth
namespace Go.Proofs.YtbhmflkhcadaeaaDoor
open Go.RowKit

theorem rat_cells {w : World} {B g : Nat} {a : Option Addr} {c : Nat} {S : List Sb} (h : RAt w B g (.slice a S.length c) S) : CellsA w a (subCells S) := by
  obtain ⟨a', c', h1, _, h2⟩ := h.own.form
  injection h1 with e1 _ e2
  subst e1 e2
  exact h2
theorem rat_slice {w : World} {B g : Nat} {v : Value} {S : List Sb} (h : RAt w B g v S) : ∃ a c, v = .slice a S.length c := by
  obtain ⟨a', c', h1, _, h2⟩ := h.own.form
  exact ⟨a', c', h1⟩

set_option maxHeartbeats 4000000 in
set_option maxRecDepth 100000 in
theorem law15_does (B gl gr : Nat) (vl vr : Value) (S : List Sb) (x : Ac) (w : World) (hE : ∀ w', Below B w w' → Env w') (hL : LAt w B gl vl S) (hR : RAt w B gr vr S) (hfar : ∀ k, Foot gl vl k → ¬ Foot gr vr k) (hS : Fine S) (hB : B ≤ w.heap.size)
    (hf : x.f.size ≤ 300) (hn : x.n.size ≤ 300) (hq : x.q < 256) :
    Calls Tryd.prog 12 #[.pointer (some ⟨gl, 0, none⟩), .pointer (some ⟨gr, 0, none⟩), .agg #[.int .u8 (x.d : Int), .string x.f, .int .u8 (x.q : Int), .string x.n]] w (RetDoes B gl gr (actS S x) w) := by
  have HA := Lib.hid (actS_fine hS x hf)
  obtain ⟨d, f, q, n⟩ := x
  dsimp only at *
  have h0 : Below w.heap.size w (w.alloc (.cells #[.int .u8 (d : Int), .string f, .int .u8 (q : Int), .string n] 35)) := (Below.refl _ _).alloc (Nat.le_refl _) _
  have hfl : ∀ k, (Foot gl vl k → k < w.heap.size) ∧ (Foot gr vr k → k < w.heap.size) := fun k => ⟨by
    rintro (e | e)
    · rw [e]; exact hL.blk.lt
    · exact (hL.own.lt e).1, by
    rintro (e | e)
    · rw [e]; exact hR.blk.lt
    · exact (hR.own.lt e).1⟩
  have hb0 : Both (w.alloc (.cells #[.int .u8 (d : Int), .string f, .int .u8 (q : Int), .string n] 35)) B gl gr w.heap.size #[.int .u8 (d : Int), .string f, .int .u8 (q : Int), .string n] 35 vl vr S S :=
    ⟨hL.below h0, hR.below h0, hfar, heap_alloc_new w _, fun e => by have := (hfl _).1 e; omega, fun e => by have := (hfl _).2 e; omega⟩
  have HB := Lib.hid hb0
  have hb : Below B w (w.alloc (.cells #[.int .u8 (d : Int), .string f, .int .u8 (q : Int), .string n] 35)) := h0.mono hB
  clear hb0 h0 hL hR hfar hfl
  obtain ⟨X, hX⟩ : ∃ X, X = w.heap.size := ⟨_, rfl⟩
  have hways : d = 0 ∨ d = 1 ∨ d = 2 ∨ (((d : Int) == 0) = false ∧ ((d : Int) == 1) = false ∧ ((d : Int) == 2) = false ∧ ¬ d = 0 ∧ ¬ d = 1 ∧ ¬ d = 2) := by
    by_cases h0 : d = 0
    · exact Or.inl h0
    · by_cases h1 : d = 1
      · exact Or.inr (Or.inl h1)
      · by_cases h2 : d = 2
        · exact Or.inr (Or.inr (Or.inl h2))
        · refine Or.inr (Or.inr (Or.inr ⟨?_, ?_, ?_, h0, h1, h2⟩)) <;> (rw [beq_eq_false_iff_ne]; omega)
  rcases hways with rfl | rfl | rfl | ⟨h0, h1, h2, h3, h4, h5⟩
  focus
    go_enter Tryd.func12, Tryd.ntmps12
    go_wp2_with fail
    generalize World.alloc w _ = w1 at HB hb ⊢
    refine wp_region_noPanic ?_
    refine wp_region_held_drew (S := fun w' => w'.cell? ⟨w.heap.size, 1, none⟩ = some (.string f) ∧ w'.cell? ⟨w.heap.size, 2, none⟩ = some (.int .u8 (q : Int))) (by kernel_rfl) ?_ (fun hHeld => ?_)
    · (first | exact ⟨HB.out.cell 1 _ rfl, HB.out.cell 2 _ rfl⟩ | exact ⟨(HB.out.below (below_draws (n := 1) rfl)).cell 1 _ rfl, (HB.out.below (below_draws (n := 1) rfl)).cell 2 _ rfl⟩)
    refine wpAnyH_take (i := 0) (oi := ⟨some 15, _, _, _, _, _⟩) (v := ?_) rfl (by kernel_rfl) (by kernel_rfl) (by kernel_rfl) (fun _ _ _ h => h) (Or.inl ⟨by rfl, ?_⟩) (by assumption) ?_
    rotate_left
    · (intro w hSw; (try dsimp only at hSw); go_simp; try with_reducible rfl)
    try simp only [Act.put, List.setIfInBounds_toArray, List.set_cons_zero, List.set_cons_succ]
    refine wpAnyH_take (i := 1) (oi := ⟨some 16, _, _, _, _, _⟩) (v := ?_) rfl (by kernel_rfl) (by kernel_rfl) (by kernel_rfl) (fun _ _ _ h => h) (Or.inl ⟨by rfl, ?_⟩) (by assumption) ?_
    rotate_left
    · (intro w hSw; (try dsimp only at hSw); go_simp; try with_reducible rfl)
    try simp only [Act.put, List.setIfInBounds_toArray, List.set_cons_zero, List.set_cons_succ]
    refine wpAnyH_take (i := 2) (oi := ⟨some 17, _, _, _, _, _⟩) (v := ?_) rfl (by kernel_rfl) (by kernel_rfl) (by kernel_rfl) (fun _ _ _ h => h) (Or.inl ⟨by rfl, ?_⟩) (by assumption) ?_
    rotate_left
    · (intro w hSw; (try dsimp only at hSw); go_simp; try with_reducible rfl)
    try simp only [Act.put, List.setIfInBounds_toArray, List.set_cons_zero, List.set_cons_succ]
    refine wpAnyH_take (i := 3) (oi := ⟨some 18, _, _, _, _, _⟩) (v := ?_) rfl (by kernel_rfl) (by kernel_rfl) (by kernel_rfl) (fun _ _ _ h => h) (Or.inl ⟨by rfl, ?_⟩) (by assumption) ?_
    rotate_left
    · (intro w hSw; (try dsimp only at hSw); go_simp; try with_reducible rfl)
    try simp only [Act.put, List.setIfInBounds_toArray, List.set_cons_zero, List.set_cons_succ]
    refine wpAnyH_take (i := 4) (oi := ⟨some 19, _, _, _, _, _⟩) (v := ?_) rfl (by kernel_rfl) (by kernel_rfl) (by kernel_rfl) (fun _ _ _ h => h) (Or.inl ⟨by rfl, ?_⟩) (by assumption) ?_
    rotate_left
    · (intro w hSw; (try dsimp only at hSw); go_simp; try with_reducible rfl)
    try simp only [Act.put, List.setIfInBounds_toArray, List.set_cons_zero, List.set_cons_succ]
    refine wpAnyH_take (i := 5) (oi := ⟨some 20, _, _, _, _, _⟩) (v := ?_) rfl (by kernel_rfl) (by kernel_rfl) (by kernel_rfl) (fun _ _ _ h => h) (Or.inl ⟨by rfl, ?_⟩) (by assumption) ?_
    rotate_left
    · (intro w hSw; (try dsimp only at hSw); go_simp; try with_reducible rfl)
    try simp only [Act.put, List.setIfInBounds_toArray, List.set_cons_zero, List.set_cons_succ]
    refine wpAnyH_take (i := 6) (oi := ⟨some 21, _, _, _, _, _⟩) (v := ?_) rfl (by kernel_rfl) (by kernel_rfl) (by kernel_rfl) (fun _ _ _ h => h) (Or.inl ⟨by rfl, ?_⟩) (by assumption) ?_
    rotate_left
    · (intro w hSw; (try dsimp only at hSw); go_simp; try with_reducible rfl)
    try simp only [Act.put, List.setIfInBounds_toArray, List.set_cons_zero, List.set_cons_succ]
    refine wpAnyH_take (i := 8) (oi := ⟨some 23, _, _, _, _, _⟩) (v := ?_) rfl (by kernel_rfl) (by kernel_rfl) (by kernel_rfl) (fun _ _ _ h => h) (Or.inl ⟨by rfl, ?_⟩) (by assumption) ?_
    rotate_left
    · (intro w hSw; (try dsimp only at hSw); go_simp; try with_reducible rfl)
    try simp only [Act.put, List.setIfInBounds_toArray, List.set_cons_zero, List.set_cons_succ]
    refine wpAnyH_take (i := 9) (oi := ⟨some 24, _, _, _, _, _⟩) (v := ?_) rfl (by kernel_rfl) (by kernel_rfl) (by kernel_rfl) (fun _ _ _ h => h) (Or.inl ⟨by rfl, ?_⟩) (by assumption) ?_
    rotate_left
    · (intro w hSw; (try dsimp only at hSw); go_simp; try with_reducible rfl)
    try simp only [Act.put, List.setIfInBounds_toArray, List.set_cons_zero, List.set_cons_succ]
    refine wpAnyH_take (i := 10) (oi := ⟨some 25, _, _, _, _, _⟩) (v := ?_) rfl (by kernel_rfl) (by kernel_rfl) (by kernel_rfl) (fun _ _ _ h => h) (Or.inl ⟨by rfl, ?_⟩) (by assumption) ?_
    rotate_left
    · (intro w hSw; (try dsimp only at hSw); go_simp; try with_reducible rfl)
    try simp only [Act.put, List.setIfInBounds_toArray, List.set_cons_zero, List.set_cons_succ]
    refine wpAnyH_take (i := 11) (oi := ⟨some 26, _, _, _, _, _⟩) (v := ?_) rfl (by kernel_rfl) (by kernel_rfl) (by kernel_rfl) (fun _ _ _ h => h) (Or.inl ⟨by rfl, ?_⟩) (by assumption) ?_
    rotate_left
    · (intro w hSw; (try dsimp only at hSw); go_simp; try with_reducible rfl)
    try simp only [Act.put, List.setIfInBounds_toArray, List.set_cons_zero, List.set_cons_succ]
    refine wpAnyH_take (i := 12) (oi := ⟨some 27, _, _, _, _, _⟩) (v := ?_) rfl (by kernel_rfl) (by kernel_rfl) (by kernel_rfl) (fun _ _ _ h => h) (Or.inl ⟨by rfl, ?_⟩) (by assumption) ?_
    rotate_left
    · (intro w hSw; (try dsimp only at hSw); go_simp; try with_reducible rfl)
    try simp only [Act.put, List.setIfInBounds_toArray, List.set_cons_zero, List.set_cons_succ]
    refine wpAnyH_take (i := 13) (oi := ⟨some 28, _, _, _, _, _⟩) (v := ?_) rfl (by kernel_rfl) (by kernel_rfl) (by kernel_rfl) (fun _ _ _ h => h) (Or.inl ⟨by rfl, ?_⟩) (by assumption) ?_
    rotate_left
    · (intro w hSw; (try dsimp only at hSw); go_simp; try with_reducible rfl)
    try simp only [Act.put, List.setIfInBounds_toArray, List.set_cons_zero, List.set_cons_succ]
    refine wpAnyH_take (i := 14) (oi := ⟨some 29, _, _, _, _, _⟩) (v := ?_) rfl (by kernel_rfl) (by kernel_rfl) (by kernel_rfl) (fun _ _ _ h => h) (Or.inl ⟨by rfl, ?_⟩) (by assumption) ?_
    rotate_left
    · (intro w hSw; (try dsimp only at hSw); go_simp; try with_reducible rfl)
    try simp only [Act.put, List.setIfInBounds_toArray, List.set_cons_zero, List.set_cons_succ]
    refine wpAnyH_ready (rs := [7]) (by kernel_rfl) (by simp) ?_
    refine AllReadyH.cons (o := ⟨some 22, _, _, _, _, _⟩) rfl (fun K hK => ?_) AllReadyH.nil
    go_simp
    (go_at_call 20; refine Calls.mono (both_SetL (hE _ (below_add hb 1)) HB.out.drew hS (Nat.le_trans hB hb.size) hf hq) ?_; rintro e w2 ⟨vl2, rfl, h1, h2⟩; replace h2 := drew_below h2; replace HB := Lib.hid h1; replace hb := hb.trans h2; clear h1 h2; go_simp)
    refine hK.out _ _ ?_ (fun hHeld => ?_)
    · (first | exact ⟨HB.out.cell 1 _ rfl, HB.out.cell 2 _ rfl⟩ | exact ⟨(HB.out.below (below_draws (n := 1) rfl)).cell 1 _ rfl, (HB.out.below (below_draws (n := 1) rfl)).cell 2 _ rfl⟩)
    clear hK K
    try simp only [Act.put, List.setIfInBounds_toArray, List.set_cons_zero, List.set_cons_succ]
    refine wpAnyH_ready (rs := [15]) (by kernel_rfl) (by simp) ?_
    refine AllReadyH.cons (o := ⟨some 30, _, _, _, _, _⟩) rfl (fun K hK => ?_) AllReadyH.nil
    go_simp
    (go_at_call 27; refine Calls.mono (both_SetR HB.out hS (Nat.le_trans hB hb.size) hf hq) ?_; rintro e w2 ⟨vr2, rfl, h1, h2⟩; replace HB := Lib.hid h1; replace hb := hb.trans h2; clear h1 h2; go_simp)
    refine hK.out _ _ ?_ (fun hHeld => ?_)
    · (first | exact ⟨HB.out.cell 1 _ rfl, HB.out.cell 2 _ rfl⟩ | exact ⟨(HB.out.below (below_draws (n := 1) rfl)).cell 1 _ rfl, (HB.out.below (below_draws (n := 1) rfl)).cell 2 _ rfl⟩)
    clear hK K
    try simp only [Act.put, List.setIfInBounds_toArray, List.set_cons_zero, List.set_cons_succ]
    refine wpAnyH_take (i := 16) (oi := ⟨some 31, _, _, _, _, _⟩) (v := ?_) rfl (by kernel_rfl) (by kernel_rfl) (by kernel_rfl) (fun _ _ _ h => h) (Or.inl ⟨by rfl, ?_⟩) (by assumption) ?_
    rotate_left
    · (intro w hSw; (try dsimp only at hSw); go_simp; try with_reducible rfl)
    try simp only [Act.put, List.setIfInBounds_toArray, List.set_cons_zero, List.set_cons_succ]
    refine wpAnyH_done (by kernel_rfl) ?_ _
    refine NoPanic.normal ?_
    have hc3 := HB.out.cell 3 _ rfl
    go_wp2_with fail
    obtain ⟨vl', vr', S', ob, hS', hob, HB'⟩ : ∃ vl' vr' S' ob, S' = actS S ⟨0, f, q, n⟩ ∧ ob[3]? = some (Value.string n) ∧ Hid (Both _ B gl gr w.heap.size ob 35 vl' vr' S' S') := ⟨_, _, _, _, rfl, rfl, HB.out⟩
    clear HB
  rotate_left
  focus
    go_enter Tryd.func12, Tryd.ntmps12
    go_wp2_with fail
    generalize World.alloc w _ = w1 at HB hb ⊢
    refine wp_region_noPanic ?_
    refine wp_region_held_drew (S := fun w' => w'.cell? ⟨w.heap.size, 1, none⟩ = some (.string f)) (by kernel_rfl) ?_ (fun hHeld => ?_)
    · (first | exact HB.out.cell 1 _ rfl | exact (HB.out.below (below_draws (n := 1) rfl)).cell 1 _ rfl)
    refine wpAnyH_take (i := 0) (oi := ⟨some 34, _, _, _, _, _⟩) (v := ?_) rfl (by kernel_rfl) (by kernel_rfl) (by kernel_rfl) (fun _ _ _ h => h) (Or.inl ⟨by rfl, ?_⟩) (by assumption) ?_
    rotate_left
    · (intro w hSw; (try dsimp only at hSw); go_simp; try with_reducible rfl)
    try simp only [Act.put, List.setIfInBounds_toArray, List.set_cons_zero, List.set_cons_succ]
    refine wpAnyH_take (i := 1) (oi := ⟨some 35, _, _, _, _, _⟩) (v := ?_) rfl (by kernel_rfl) (by kernel_rfl) (by kernel_rfl) (fun _ _ _ h => h) (Or.inl ⟨by rfl, ?_⟩) (by assumption) ?_
    rotate_left
    · (intro w hSw; (try dsimp only at hSw); go_simp; try with_reducible rfl)
    try simp only [Act.put, List.setIfInBounds_toArray, List.set_cons_zero, List.set_cons_succ]
    refine wpAnyH_take (i := 2) (oi := ⟨some 36, _, _, _, _, _⟩) (v := ?_) rfl (by kernel_rfl) (by kernel_rfl) (by kernel_rfl) (fun _ _ _ h => h) (Or.inl ⟨by rfl, ?_⟩) (by assumption) ?_
    rotate_left
    · (intro w hSw; (try dsimp only at hSw); go_simp; try with_reducible rfl)
    try simp only [Act.put, List.setIfInBounds_toArray, List.set_cons_zero, List.set_cons_succ]
    refine wpAnyH_take (i := 3) (oi := ⟨some 37, _, _, _, _, _⟩) (v := ?_) rfl (by kernel_rfl) (by kernel_rfl) (by kernel_rfl) (fun _ _ _ h => h) (Or.inl ⟨by rfl, ?_⟩) (by assumption) ?_
    rotate_left
    · (intro w hSw; (try dsimp only at hSw); go_simp; try with_reducible rfl)
    try simp only [Act.put, List.setIfInBounds_toArray, List.set_cons_zero, List.set_cons_succ]
    refine wpAnyH_take (i := 5) (oi := ⟨some 39, _, _, _, _, _⟩) (v := ?_) rfl (by kernel_rfl) (by kernel_rfl) (by kernel_rfl) (fun _ _ _ h => h) (Or.inl ⟨by rfl, ?_⟩) (by assumption) ?_
    rotate_left
    · (intro w hSw; (try dsimp only at hSw); go_simp; try with_reducible rfl)
    try simp only [Act.put, List.setIfInBounds_toArray, List.set_cons_zero, List.set_cons_succ]
    refine wpAnyH_take (i := 6) (oi := ⟨some 40, _, _, _, _, _⟩) (v := ?_) rfl (by kernel_rfl) (by kernel_rfl) (by kernel_rfl) (fun _ _ _ h => h) (Or.inl ⟨by rfl, ?_⟩) (by assumption) ?_
    rotate_left
    · (intro w hSw; (try dsimp only at hSw); go_simp; try with_reducible rfl)
    try simp only [Act.put, List.setIfInBounds_toArray, List.set_cons_zero, List.set_cons_succ]
    refine wpAnyH_take (i := 7) (oi := ⟨some 41, _, _, _, _, _⟩) (v := ?_) rfl (by kernel_rfl) (by kernel_rfl) (by kernel_rfl) (fun _ _ _ h => h) (Or.inl ⟨by rfl, ?_⟩) (by assumption) ?_
    rotate_left
    · (intro w hSw; (try dsimp only at hSw); go_simp; try with_reducible rfl)
    try simp only [Act.put, List.setIfInBounds_toArray, List.set_cons_zero, List.set_cons_succ]
    refine wpAnyH_take (i := 8) (oi := ⟨some 42, _, _, _, _, _⟩) (v := ?_) rfl (by kernel_rfl) (by kernel_rfl) (by kernel_rfl) (fun _ _ _ h => h) (Or.inl ⟨by rfl, ?_⟩) (by assumption) ?_
    rotate_left
    · (intro w hSw; (try dsimp only at hSw); go_simp; try with_reducible rfl)
    try simp only [Act.put, List.setIfInBounds_toArray, List.set_cons_zero, List.set_cons_succ]
    refine wpAnyH_ready (rs := [4]) (by kernel_rfl) (by simp) ?_
    refine AllReadyH.cons (o := ⟨some 38, _, _, _, _, _⟩) rfl (fun K hK => ?_) AllReadyH.nil
    go_simp
    (go_at_call 21; refine Calls.mono (both_DropL (f := f) HB.out.drew hS (Nat.le_trans hB hb.size)) ?_; rintro e w2 ⟨vl2, rfl, h1, h2⟩; replace h2 := drew_below h2; replace HB := Lib.hid h1; replace hb := hb.trans h2; clear h1 h2; go_simp)
    refine hK.out _ _ ?_ (fun hHeld => ?_)
    · (first | exact HB.out.cell 1 _ rfl | exact (HB.out.below (below_draws (n := 1) rfl)).cell 1 _ rfl)
    clear hK K
    try simp only [Act.put, List.setIfInBounds_toArray, List.set_cons_zero, List.set_cons_succ]
    refine wpAnyH_ready (rs := [9]) (by kernel_rfl) (by simp) ?_
    refine AllReadyH.cons (o := ⟨some 43, _, _, _, _, _⟩) rfl (fun K hK => ?_) AllReadyH.nil
    go_simp
    (go_at_call 28; refine Calls.mono (both_DropR (f := f) HB.out hS (Nat.le_trans hB hb.size)) ?_; rintro e w2 ⟨vr2, rfl, h1, h2⟩; replace HB := Lib.hid h1; replace hb := hb.trans h2; clear h1 h2; go_simp)
    refine hK.out _ _ ?_ (fun hHeld => ?_)
    · (first | exact HB.out.cell 1 _ rfl | exact (HB.out.below (below_draws (n := 1) rfl)).cell 1 _ rfl)
    clear hK K
    try simp only [Act.put, List.setIfInBounds_toArray, List.set_cons_zero, List.set_cons_succ]
    refine wpAnyH_take (i := 10) (oi := ⟨some 44, _, _, _, _, _⟩) (v := ?_) rfl (by kernel_rfl) (by kernel_rfl) (by kernel_rfl) (fun _ _ _ h => h) (Or.inl ⟨by rfl, ?_⟩) (by assumption) ?_
    rotate_left
    · (intro w hSw; (try dsimp only at hSw); go_simp; try with_reducible rfl)
    try simp only [Act.put, List.setIfInBounds_toArray, List.set_cons_zero, List.set_cons_succ]
    refine wpAnyH_done (by kernel_rfl) ?_ _
    refine NoPanic.normal ?_
    have hc3 := HB.out.cell 3 _ rfl
    go_wp2_with fail
    obtain ⟨vl', vr', S', ob, hS', hob, HB'⟩ : ∃ vl' vr' S' ob, S' = actS S ⟨1, f, q, n⟩ ∧ ob[3]? = some (Value.string n) ∧ Hid (Both _ B gl gr w.heap.size ob 35 vl' vr' S' S') := ⟨_, _, _, _, rfl, rfl, HB.out⟩
    clear HB
  rotate_left
  focus
    go_enter Tryd.func12, Tryd.ntmps12
    go_wp2_with (first
      | (go_at_call 22; refine Calls.mono (both_ClearL HB.out hS (Nat.le_trans hB hb.size)) ?_; rintro e w2 ⟨a1, c1, rfl, ho1, h1, h2⟩; replace HB := Lib.hid h1; replace hb := hb.trans h2; have HO1 := Lib.hid ho1; clear h1 h2 ho1)
      | (go_at_call 29; refine Calls.mono (both_ClearR HB.out hS (Nat.le_trans hB hb.size)) ?_; rintro e w3 ⟨a2, c2, rfl, ho2, h1, h2, h3⟩; have HO2 := Lib.hid (And.intro ho2 (own_only HO1.out h3 (fun r hr => fun hF => (by rcases hF with hF | hF; exact OneAt.ne_own HB.out.r.blk HO1.out (by decide) (hF ▸ hr); exact row_ne_own HB.out.r.own HO1.out (by decide) r hr hF)))); replace HB := Lib.hid h1; replace hb := hb.trans h2; clear h1 h2 h3 ho2)
      | (go_at_call 23; refine Calls.mono (same_texts hS.few HO2.out.2 HO2.out.1) ?_; rintro e w4 ⟨rfl, h2⟩; replace HB := Lib.hid (HB.out.below h2); replace hb := Below.up h2 hb hB; clear h2 HO1 HO2; have hc3 := HB.out.cell 3 _ rfl))
    obtain ⟨vl', vr', S', ob, hS', hob, HB'⟩ : ∃ vl' vr' S' ob, S' = actS S ⟨2, f, q, n⟩ ∧ ob[3]? = some (Value.string n) ∧ Hid (Both _ B gl gr w.heap.size ob 35 vl' vr' S' S') := ⟨_, _, _, _, rfl, rfl, HB.out⟩
    clear HB
  rotate_left
  focus
    go_enter Tryd.func12, Tryd.ntmps12
    have hc3 := HB.out.cell 3 _ rfl
    go_wp2_with fail
    obtain ⟨vl', vr', S', ob, hS', hob, HB'⟩ : ∃ vl' vr' S' ob, S' = actS S ⟨d, f, q, n⟩ ∧ ob[3]? = some (Value.string n) ∧ Hid (Both _ B gl gr w.heap.size ob 35 vl' vr' S' S') := ⟨_, _, _, _, (by unfold actS; rw [if_neg h3, if_neg h4, if_neg h5]), rfl, HB.out⟩
    clear HB
  rotate_left
  all_goals
    have HF := Lib.hid (show Fine S' from hS' ▸ HA.out)
    have HR := Lib.hid (rat_slice HB'.out.r)
    have HQ := Lib.hid hS'
    clear hS'
    go_at_call 19
    refine Calls.mono (subs_Best B gl _ _ n _ (hE _ hb) HB'.out.l HF.out (by omega)) ?_
    rintro e w9 ⟨rfl, h9⟩
    replace HB' := Lib.hid (HB'.out.below h9)
    replace hb := Below.up h9 hb hB
    clear h9 hc3
    have hc3 := HB'.out.cell 3 _ hob
    go_wp2_with fail
    go_at_call 30
    refine Calls.mono (ref15_Best B gr _ _ n _ HB'.out.r HF.out (by omega)) ?_
    rintro e w10 ⟨rfl, h9⟩
    replace HB' := Lib.hid (HB'.out.below h9)
    replace hb := Below.up h9 hb hB
    clear h9
    go_wp2_with fail
    obtain ⟨ar, cr, hvr⟩ := HR.out
    subst hvr
    have HB := HB'
    clear HB' hc3
    refine wp_region_noPanic ?_
    refine wp_region_held_drew (S := fun w' => w'.cell? ⟨gr, 0, none⟩ = some (.slice ar S'.length cr)) (by kernel_rfl) ?_ (fun hHeld => ?_)
    · (first | exact HB.out.r.blk.cell | exact (HB.out.below (below_draws (n := 1) rfl)).r.blk.cell)
    refine wpAnyH_take (i := 0) (oi := ⟨some 67, _, _, _, _, _⟩) (v := ?_) rfl (by kernel_rfl) (by kernel_rfl) (by kernel_rfl) (fun _ _ _ h => h) (Or.inl ⟨by rfl, ?_⟩) (by assumption) ?_
    rotate_left
    · (intro w hSw; (try dsimp only at hSw); go_simp; try with_reducible rfl)
    try simp only [Act.put, List.setIfInBounds_toArray, List.set_cons_zero, List.set_cons_succ]
    refine wpAnyH_take (i := 1) (oi := ⟨some 68, _, _, _, _, _⟩) (v := ?_) rfl (by kernel_rfl) (by kernel_rfl) (by kernel_rfl) (fun _ _ _ h => h) (Or.inl ⟨by rfl, ?_⟩) (by assumption) ?_
    rotate_left
    · (intro w hSw; (try dsimp only at hSw); go_simp; try with_reducible rfl)
    try simp only [Act.put, List.setIfInBounds_toArray, List.set_cons_zero, List.set_cons_succ]
    refine wpAnyH_take (i := 2) (oi := ⟨some 69, _, _, _, _, _⟩) (v := ?_) rfl (by kernel_rfl) (by kernel_rfl) (by kernel_rfl) (fun _ _ _ h => h) (Or.inl ⟨by rfl, ?_⟩) (by assumption) ?_
    rotate_left
    · (intro w hSw; (try dsimp only at hSw); go_simp; try with_reducible rfl)
    try simp only [Act.put, List.setIfInBounds_toArray, List.set_cons_zero, List.set_cons_succ]
    refine wpAnyH_take (i := 3) (oi := ⟨some 70, _, _, _, _, _⟩) (v := ?_) rfl (by kernel_rfl) (by kernel_rfl) (by kernel_rfl) (fun _ _ _ h => h) (Or.inl ⟨by rfl, ?_⟩) (by assumption) ?_
    rotate_left
    · (intro w hSw; (try dsimp only at hSw); go_simp; try with_reducible rfl)
    try simp only [Act.put, List.setIfInBounds_toArray, List.set_cons_zero, List.set_cons_succ]
    refine wpAnyH_take (i := 4) (oi := ⟨some 71, _, _, _, _, _⟩) (v := ?_) rfl (by kernel_rfl) (by kernel_rfl) (by kernel_rfl) (fun _ _ _ h => h) (Or.inl ⟨by rfl, ?_⟩) (by assumption) ?_
    rotate_left
    · (intro w hSw; (try dsimp only at hSw); go_simp; try with_reducible rfl)
    try simp only [Act.put, List.setIfInBounds_toArray, List.set_cons_zero, List.set_cons_succ]
    refine wpAnyH_take (i := 5) (oi := ⟨some 72, _, _, _, _, _⟩) (v := ?_) rfl (by kernel_rfl) (by kernel_rfl) (by kernel_rfl) (fun _ _ _ h => h) (Or.inl ⟨by rfl, ?_⟩) (by assumption) ?_
    rotate_left
    · (intro w hSw; (try dsimp only at hSw); go_simp; try with_reducible rfl)
    try simp only [Act.put, List.setIfInBounds_toArray, List.set_cons_zero, List.set_cons_succ]
    refine wpAnyH_take (i := 6) (oi := ⟨some 73, _, _, _, _, _⟩) (v := ?_) rfl (by kernel_rfl) (by kernel_rfl) (by kernel_rfl) (fun _ _ _ h => h) (Or.inl ⟨by rfl, ?_⟩) (by assumption) ?_
    rotate_left
    · (intro w hSw; (try dsimp only at hSw); go_simp; try with_reducible rfl)
    try simp only [Act.put, List.setIfInBounds_toArray, List.set_cons_zero, List.set_cons_succ]
    refine wpAnyH_take (i := 7) (oi := ⟨some 74, _, _, _, _, _⟩) (v := ?_) rfl (by kernel_rfl) (by kernel_rfl) (by kernel_rfl) (fun _ _ _ h => h) (Or.inl ⟨by rfl, ?_⟩) (by assumption) ?_
    rotate_left
    · (intro w hSw; (try dsimp only at hSw); go_simp; try with_reducible rfl)
    try simp only [Act.put, List.setIfInBounds_toArray, List.set_cons_zero, List.set_cons_succ]
    refine wpAnyH_take (i := 8) (oi := ⟨some 75, _, _, _, _, _⟩) (v := ?_) rfl (by kernel_rfl) (by kernel_rfl) (by kernel_rfl) (fun _ _ _ h => h) (Or.inl ⟨by rfl, ?_⟩) (by assumption) ?_
    rotate_left
    · (intro w hSw; (try dsimp only at hSw); go_simp; try with_reducible rfl)
    try simp only [Act.put, List.setIfInBounds_toArray, List.set_cons_zero, List.set_cons_succ]
    refine wpAnyH_take (i := 9) (oi := ⟨some 76, _, _, _, _, _⟩) (v := ?_) rfl (by kernel_rfl) (by kernel_rfl) (by kernel_rfl) (fun _ _ _ h => h) (Or.inl ⟨by rfl, ?_⟩) (by assumption) ?_
    rotate_left
    · (intro w hSw; (try dsimp only at hSw); go_simp; try with_reducible rfl)
    try simp only [Act.put, List.setIfInBounds_toArray, List.set_cons_zero, List.set_cons_succ]
    refine wpAnyH_take (i := 11) (oi := ⟨some 78, _, _, _, _, _⟩) (v := ?_) rfl (by kernel_rfl) (by kernel_rfl) (by kernel_rfl) (fun _ _ _ h => h) (Or.inl ⟨by rfl, ?_⟩) (by assumption) ?_
    rotate_left
    · (intro w hSw; (try dsimp only at hSw); go_simp; try with_reducible rfl)
    try simp only [Act.put, List.setIfInBounds_toArray, List.set_cons_zero, List.set_cons_succ]
    refine wpAnyH_take (i := 12) (oi := ⟨some 79, _, _, _, _, _⟩) (v := ?_) rfl (by kernel_rfl) (by kernel_rfl) (by kernel_rfl) (fun _ _ _ h => h) (Or.inl ⟨by rfl, ?_⟩) (by assumption) ?_
    rotate_left
    · (intro w hSw; (try dsimp only at hSw); go_simp; try with_reducible rfl)
    try simp only [Act.put, List.setIfInBounds_toArray, List.set_cons_zero, List.set_cons_succ]
    refine wpAnyH_take (i := 13) (oi := ⟨some 80, _, _, _, _, _⟩) (v := ?_) rfl (by kernel_rfl) (by kernel_rfl) (by kernel_rfl) (fun _ _ _ h => h) (Or.inl ⟨by rfl, ?_⟩) (by assumption) ?_
    rotate_left
    · (intro w hSw; (try dsimp only at hSw); go_simp; try with_reducible rfl)
    try simp only [Act.put, List.setIfInBounds_toArray, List.set_cons_zero, List.set_cons_succ]
    refine wpAnyH_take (i := 14) (oi := ⟨some 81, _, _, _, _, _⟩) (v := ?_) rfl (by kernel_rfl) (by kernel_rfl) (by kernel_rfl) (fun _ _ _ h => h) (Or.inl ⟨by rfl, ?_⟩) (by assumption) ?_
    rotate_left
    · (intro w hSw; (try dsimp only at hSw); go_simp; try with_reducible rfl)
    try simp only [Act.put, List.setIfInBounds_toArray, List.set_cons_zero, List.set_cons_succ]
    refine wpAnyH_ready (rs := [10]) (by kernel_rfl) (by simp) ?_
    refine AllReadyH.cons (o := ⟨some 77, _, _, _, _, _⟩) rfl (fun K hK => ?_) AllReadyH.nil
    go_simp
    (go_at_call 14; refine Calls.mono (subs_Subs B gl vl' S' _ HB.out.drew.l HF.out.few) ?_; rintro e w2 ⟨v1, rfl, ho, h2⟩; obtain ⟨a1, c1, rfl, _, hc1⟩ := own_form ho; replace HB := Lib.hid (HB.out.drew.below h2); replace hb := Below.up (Below.then (below_draws (n := 1) rfl) h2) hb hB; clear h2 ho; go_simp)
    refine hK.out _ _ ?_ (fun hHeld => ?_)
    · (first | exact HB.out.r.blk.cell | exact (HB.out.below (below_draws (n := 1) rfl)).r.blk.cell)
    clear hK K
    try simp only [Act.put, List.setIfInBounds_toArray, List.set_cons_zero, List.set_cons_succ]
    refine wpAnyH_ready (rs := [15]) (by kernel_rfl) (by simp) ?_
    refine AllReadyH.cons (o := ⟨some 82, _, _, _, _, _⟩) rfl (fun K hK => ?_) AllReadyH.nil
    go_simp
    (go_at_call 17; refine Calls.mono (same_self HF.out.few hc1 (rat_cells HB.out.r)) ?_; rintro e w2 ⟨rfl, h2⟩; replace HB := Lib.hid (HB.out.below h2); replace hb := Below.up h2 hb hB; clear h2; go_simp)
    refine hK.out _ _ ?_ (fun hHeld => ?_)
    · (first | exact HB.out.r.blk.cell | exact (HB.out.below (below_draws (n := 1) rfl)).r.blk.cell)
    clear hK K
    try simp only [Act.put, List.setIfInBounds_toArray, List.set_cons_zero, List.set_cons_succ]
    refine wpAnyH_take (i := 16) (oi := ⟨some 83, _, _, _, _, _⟩) (v := ?_) rfl (by kernel_rfl) (by kernel_rfl) (by kernel_rfl) (fun _ _ _ h => h) (Or.inl ⟨by rfl, ?_⟩) (by assumption) ?_
    rotate_left
    · (intro w hSw; (try dsimp only at hSw); go_simp; try with_reducible rfl)
    try simp only [Act.put, List.setIfInBounds_toArray, List.set_cons_zero, List.set_cons_succ]
    refine wpAnyH_take (i := 17) (oi := ⟨some 6, _, _, _, _, _⟩) (v := ?_) rfl (by kernel_rfl) (by kernel_rfl) (by kernel_rfl) (fun _ _ _ h => h) (Or.inl ⟨by rfl, ?_⟩) (by assumption) ?_
    rotate_left
    · (intro w hSw; (try dsimp only at hSw); go_simp; try with_reducible rfl)
    try simp only [Act.put, List.setIfInBounds_toArray, List.set_cons_zero, List.set_cons_succ]
    refine wpAnyH_done (by kernel_rfl) ?_ _
    refine NoPanic.normal ?_
    go_wp2_with fail
    go_ret
    exact ⟨_, _, rfl, HQ.out ▸ HB.out.l, HQ.out ▸ HB.out.r, HB.out.far, hb⟩
end Go.Proofs.YtbhmflkhcadaeaaDoor
