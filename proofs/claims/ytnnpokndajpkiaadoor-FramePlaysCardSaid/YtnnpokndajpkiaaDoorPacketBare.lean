import Derived.Test.YtnnpokndajpkiaaDoorJoinH
namespace Go.Proofs.YtnnpokndajpkiaaDoor
open Go.RowKit
theorem pk_one (p : Pk) (a : Option Addr) (c : Nat) : (pkV p a c).all (·.oneCell') = true := by unfold pkV; simp [Value.oneCell']
theorem only_ty (p : Pk) : (onlyF p).ty = p.ty := by unfold onlyF; (repeat' split) <;> rfl
theorem pk_typed (p : Pk) {w : World} {X : Nat} (h : BoxAt w X (pkV { (onlyF p) with ty := 0 } none 0) 40) : BoxAt (w.setCell ⟨X, 0, none⟩ (.int .u8 (p.ty : Int))) X (pkV (onlyF p) none 0) 40 := by
  have h2 := h.set 0 (.int .u8 (p.ty : Int)); have e : (pkV { (onlyF p) with ty := 0 } none 0).setIfInBounds 0 (.int .u8 (p.ty : Int)) = pkV (onlyF p) none 0 := by
    unfold pkV; rw [only_ty p]; rfl
  rwa [e] at h2
inductive Way (p : Pk) : Prop where
  | t1 : ¬ (0 : Int) < (p.subs.length : Int) → ((p.ty : Int) == 1) = true → onlyF p = { Pk.zero with ty := p.ty, level := p.level, clean := p.clean, keep := p.keep, client := p.client, hasWill := p.hasWill, wtopic := p.wtopic, wpayload := p.wpayload, wqos := p.wqos, wret := p.wret, hasUser := p.hasUser, hasPass := p.hasPass, user := p.user, pass := p.pass } → Way p
  | t2 : ¬ (0 : Int) < (p.subs.length : Int) → ((p.ty : Int) == 1) = false → ((p.ty : Int) == 2) = true → onlyF p = { Pk.zero with ty := p.ty, present := p.present, code := p.code } → Way p
  | t3 : ¬ (0 : Int) < (p.subs.length : Int) → ((p.ty : Int) == 1) = false → ((p.ty : Int) == 2) = false → ((p.ty : Int) == 3) = true → onlyF p = { Pk.zero with ty := p.ty, dup := p.dup, qos := p.qos, ret := p.ret, id := p.id, topic := p.topic, payload := p.payload } → Way p
  | t9 : ¬ (0 : Int) < (p.subs.length : Int) → ((p.ty : Int) == 1) = false → ((p.ty : Int) == 2) = false → ((p.ty : Int) == 3) = false → ((p.ty : Int) == 9) = true → onlyF p = { Pk.zero with ty := p.ty, id := p.id, codes := p.codes } → Way p
  | t12 : ¬ (0 : Int) < (p.subs.length : Int) → ((p.ty : Int) == 1) = false → ((p.ty : Int) == 2) = false → ((p.ty : Int) == 3) = false → ((p.ty : Int) == 9) = false → ((p.ty : Int) == 12) = true → onlyF p = { Pk.zero with ty := p.ty } → Way p
  | t13 : ¬ (0 : Int) < (p.subs.length : Int) → ((p.ty : Int) == 1) = false → ((p.ty : Int) == 2) = false → ((p.ty : Int) == 3) = false → ((p.ty : Int) == 9) = false → ((p.ty : Int) == 12) = false → ((p.ty : Int) == 13) = true → onlyF p = { Pk.zero with ty := p.ty } → Way p
  | t14 : ¬ (0 : Int) < (p.subs.length : Int) → ((p.ty : Int) == 1) = false → ((p.ty : Int) == 2) = false → ((p.ty : Int) == 3) = false → ((p.ty : Int) == 9) = false → ((p.ty : Int) == 12) = false → ((p.ty : Int) == 13) = false → ((p.ty : Int) == 14) = true → onlyF p = { Pk.zero with ty := p.ty } → Way p
  | o0 : ¬ (0 : Int) < (p.subs.length : Int) → ((p.ty : Int) == 1) = false → ((p.ty : Int) == 2) = false → ((p.ty : Int) == 3) = false → ((p.ty : Int) == 9) = false → ((p.ty : Int) == 12) = false → ((p.ty : Int) == 13) = false → ((p.ty : Int) == 14) = false → onlyF p = { Pk.zero with ty := p.ty, id := p.id } → Way p
  | o8 : (0 : Int) < (p.subs.length : Int) → ((p.ty : Int) != 8) = false → ((p.ty : Int) == 1) = false → ((p.ty : Int) == 2) = false → ((p.ty : Int) == 3) = false → ((p.ty : Int) == 9) = false → ((p.ty : Int) == 12) = false → ((p.ty : Int) == 13) = false → ((p.ty : Int) == 14) = false → onlyF p = { Pk.zero with ty := p.ty, id := p.id } → Way p
  | o10 : (0 : Int) < (p.subs.length : Int) → ((p.ty : Int) != 8) = true → ((p.ty : Int) != 10) = false → ((p.ty : Int) == 1) = false → ((p.ty : Int) == 2) = false → ((p.ty : Int) == 3) = false → ((p.ty : Int) == 9) = false → ((p.ty : Int) == 12) = false → ((p.ty : Int) == 13) = false → ((p.ty : Int) == 14) = false → onlyF p = { Pk.zero with ty := p.ty, id := p.id } → Way p
theorem way_of (p : Pk) (h : p.subs = [] ∨ p.ty = 8 ∨ p.ty = 10) : Way p := by
  have hb : ∀ n : Nat, p.ty ≠ n → ((p.ty : Int) == (n : Int)) = false := fun n hn => by rw [beq_eq_false_iff_ne]; omega
  have ht : ∀ n : Nat, p.ty = n → ((p.ty : Int) == (n : Int)) = true := fun n hn => by rw [beq_iff_eq]; omega
  by_cases h1 : p.ty = 1
  · have hs : ¬ (0 : Int) < (p.subs.length : Int) := by
      rcases h with h | h | h
      · rw [h]; simp
      · omega
      · omega
    exact .t1 hs  (ht 1 h1) (by unfold onlyF; simp [h1])
  by_cases h2 : p.ty = 2
  · have hs : ¬ (0 : Int) < (p.subs.length : Int) := by
      rcases h with h | h | h
      · rw [h]; simp
      · omega
      · omega
    exact .t2 hs (hb 1 (by omega)) (ht 2 h2) (by unfold onlyF; simp [h2])
  by_cases h3 : p.ty = 3
  · have hs : ¬ (0 : Int) < (p.subs.length : Int) := by
      rcases h with h | h | h
      · rw [h]; simp
      · omega
      · omega
    exact .t3 hs (hb 1 (by omega)) (hb 2 (by omega)) (ht 3 h3) (by unfold onlyF; simp [h3])
  by_cases h9 : p.ty = 9
  · have hs : ¬ (0 : Int) < (p.subs.length : Int) := by
      rcases h with h | h | h
      · rw [h]; simp
      · omega
      · omega
    exact .t9 hs (hb 1 (by omega)) (hb 2 (by omega)) (hb 3 (by omega)) (ht 9 h9) (by unfold onlyF; simp [h9])
  by_cases h12 : p.ty = 12
  · have hs : ¬ (0 : Int) < (p.subs.length : Int) := by
      rcases h with h | h | h
      · rw [h]; simp
      · omega
      · omega
    exact .t12 hs (hb 1 (by omega)) (hb 2 (by omega)) (hb 3 (by omega)) (hb 9 (by omega)) (ht 12 h12) (by unfold onlyF; simp [h12])
  by_cases h13 : p.ty = 13
  · have hs : ¬ (0 : Int) < (p.subs.length : Int) := by
      rcases h with h | h | h
      · rw [h]; simp
      · omega
      · omega
    exact .t13 hs (hb 1 (by omega)) (hb 2 (by omega)) (hb 3 (by omega)) (hb 9 (by omega)) (hb 12 (by omega)) (ht 13 h13) (by unfold onlyF; simp [h13])
  by_cases h14 : p.ty = 14
  · have hs : ¬ (0 : Int) < (p.subs.length : Int) := by
      rcases h with h | h | h
      · rw [h]; simp
      · omega
      · omega
    exact .t14 hs (hb 1 (by omega)) (hb 2 (by omega)) (hb 3 (by omega)) (hb 9 (by omega)) (hb 12 (by omega)) (hb 13 (by omega)) (ht 14 h14) (by unfold onlyF; simp [h14])
  have ho : onlyF p = { Pk.zero with ty := p.ty, id := p.id } := by unfold onlyF; simp [h1, h2, h3, h9, h12, h13, h14]
  by_cases hz : p.subs = []
  · exact .o0 (by rw [hz]; simp) (hb 1 h1) (hb 2 h2) (hb 3 h3) (hb 9 h9) (hb 12 h12) (hb 13 h13) (hb 14 h14) ho
  have hl : (0 : Int) < (p.subs.length : Int) := by
    have := List.length_pos_iff.2 hz; omega
  rcases h with h | h | h
  · exact absurd h hz
  · exact .o8 hl (by rw [h]; rfl) (hb 1 h1) (hb 2 h2) (hb 3 h3) (hb 9 h9) (hb 12 h12) (hb 13 h13) (hb 14 h14) ho
  · exact .o10 hl (by rw [h]; rfl) (by rw [h]; rfl) (hb 1 h1) (hb 2 h2) (hb 3 h3) (hb 9 h9) (hb 12 h12) (hb 13 h13) (hb 14 h14) ho
set_option maxRecDepth 100000 in
set_option maxHeartbeats 4000000 in
theorem bare_t1 (p : Pk) (a : Option Addr) (c : Nat) (w : World) (hp : PkOk p) (s0 : ¬ (0 : Int) < (p.subs.length : Int)) (e1 : ((p.ty : Int) == 1) = true) (ho : onlyF p = { Pk.zero with ty := p.ty, level := p.level, clean := p.clean, keep := p.keep, client := p.client, hasWill := p.hasWill, wtopic := p.wtopic, wpayload := p.wpayload, wqos := p.wqos, wret := p.wret, hasUser := p.hasUser, hasPass := p.hasPass, user := p.user, pass := p.pass }) :
    Calls Tryd.prog 112 #[.agg (pkV p a c)] w fun e w' => e = .returned (.bool (decide (p.bare = onlyF p))) ∧ Below w.heap.size w w' := by
  have hfe := fun w => (flat_eq p (onlyF p) hp (onlyF_ok hp) w).1
  rw [show (onlyF p).bare = onlyF p by unfold onlyF Pk.bare; (repeat' split) <;> rfl] at hfe; have hty := hp.ty; clear hp; have HO := Lib.hid ho; clear ho; obtain ⟨k0, k1, k2, k3, k4, k5, k6, k7, k8, k9, k10, k11, k12, k13, k14, k15, k16, k17, k18, k19, k20, k21, k22, k23⟩ := pk_at p a c; go_enter Tryd.func112, Tryd.ntmps112
  go_wp2_with (first
    | ((with_reducible show wpList _ _ _ (⟨some 45, _, _, _, _, _⟩ :: _) _ _); refine wpList_build_to (o := ⟨some 45, _, _, _, _, _⟩) rfl 40 _ rfl (pkV { (onlyF p) with ty := 0 } none 0) (by rw [HO.out]; kernel_rfl) ?_)
    | ((with_reducible show wpList _ _ _ (⟨none, .store 40 _ _, _, _, _, _⟩ :: _) _ _); refine wpList_store_box rfl 40 (.tmp 3) (.tmp 45) rfl (w.heap.size + 1) (pkV { (onlyF p) with ty := 0 } none 0) rfl rfl 40 _ (BoxAt.new2 _ _ _ _) (pk_size _ _ _) rfl (pk_one _ _ _) ?_; intro w2 hbx hon; have hX := hbx.cells; have hFr := hbx.frozen; have hY := (BoxAt.only (BoxAt.old2 w _ (pkV p a c) 40) hon (by intro e; omega)).cells))
  have HB2 := Lib.hid (pk_typed p hbx); have HB1 := Lib.hid (BoxAt.other (Y := w.heap.size + 1) (BoxAt.only (BoxAt.old2 w _ (pkV p a c) 40) hon (by intro e; omega)) (by omega) 0 (.int .u8 (p.ty : Int))); have hb : Below w.heap.size w (w2.setCell ⟨w.heap.size + 1, 0, none⟩ (.int .u8 (p.ty : Int))) := Below.trans (Below.trans (by go_grown) (hon.below (B := w.heap.size) (by simp; omega) (fun k e => by omega))) ((Below.refl _ _).setCell (by first | (simp; done) | (simp; omega)) _); clear hbx hon hX hFr hY; generalize World.setCell w2 _ _ = w3 at HB1 HB2 hb ⊢; refine wp_region_noPanic ?_; refine wp_region_held_drew (S := fun w' => BoxAt w' w.heap.size (pkV p a c) 40 ∧ BoxAt w' (w.heap.size + 1) (pkV (onlyF p) none 0) 40) (by kernel_rfl) ?_ (fun hHeld => ?_)
  · (first | exact ⟨HB1.out, HB2.out⟩ | exact ⟨HB1.out.below (below_draws (n := 1) rfl), HB2.out.below (below_draws (n := 1) rfl)⟩)
  refine wpAnyH_take (i := 0) (oi := ⟨some 82, _, _, _, _, _⟩) (v := .agg (pkV p a c)) rfl (by kernel_rfl) (by kernel_rfl) (by kernel_rfl) (fun _ _ _ h => h) (yields_load_box rfl 40 (.tmp 1) rfl (w.heap.size) rfl 40 (pkV p a c) _ (fun w h => h.1) Tryd.underlying40 rfl (pk_size p a c)) (by assumption) ?_; try simp only [Act.put, List.setIfInBounds_toArray, List.set_cons_zero, List.set_cons_succ]
  refine wpAnyH_take (i := 2) (oi := ⟨some 84, _, _, _, _, _⟩) (v := .agg (pkV (onlyF p) none 0)) rfl (by kernel_rfl) (by kernel_rfl) (by kernel_rfl) (fun _ _ _ h => h) (yields_load_box rfl 40 (.tmp 3) rfl (w.heap.size + 1) rfl 40 (pkV (onlyF p) none 0) _ (fun w h => h.2) Tryd.underlying40 rfl (pk_size (onlyF p) none 0)) (by assumption) ?_; try simp only [Act.put, List.setIfInBounds_toArray, List.set_cons_zero, List.set_cons_succ]
  refine wpAnyH_ready (rs := [1]) (by kernel_rfl) (by simp) ?_; refine AllReadyH.cons (o := ⟨some 83, _, _, _, _, _⟩) rfl (fun K hK => ?_) AllReadyH.nil; go_simp
  (go_at_call 69; refine Calls.mono (packet_plain p a c _) ?_; rintro e w9 ⟨rfl, h9⟩; replace h9 := Below.then (below_draws (n := 1) rfl) h9; replace HB1 := Lib.hid (HB1.out.below h9); replace HB2 := Lib.hid (HB2.out.below h9); replace hb := Below.then hb h9; clear h9; go_simp)
  refine hK.out _ _ ?_ (fun hHeld => ?_)
  · (first | exact ⟨HB1.out, HB2.out⟩ | exact ⟨HB1.out.below (below_draws (n := 1) rfl), HB2.out.below (below_draws (n := 1) rfl)⟩)
  clear hK K; try simp only [Act.put, List.setIfInBounds_toArray, List.set_cons_zero, List.set_cons_succ]
  refine wpAnyH_ready (rs := [3]) (by kernel_rfl) (by simp) ?_; refine AllReadyH.cons (o := ⟨some 85, _, _, _, _, _⟩) rfl (fun K hK => ?_) AllReadyH.nil; go_simp
  (go_at_call 69; refine Calls.mono (packet_plain (onlyF p) none 0 _) ?_; rintro e w9 ⟨rfl, h9⟩; replace h9 := h9; replace HB1 := Lib.hid (HB1.out.below h9); replace HB2 := Lib.hid (HB2.out.below h9); replace hb := Below.then hb h9; clear h9; go_simp)
  refine hK.out _ _ ?_ (fun hHeld => ?_)
  · (first | exact ⟨HB1.out, HB2.out⟩ | exact ⟨HB1.out.below (below_draws (n := 1) rfl), HB2.out.below (below_draws (n := 1) rfl)⟩)
  clear hK K; try simp only [Act.put, List.setIfInBounds_toArray, List.set_cons_zero, List.set_cons_succ]
  refine wpAnyH_take (i := 4) (oi := ⟨some 86, _, _, _, _, _⟩) (v := ?_) rfl (by kernel_rfl) (by kernel_rfl) (by kernel_rfl) (fun _ _ _ h => h) (Or.inl ⟨by rfl, ?_⟩) (by assumption) ?_; rotate_left
  · (intro w hSw; (try dsimp only at hSw); go_simp; try with_reducible rfl)
  try simp only [Act.put, List.setIfInBounds_toArray, List.set_cons_zero, List.set_cons_succ]
  refine wpAnyH_take (i := 5) (oi := ⟨some 2, _, _, _, _, _⟩) (v := ?_) rfl (by kernel_rfl) (by kernel_rfl) (by kernel_rfl) (fun _ _ _ h => h) (Or.inl ⟨by rfl, ?_⟩) (by assumption) ?_; rotate_left
  · (intro w hSw; (try dsimp only at hSw); go_simp; try with_reducible rfl)
  try simp only [Act.put, List.setIfInBounds_toArray, List.set_cons_zero, List.set_cons_succ]
  refine wpAnyH_done (by kernel_rfl) ?_ _; refine NoPanic.normal ?_; go_wp2_with fail
  go_ret
  exact ⟨rfl, hb⟩
set_option maxRecDepth 100000 in
set_option maxHeartbeats 4000000 in
theorem bare_t2 (p : Pk) (a : Option Addr) (c : Nat) (w : World) (hp : PkOk p) (s0 : ¬ (0 : Int) < (p.subs.length : Int)) (e1 : ((p.ty : Int) == 1) = false) (e2 : ((p.ty : Int) == 2) = true) (ho : onlyF p = { Pk.zero with ty := p.ty, present := p.present, code := p.code }) :
    Calls Tryd.prog 112 #[.agg (pkV p a c)] w fun e w' => e = .returned (.bool (decide (p.bare = onlyF p))) ∧ Below w.heap.size w w' := by
  have hfe := fun w => (flat_eq p (onlyF p) hp (onlyF_ok hp) w).1
  rw [show (onlyF p).bare = onlyF p by unfold onlyF Pk.bare; (repeat' split) <;> rfl] at hfe; have hty := hp.ty; clear hp; have HO := Lib.hid ho; clear ho; obtain ⟨k0, k1, k2, k3, k4, k5, k6, k7, k8, k9, k10, k11, k12, k13, k14, k15, k16, k17, k18, k19, k20, k21, k22, k23⟩ := pk_at p a c; go_enter Tryd.func112, Tryd.ntmps112
  go_wp2_with (first
    | ((with_reducible show wpList _ _ _ (⟨some 52, _, _, _, _, _⟩ :: _) _ _); refine wpList_build_to (o := ⟨some 52, _, _, _, _, _⟩) rfl 40 _ rfl (pkV { (onlyF p) with ty := 0 } none 0) (by rw [HO.out]; kernel_rfl) ?_)
    | ((with_reducible show wpList _ _ _ (⟨none, .store 40 _ _, _, _, _, _⟩ :: _) _ _); refine wpList_store_box rfl 40 (.tmp 3) (.tmp 52) rfl (w.heap.size + 1) (pkV { (onlyF p) with ty := 0 } none 0) rfl rfl 40 _ (BoxAt.new2 _ _ _ _) (pk_size _ _ _) rfl (pk_one _ _ _) ?_; intro w2 hbx hon; have hX := hbx.cells; have hFr := hbx.frozen; have hY := (BoxAt.only (BoxAt.old2 w _ (pkV p a c) 40) hon (by intro e; omega)).cells))
  have HB2 := Lib.hid (pk_typed p hbx); have HB1 := Lib.hid (BoxAt.other (Y := w.heap.size + 1) (BoxAt.only (BoxAt.old2 w _ (pkV p a c) 40) hon (by intro e; omega)) (by omega) 0 (.int .u8 (p.ty : Int))); have hb : Below w.heap.size w (w2.setCell ⟨w.heap.size + 1, 0, none⟩ (.int .u8 (p.ty : Int))) := Below.trans (Below.trans (by go_grown) (hon.below (B := w.heap.size) (by simp; omega) (fun k e => by omega))) ((Below.refl _ _).setCell (by first | (simp; done) | (simp; omega)) _); clear hbx hon hX hFr hY; generalize World.setCell w2 _ _ = w3 at HB1 HB2 hb ⊢; refine wp_region_noPanic ?_; refine wp_region_held_drew (S := fun w' => BoxAt w' w.heap.size (pkV p a c) 40 ∧ BoxAt w' (w.heap.size + 1) (pkV (onlyF p) none 0) 40) (by kernel_rfl) ?_ (fun hHeld => ?_)
  · (first | exact ⟨HB1.out, HB2.out⟩ | exact ⟨HB1.out.below (below_draws (n := 1) rfl), HB2.out.below (below_draws (n := 1) rfl)⟩)
  refine wpAnyH_take (i := 0) (oi := ⟨some 82, _, _, _, _, _⟩) (v := .agg (pkV p a c)) rfl (by kernel_rfl) (by kernel_rfl) (by kernel_rfl) (fun _ _ _ h => h) (yields_load_box rfl 40 (.tmp 1) rfl (w.heap.size) rfl 40 (pkV p a c) _ (fun w h => h.1) Tryd.underlying40 rfl (pk_size p a c)) (by assumption) ?_; try simp only [Act.put, List.setIfInBounds_toArray, List.set_cons_zero, List.set_cons_succ]
  refine wpAnyH_take (i := 2) (oi := ⟨some 84, _, _, _, _, _⟩) (v := .agg (pkV (onlyF p) none 0)) rfl (by kernel_rfl) (by kernel_rfl) (by kernel_rfl) (fun _ _ _ h => h) (yields_load_box rfl 40 (.tmp 3) rfl (w.heap.size + 1) rfl 40 (pkV (onlyF p) none 0) _ (fun w h => h.2) Tryd.underlying40 rfl (pk_size (onlyF p) none 0)) (by assumption) ?_; try simp only [Act.put, List.setIfInBounds_toArray, List.set_cons_zero, List.set_cons_succ]
  refine wpAnyH_ready (rs := [1]) (by kernel_rfl) (by simp) ?_; refine AllReadyH.cons (o := ⟨some 83, _, _, _, _, _⟩) rfl (fun K hK => ?_) AllReadyH.nil; go_simp
  (go_at_call 69; refine Calls.mono (packet_plain p a c _) ?_; rintro e w9 ⟨rfl, h9⟩; replace h9 := Below.then (below_draws (n := 1) rfl) h9; replace HB1 := Lib.hid (HB1.out.below h9); replace HB2 := Lib.hid (HB2.out.below h9); replace hb := Below.then hb h9; clear h9; go_simp)
  refine hK.out _ _ ?_ (fun hHeld => ?_)
  · (first | exact ⟨HB1.out, HB2.out⟩ | exact ⟨HB1.out.below (below_draws (n := 1) rfl), HB2.out.below (below_draws (n := 1) rfl)⟩)
  clear hK K; try simp only [Act.put, List.setIfInBounds_toArray, List.set_cons_zero, List.set_cons_succ]
  refine wpAnyH_ready (rs := [3]) (by kernel_rfl) (by simp) ?_; refine AllReadyH.cons (o := ⟨some 85, _, _, _, _, _⟩) rfl (fun K hK => ?_) AllReadyH.nil; go_simp
  (go_at_call 69; refine Calls.mono (packet_plain (onlyF p) none 0 _) ?_; rintro e w9 ⟨rfl, h9⟩; replace h9 := h9; replace HB1 := Lib.hid (HB1.out.below h9); replace HB2 := Lib.hid (HB2.out.below h9); replace hb := Below.then hb h9; clear h9; go_simp)
  refine hK.out _ _ ?_ (fun hHeld => ?_)
  · (first | exact ⟨HB1.out, HB2.out⟩ | exact ⟨HB1.out.below (below_draws (n := 1) rfl), HB2.out.below (below_draws (n := 1) rfl)⟩)
  clear hK K; try simp only [Act.put, List.setIfInBounds_toArray, List.set_cons_zero, List.set_cons_succ]
  refine wpAnyH_take (i := 4) (oi := ⟨some 86, _, _, _, _, _⟩) (v := ?_) rfl (by kernel_rfl) (by kernel_rfl) (by kernel_rfl) (fun _ _ _ h => h) (Or.inl ⟨by rfl, ?_⟩) (by assumption) ?_; rotate_left
  · (intro w hSw; (try dsimp only at hSw); go_simp; try with_reducible rfl)
  try simp only [Act.put, List.setIfInBounds_toArray, List.set_cons_zero, List.set_cons_succ]
  refine wpAnyH_take (i := 5) (oi := ⟨some 2, _, _, _, _, _⟩) (v := ?_) rfl (by kernel_rfl) (by kernel_rfl) (by kernel_rfl) (fun _ _ _ h => h) (Or.inl ⟨by rfl, ?_⟩) (by assumption) ?_; rotate_left
  · (intro w hSw; (try dsimp only at hSw); go_simp; try with_reducible rfl)
  try simp only [Act.put, List.setIfInBounds_toArray, List.set_cons_zero, List.set_cons_succ]
  refine wpAnyH_done (by kernel_rfl) ?_ _; refine NoPanic.normal ?_; go_wp2_with fail
  go_ret
  exact ⟨rfl, hb⟩
set_option maxRecDepth 100000 in
set_option maxHeartbeats 4000000 in
theorem bare_t3 (p : Pk) (a : Option Addr) (c : Nat) (w : World) (hp : PkOk p) (s0 : ¬ (0 : Int) < (p.subs.length : Int)) (e1 : ((p.ty : Int) == 1) = false) (e2 : ((p.ty : Int) == 2) = false) (e3 : ((p.ty : Int) == 3) = true) (ho : onlyF p = { Pk.zero with ty := p.ty, dup := p.dup, qos := p.qos, ret := p.ret, id := p.id, topic := p.topic, payload := p.payload }) :
    Calls Tryd.prog 112 #[.agg (pkV p a c)] w fun e w' => e = .returned (.bool (decide (p.bare = onlyF p))) ∧ Below w.heap.size w w' := by
  have hfe := fun w => (flat_eq p (onlyF p) hp (onlyF_ok hp) w).1
  rw [show (onlyF p).bare = onlyF p by unfold onlyF Pk.bare; (repeat' split) <;> rfl] at hfe; have hty := hp.ty; clear hp; have HO := Lib.hid ho; clear ho; obtain ⟨k0, k1, k2, k3, k4, k5, k6, k7, k8, k9, k10, k11, k12, k13, k14, k15, k16, k17, k18, k19, k20, k21, k22, k23⟩ := pk_at p a c; go_enter Tryd.func112, Tryd.ntmps112
  go_wp2_with (first
    | ((with_reducible show wpList _ _ _ (⟨some 67, _, _, _, _, _⟩ :: _) _ _); refine wpList_build_to (o := ⟨some 67, _, _, _, _, _⟩) rfl 40 _ rfl (pkV { (onlyF p) with ty := 0 } none 0) (by rw [HO.out]; kernel_rfl) ?_)
    | ((with_reducible show wpList _ _ _ (⟨none, .store 40 _ _, _, _, _, _⟩ :: _) _ _); refine wpList_store_box rfl 40 (.tmp 3) (.tmp 67) rfl (w.heap.size + 1) (pkV { (onlyF p) with ty := 0 } none 0) rfl rfl 40 _ (BoxAt.new2 _ _ _ _) (pk_size _ _ _) rfl (pk_one _ _ _) ?_; intro w2 hbx hon; have hX := hbx.cells; have hFr := hbx.frozen; have hY := (BoxAt.only (BoxAt.old2 w _ (pkV p a c) 40) hon (by intro e; omega)).cells))
  have HB2 := Lib.hid (pk_typed p hbx); have HB1 := Lib.hid (BoxAt.other (Y := w.heap.size + 1) (BoxAt.only (BoxAt.old2 w _ (pkV p a c) 40) hon (by intro e; omega)) (by omega) 0 (.int .u8 (p.ty : Int))); have hb : Below w.heap.size w (w2.setCell ⟨w.heap.size + 1, 0, none⟩ (.int .u8 (p.ty : Int))) := Below.trans (Below.trans (by go_grown) (hon.below (B := w.heap.size) (by simp; omega) (fun k e => by omega))) ((Below.refl _ _).setCell (by first | (simp; done) | (simp; omega)) _); clear hbx hon hX hFr hY; generalize World.setCell w2 _ _ = w3 at HB1 HB2 hb ⊢; refine wp_region_noPanic ?_; refine wp_region_held_drew (S := fun w' => BoxAt w' w.heap.size (pkV p a c) 40 ∧ BoxAt w' (w.heap.size + 1) (pkV (onlyF p) none 0) 40) (by kernel_rfl) ?_ (fun hHeld => ?_)
  · (first | exact ⟨HB1.out, HB2.out⟩ | exact ⟨HB1.out.below (below_draws (n := 1) rfl), HB2.out.below (below_draws (n := 1) rfl)⟩)
  refine wpAnyH_take (i := 0) (oi := ⟨some 82, _, _, _, _, _⟩) (v := .agg (pkV p a c)) rfl (by kernel_rfl) (by kernel_rfl) (by kernel_rfl) (fun _ _ _ h => h) (yields_load_box rfl 40 (.tmp 1) rfl (w.heap.size) rfl 40 (pkV p a c) _ (fun w h => h.1) Tryd.underlying40 rfl (pk_size p a c)) (by assumption) ?_; try simp only [Act.put, List.setIfInBounds_toArray, List.set_cons_zero, List.set_cons_succ]
  refine wpAnyH_take (i := 2) (oi := ⟨some 84, _, _, _, _, _⟩) (v := .agg (pkV (onlyF p) none 0)) rfl (by kernel_rfl) (by kernel_rfl) (by kernel_rfl) (fun _ _ _ h => h) (yields_load_box rfl 40 (.tmp 3) rfl (w.heap.size + 1) rfl 40 (pkV (onlyF p) none 0) _ (fun w h => h.2) Tryd.underlying40 rfl (pk_size (onlyF p) none 0)) (by assumption) ?_; try simp only [Act.put, List.setIfInBounds_toArray, List.set_cons_zero, List.set_cons_succ]
  refine wpAnyH_ready (rs := [1]) (by kernel_rfl) (by simp) ?_; refine AllReadyH.cons (o := ⟨some 83, _, _, _, _, _⟩) rfl (fun K hK => ?_) AllReadyH.nil; go_simp
  (go_at_call 69; refine Calls.mono (packet_plain p a c _) ?_; rintro e w9 ⟨rfl, h9⟩; replace h9 := Below.then (below_draws (n := 1) rfl) h9; replace HB1 := Lib.hid (HB1.out.below h9); replace HB2 := Lib.hid (HB2.out.below h9); replace hb := Below.then hb h9; clear h9; go_simp)
  refine hK.out _ _ ?_ (fun hHeld => ?_)
  · (first | exact ⟨HB1.out, HB2.out⟩ | exact ⟨HB1.out.below (below_draws (n := 1) rfl), HB2.out.below (below_draws (n := 1) rfl)⟩)
  clear hK K; try simp only [Act.put, List.setIfInBounds_toArray, List.set_cons_zero, List.set_cons_succ]
  refine wpAnyH_ready (rs := [3]) (by kernel_rfl) (by simp) ?_; refine AllReadyH.cons (o := ⟨some 85, _, _, _, _, _⟩) rfl (fun K hK => ?_) AllReadyH.nil; go_simp
  (go_at_call 69; refine Calls.mono (packet_plain (onlyF p) none 0 _) ?_; rintro e w9 ⟨rfl, h9⟩; replace h9 := h9; replace HB1 := Lib.hid (HB1.out.below h9); replace HB2 := Lib.hid (HB2.out.below h9); replace hb := Below.then hb h9; clear h9; go_simp)
  refine hK.out _ _ ?_ (fun hHeld => ?_)
  · (first | exact ⟨HB1.out, HB2.out⟩ | exact ⟨HB1.out.below (below_draws (n := 1) rfl), HB2.out.below (below_draws (n := 1) rfl)⟩)
  clear hK K; try simp only [Act.put, List.setIfInBounds_toArray, List.set_cons_zero, List.set_cons_succ]
  refine wpAnyH_take (i := 4) (oi := ⟨some 86, _, _, _, _, _⟩) (v := ?_) rfl (by kernel_rfl) (by kernel_rfl) (by kernel_rfl) (fun _ _ _ h => h) (Or.inl ⟨by rfl, ?_⟩) (by assumption) ?_; rotate_left
  · (intro w hSw; (try dsimp only at hSw); go_simp; try with_reducible rfl)
  try simp only [Act.put, List.setIfInBounds_toArray, List.set_cons_zero, List.set_cons_succ]
  refine wpAnyH_take (i := 5) (oi := ⟨some 2, _, _, _, _, _⟩) (v := ?_) rfl (by kernel_rfl) (by kernel_rfl) (by kernel_rfl) (fun _ _ _ h => h) (Or.inl ⟨by rfl, ?_⟩) (by assumption) ?_; rotate_left
  · (intro w hSw; (try dsimp only at hSw); go_simp; try with_reducible rfl)
  try simp only [Act.put, List.setIfInBounds_toArray, List.set_cons_zero, List.set_cons_succ]
  refine wpAnyH_done (by kernel_rfl) ?_ _; refine NoPanic.normal ?_; go_wp2_with fail
  go_ret
  exact ⟨rfl, hb⟩
set_option maxRecDepth 100000 in
set_option maxHeartbeats 4000000 in
theorem bare_t9 (p : Pk) (a : Option Addr) (c : Nat) (w : World) (hp : PkOk p) (s0 : ¬ (0 : Int) < (p.subs.length : Int)) (e1 : ((p.ty : Int) == 1) = false) (e2 : ((p.ty : Int) == 2) = false) (e3 : ((p.ty : Int) == 3) = false) (e9 : ((p.ty : Int) == 9) = true) (ho : onlyF p = { Pk.zero with ty := p.ty, id := p.id, codes := p.codes }) :
    Calls Tryd.prog 112 #[.agg (pkV p a c)] w fun e w' => e = .returned (.bool (decide (p.bare = onlyF p))) ∧ Below w.heap.size w w' := by
  have hfe := fun w => (flat_eq p (onlyF p) hp (onlyF_ok hp) w).1
  rw [show (onlyF p).bare = onlyF p by unfold onlyF Pk.bare; (repeat' split) <;> rfl] at hfe; have hty := hp.ty; clear hp; have HO := Lib.hid ho; clear ho; obtain ⟨k0, k1, k2, k3, k4, k5, k6, k7, k8, k9, k10, k11, k12, k13, k14, k15, k16, k17, k18, k19, k20, k21, k22, k23⟩ := pk_at p a c; go_enter Tryd.func112, Tryd.ntmps112
  go_wp2_with (first
    | ((with_reducible show wpList _ _ _ (⟨some 74, _, _, _, _, _⟩ :: _) _ _); refine wpList_build_to (o := ⟨some 74, _, _, _, _, _⟩) rfl 40 _ rfl (pkV { (onlyF p) with ty := 0 } none 0) (by rw [HO.out]; kernel_rfl) ?_)
    | ((with_reducible show wpList _ _ _ (⟨none, .store 40 _ _, _, _, _, _⟩ :: _) _ _); refine wpList_store_box rfl 40 (.tmp 3) (.tmp 74) rfl (w.heap.size + 1) (pkV { (onlyF p) with ty := 0 } none 0) rfl rfl 40 _ (BoxAt.new2 _ _ _ _) (pk_size _ _ _) rfl (pk_one _ _ _) ?_; intro w2 hbx hon; have hX := hbx.cells; have hFr := hbx.frozen; have hY := (BoxAt.only (BoxAt.old2 w _ (pkV p a c) 40) hon (by intro e; omega)).cells))
  have HB2 := Lib.hid (pk_typed p hbx); have HB1 := Lib.hid (BoxAt.other (Y := w.heap.size + 1) (BoxAt.only (BoxAt.old2 w _ (pkV p a c) 40) hon (by intro e; omega)) (by omega) 0 (.int .u8 (p.ty : Int))); have hb : Below w.heap.size w (w2.setCell ⟨w.heap.size + 1, 0, none⟩ (.int .u8 (p.ty : Int))) := Below.trans (Below.trans (by go_grown) (hon.below (B := w.heap.size) (by simp; omega) (fun k e => by omega))) ((Below.refl _ _).setCell (by first | (simp; done) | (simp; omega)) _); clear hbx hon hX hFr hY; generalize World.setCell w2 _ _ = w3 at HB1 HB2 hb ⊢; refine wp_region_noPanic ?_; refine wp_region_held_drew (S := fun w' => BoxAt w' w.heap.size (pkV p a c) 40 ∧ BoxAt w' (w.heap.size + 1) (pkV (onlyF p) none 0) 40) (by kernel_rfl) ?_ (fun hHeld => ?_)
  · (first | exact ⟨HB1.out, HB2.out⟩ | exact ⟨HB1.out.below (below_draws (n := 1) rfl), HB2.out.below (below_draws (n := 1) rfl)⟩)
  refine wpAnyH_take (i := 0) (oi := ⟨some 82, _, _, _, _, _⟩) (v := .agg (pkV p a c)) rfl (by kernel_rfl) (by kernel_rfl) (by kernel_rfl) (fun _ _ _ h => h) (yields_load_box rfl 40 (.tmp 1) rfl (w.heap.size) rfl 40 (pkV p a c) _ (fun w h => h.1) Tryd.underlying40 rfl (pk_size p a c)) (by assumption) ?_; try simp only [Act.put, List.setIfInBounds_toArray, List.set_cons_zero, List.set_cons_succ]
  refine wpAnyH_take (i := 2) (oi := ⟨some 84, _, _, _, _, _⟩) (v := .agg (pkV (onlyF p) none 0)) rfl (by kernel_rfl) (by kernel_rfl) (by kernel_rfl) (fun _ _ _ h => h) (yields_load_box rfl 40 (.tmp 3) rfl (w.heap.size + 1) rfl 40 (pkV (onlyF p) none 0) _ (fun w h => h.2) Tryd.underlying40 rfl (pk_size (onlyF p) none 0)) (by assumption) ?_; try simp only [Act.put, List.setIfInBounds_toArray, List.set_cons_zero, List.set_cons_succ]
  refine wpAnyH_ready (rs := [1]) (by kernel_rfl) (by simp) ?_; refine AllReadyH.cons (o := ⟨some 83, _, _, _, _, _⟩) rfl (fun K hK => ?_) AllReadyH.nil; go_simp
  (go_at_call 69; refine Calls.mono (packet_plain p a c _) ?_; rintro e w9 ⟨rfl, h9⟩; replace h9 := Below.then (below_draws (n := 1) rfl) h9; replace HB1 := Lib.hid (HB1.out.below h9); replace HB2 := Lib.hid (HB2.out.below h9); replace hb := Below.then hb h9; clear h9; go_simp)
  refine hK.out _ _ ?_ (fun hHeld => ?_)
  · (first | exact ⟨HB1.out, HB2.out⟩ | exact ⟨HB1.out.below (below_draws (n := 1) rfl), HB2.out.below (below_draws (n := 1) rfl)⟩)
  clear hK K; try simp only [Act.put, List.setIfInBounds_toArray, List.set_cons_zero, List.set_cons_succ]
  refine wpAnyH_ready (rs := [3]) (by kernel_rfl) (by simp) ?_; refine AllReadyH.cons (o := ⟨some 85, _, _, _, _, _⟩) rfl (fun K hK => ?_) AllReadyH.nil; go_simp
  (go_at_call 69; refine Calls.mono (packet_plain (onlyF p) none 0 _) ?_; rintro e w9 ⟨rfl, h9⟩; replace h9 := h9; replace HB1 := Lib.hid (HB1.out.below h9); replace HB2 := Lib.hid (HB2.out.below h9); replace hb := Below.then hb h9; clear h9; go_simp)
  refine hK.out _ _ ?_ (fun hHeld => ?_)
  · (first | exact ⟨HB1.out, HB2.out⟩ | exact ⟨HB1.out.below (below_draws (n := 1) rfl), HB2.out.below (below_draws (n := 1) rfl)⟩)
  clear hK K; try simp only [Act.put, List.setIfInBounds_toArray, List.set_cons_zero, List.set_cons_succ]
  refine wpAnyH_take (i := 4) (oi := ⟨some 86, _, _, _, _, _⟩) (v := ?_) rfl (by kernel_rfl) (by kernel_rfl) (by kernel_rfl) (fun _ _ _ h => h) (Or.inl ⟨by rfl, ?_⟩) (by assumption) ?_; rotate_left
  · (intro w hSw; (try dsimp only at hSw); go_simp; try with_reducible rfl)
  try simp only [Act.put, List.setIfInBounds_toArray, List.set_cons_zero, List.set_cons_succ]
  refine wpAnyH_take (i := 5) (oi := ⟨some 2, _, _, _, _, _⟩) (v := ?_) rfl (by kernel_rfl) (by kernel_rfl) (by kernel_rfl) (fun _ _ _ h => h) (Or.inl ⟨by rfl, ?_⟩) (by assumption) ?_; rotate_left
  · (intro w hSw; (try dsimp only at hSw); go_simp; try with_reducible rfl)
  try simp only [Act.put, List.setIfInBounds_toArray, List.set_cons_zero, List.set_cons_succ]
  refine wpAnyH_done (by kernel_rfl) ?_ _; refine NoPanic.normal ?_; go_wp2_with fail
  go_ret
  exact ⟨rfl, hb⟩
set_option maxRecDepth 100000 in
set_option maxHeartbeats 4000000 in
theorem bare_t12 (p : Pk) (a : Option Addr) (c : Nat) (w : World) (hp : PkOk p) (s0 : ¬ (0 : Int) < (p.subs.length : Int)) (e1 : ((p.ty : Int) == 1) = false) (e2 : ((p.ty : Int) == 2) = false) (e3 : ((p.ty : Int) == 3) = false) (e9 : ((p.ty : Int) == 9) = false) (e12 : ((p.ty : Int) == 12) = true) (ho : onlyF p = { Pk.zero with ty := p.ty }) :
    Calls Tryd.prog 112 #[.agg (pkV p a c)] w fun e w' => e = .returned (.bool (decide (p.bare = onlyF p))) ∧ Below w.heap.size w w' := by
  have hfe := fun w => (flat_eq p (onlyF p) hp (onlyF_ok hp) w).1
  rw [show (onlyF p).bare = onlyF p by unfold onlyF Pk.bare; (repeat' split) <;> rfl] at hfe; have hty := hp.ty; clear hp; have HO := Lib.hid ho; clear ho; obtain ⟨k0, k1, k2, k3, k4, k5, k6, k7, k8, k9, k10, k11, k12, k13, k14, k15, k16, k17, k18, k19, k20, k21, k22, k23⟩ := pk_at p a c; go_enter Tryd.func112, Tryd.ntmps112
  go_wp2_with fail
  show Code.wp _ _ _ _ ((w.alloc (.cells (pkV p a c) 40)).alloc (.cells (pkV { Pk.zero with ty := p.ty } none 0) 40)); rw [← HO.out]; have HB2 := Lib.hid (BoxAt.new2 w (.cells (pkV p a c) 40) (pkV (onlyF p) none 0) 40); have HB1 := Lib.hid (BoxAt.old2 w (.cells (pkV (onlyF p) none 0) 40) (pkV p a c) 40); have hb : Below w.heap.size w ((w.alloc (.cells (pkV p a c) 40)).alloc (.cells (pkV (onlyF p) none 0) 40)) := by go_grown
  generalize World.alloc (World.alloc w _) _ = w3 at HB1 HB2 hb ⊢; refine wp_region_noPanic ?_; refine wp_region_held_drew (S := fun w' => BoxAt w' w.heap.size (pkV p a c) 40 ∧ BoxAt w' (w.heap.size + 1) (pkV (onlyF p) none 0) 40) (by kernel_rfl) ?_ (fun hHeld => ?_)
  · (first | exact ⟨HB1.out, HB2.out⟩ | exact ⟨HB1.out.below (below_draws (n := 1) rfl), HB2.out.below (below_draws (n := 1) rfl)⟩)
  refine wpAnyH_take (i := 0) (oi := ⟨some 82, _, _, _, _, _⟩) (v := .agg (pkV p a c)) rfl (by kernel_rfl) (by kernel_rfl) (by kernel_rfl) (fun _ _ _ h => h) (yields_load_box rfl 40 (.tmp 1) rfl (w.heap.size) rfl 40 (pkV p a c) _ (fun w h => h.1) Tryd.underlying40 rfl (pk_size p a c)) (by assumption) ?_; try simp only [Act.put, List.setIfInBounds_toArray, List.set_cons_zero, List.set_cons_succ]
  refine wpAnyH_take (i := 2) (oi := ⟨some 84, _, _, _, _, _⟩) (v := .agg (pkV (onlyF p) none 0)) rfl (by kernel_rfl) (by kernel_rfl) (by kernel_rfl) (fun _ _ _ h => h) (yields_load_box rfl 40 (.tmp 3) rfl (w.heap.size + 1) rfl 40 (pkV (onlyF p) none 0) _ (fun w h => h.2) Tryd.underlying40 rfl (pk_size (onlyF p) none 0)) (by assumption) ?_; try simp only [Act.put, List.setIfInBounds_toArray, List.set_cons_zero, List.set_cons_succ]
  refine wpAnyH_ready (rs := [1]) (by kernel_rfl) (by simp) ?_; refine AllReadyH.cons (o := ⟨some 83, _, _, _, _, _⟩) rfl (fun K hK => ?_) AllReadyH.nil; go_simp
  (go_at_call 69; refine Calls.mono (packet_plain p a c _) ?_; rintro e w9 ⟨rfl, h9⟩; replace h9 := Below.then (below_draws (n := 1) rfl) h9; replace HB1 := Lib.hid (HB1.out.below h9); replace HB2 := Lib.hid (HB2.out.below h9); replace hb := Below.then hb h9; clear h9; go_simp)
  refine hK.out _ _ ?_ (fun hHeld => ?_)
  · (first | exact ⟨HB1.out, HB2.out⟩ | exact ⟨HB1.out.below (below_draws (n := 1) rfl), HB2.out.below (below_draws (n := 1) rfl)⟩)
  clear hK K; try simp only [Act.put, List.setIfInBounds_toArray, List.set_cons_zero, List.set_cons_succ]
  refine wpAnyH_ready (rs := [3]) (by kernel_rfl) (by simp) ?_; refine AllReadyH.cons (o := ⟨some 85, _, _, _, _, _⟩) rfl (fun K hK => ?_) AllReadyH.nil; go_simp
  (go_at_call 69; refine Calls.mono (packet_plain (onlyF p) none 0 _) ?_; rintro e w9 ⟨rfl, h9⟩; replace h9 := h9; replace HB1 := Lib.hid (HB1.out.below h9); replace HB2 := Lib.hid (HB2.out.below h9); replace hb := Below.then hb h9; clear h9; go_simp)
  refine hK.out _ _ ?_ (fun hHeld => ?_)
  · (first | exact ⟨HB1.out, HB2.out⟩ | exact ⟨HB1.out.below (below_draws (n := 1) rfl), HB2.out.below (below_draws (n := 1) rfl)⟩)
  clear hK K; try simp only [Act.put, List.setIfInBounds_toArray, List.set_cons_zero, List.set_cons_succ]
  refine wpAnyH_take (i := 4) (oi := ⟨some 86, _, _, _, _, _⟩) (v := ?_) rfl (by kernel_rfl) (by kernel_rfl) (by kernel_rfl) (fun _ _ _ h => h) (Or.inl ⟨by rfl, ?_⟩) (by assumption) ?_; rotate_left
  · (intro w hSw; (try dsimp only at hSw); go_simp; try with_reducible rfl)
  try simp only [Act.put, List.setIfInBounds_toArray, List.set_cons_zero, List.set_cons_succ]
  refine wpAnyH_take (i := 5) (oi := ⟨some 2, _, _, _, _, _⟩) (v := ?_) rfl (by kernel_rfl) (by kernel_rfl) (by kernel_rfl) (fun _ _ _ h => h) (Or.inl ⟨by rfl, ?_⟩) (by assumption) ?_; rotate_left
  · (intro w hSw; (try dsimp only at hSw); go_simp; try with_reducible rfl)
  try simp only [Act.put, List.setIfInBounds_toArray, List.set_cons_zero, List.set_cons_succ]
  refine wpAnyH_done (by kernel_rfl) ?_ _; refine NoPanic.normal ?_; go_wp2_with fail
  go_ret
  exact ⟨rfl, hb⟩
set_option maxRecDepth 100000 in
set_option maxHeartbeats 4000000 in
theorem bare_t13 (p : Pk) (a : Option Addr) (c : Nat) (w : World) (hp : PkOk p) (s0 : ¬ (0 : Int) < (p.subs.length : Int)) (e1 : ((p.ty : Int) == 1) = false) (e2 : ((p.ty : Int) == 2) = false) (e3 : ((p.ty : Int) == 3) = false) (e9 : ((p.ty : Int) == 9) = false) (e12 : ((p.ty : Int) == 12) = false) (e13 : ((p.ty : Int) == 13) = true) (ho : onlyF p = { Pk.zero with ty := p.ty }) :
    Calls Tryd.prog 112 #[.agg (pkV p a c)] w fun e w' => e = .returned (.bool (decide (p.bare = onlyF p))) ∧ Below w.heap.size w w' := by
  have hfe := fun w => (flat_eq p (onlyF p) hp (onlyF_ok hp) w).1
  rw [show (onlyF p).bare = onlyF p by unfold onlyF Pk.bare; (repeat' split) <;> rfl] at hfe; have hty := hp.ty; clear hp; have HO := Lib.hid ho; clear ho; obtain ⟨k0, k1, k2, k3, k4, k5, k6, k7, k8, k9, k10, k11, k12, k13, k14, k15, k16, k17, k18, k19, k20, k21, k22, k23⟩ := pk_at p a c; go_enter Tryd.func112, Tryd.ntmps112
  go_wp2_with fail
  show Code.wp _ _ _ _ ((w.alloc (.cells (pkV p a c) 40)).alloc (.cells (pkV { Pk.zero with ty := p.ty } none 0) 40)); rw [← HO.out]; have HB2 := Lib.hid (BoxAt.new2 w (.cells (pkV p a c) 40) (pkV (onlyF p) none 0) 40); have HB1 := Lib.hid (BoxAt.old2 w (.cells (pkV (onlyF p) none 0) 40) (pkV p a c) 40); have hb : Below w.heap.size w ((w.alloc (.cells (pkV p a c) 40)).alloc (.cells (pkV (onlyF p) none 0) 40)) := by go_grown
  generalize World.alloc (World.alloc w _) _ = w3 at HB1 HB2 hb ⊢; refine wp_region_noPanic ?_; refine wp_region_held_drew (S := fun w' => BoxAt w' w.heap.size (pkV p a c) 40 ∧ BoxAt w' (w.heap.size + 1) (pkV (onlyF p) none 0) 40) (by kernel_rfl) ?_ (fun hHeld => ?_)
  · (first | exact ⟨HB1.out, HB2.out⟩ | exact ⟨HB1.out.below (below_draws (n := 1) rfl), HB2.out.below (below_draws (n := 1) rfl)⟩)
  refine wpAnyH_take (i := 0) (oi := ⟨some 82, _, _, _, _, _⟩) (v := .agg (pkV p a c)) rfl (by kernel_rfl) (by kernel_rfl) (by kernel_rfl) (fun _ _ _ h => h) (yields_load_box rfl 40 (.tmp 1) rfl (w.heap.size) rfl 40 (pkV p a c) _ (fun w h => h.1) Tryd.underlying40 rfl (pk_size p a c)) (by assumption) ?_; try simp only [Act.put, List.setIfInBounds_toArray, List.set_cons_zero, List.set_cons_succ]
  refine wpAnyH_take (i := 2) (oi := ⟨some 84, _, _, _, _, _⟩) (v := .agg (pkV (onlyF p) none 0)) rfl (by kernel_rfl) (by kernel_rfl) (by kernel_rfl) (fun _ _ _ h => h) (yields_load_box rfl 40 (.tmp 3) rfl (w.heap.size + 1) rfl 40 (pkV (onlyF p) none 0) _ (fun w h => h.2) Tryd.underlying40 rfl (pk_size (onlyF p) none 0)) (by assumption) ?_; try simp only [Act.put, List.setIfInBounds_toArray, List.set_cons_zero, List.set_cons_succ]
  refine wpAnyH_ready (rs := [1]) (by kernel_rfl) (by simp) ?_; refine AllReadyH.cons (o := ⟨some 83, _, _, _, _, _⟩) rfl (fun K hK => ?_) AllReadyH.nil; go_simp
  (go_at_call 69; refine Calls.mono (packet_plain p a c _) ?_; rintro e w9 ⟨rfl, h9⟩; replace h9 := Below.then (below_draws (n := 1) rfl) h9; replace HB1 := Lib.hid (HB1.out.below h9); replace HB2 := Lib.hid (HB2.out.below h9); replace hb := Below.then hb h9; clear h9; go_simp)
  refine hK.out _ _ ?_ (fun hHeld => ?_)
  · (first | exact ⟨HB1.out, HB2.out⟩ | exact ⟨HB1.out.below (below_draws (n := 1) rfl), HB2.out.below (below_draws (n := 1) rfl)⟩)
  clear hK K; try simp only [Act.put, List.setIfInBounds_toArray, List.set_cons_zero, List.set_cons_succ]
  refine wpAnyH_ready (rs := [3]) (by kernel_rfl) (by simp) ?_; refine AllReadyH.cons (o := ⟨some 85, _, _, _, _, _⟩) rfl (fun K hK => ?_) AllReadyH.nil; go_simp
  (go_at_call 69; refine Calls.mono (packet_plain (onlyF p) none 0 _) ?_; rintro e w9 ⟨rfl, h9⟩; replace h9 := h9; replace HB1 := Lib.hid (HB1.out.below h9); replace HB2 := Lib.hid (HB2.out.below h9); replace hb := Below.then hb h9; clear h9; go_simp)
  refine hK.out _ _ ?_ (fun hHeld => ?_)
  · (first | exact ⟨HB1.out, HB2.out⟩ | exact ⟨HB1.out.below (below_draws (n := 1) rfl), HB2.out.below (below_draws (n := 1) rfl)⟩)
  clear hK K; try simp only [Act.put, List.setIfInBounds_toArray, List.set_cons_zero, List.set_cons_succ]
  refine wpAnyH_take (i := 4) (oi := ⟨some 86, _, _, _, _, _⟩) (v := ?_) rfl (by kernel_rfl) (by kernel_rfl) (by kernel_rfl) (fun _ _ _ h => h) (Or.inl ⟨by rfl, ?_⟩) (by assumption) ?_; rotate_left
  · (intro w hSw; (try dsimp only at hSw); go_simp; try with_reducible rfl)
  try simp only [Act.put, List.setIfInBounds_toArray, List.set_cons_zero, List.set_cons_succ]
  refine wpAnyH_take (i := 5) (oi := ⟨some 2, _, _, _, _, _⟩) (v := ?_) rfl (by kernel_rfl) (by kernel_rfl) (by kernel_rfl) (fun _ _ _ h => h) (Or.inl ⟨by rfl, ?_⟩) (by assumption) ?_; rotate_left
  · (intro w hSw; (try dsimp only at hSw); go_simp; try with_reducible rfl)
  try simp only [Act.put, List.setIfInBounds_toArray, List.set_cons_zero, List.set_cons_succ]
  refine wpAnyH_done (by kernel_rfl) ?_ _; refine NoPanic.normal ?_; go_wp2_with fail
  go_ret
  exact ⟨rfl, hb⟩
set_option maxRecDepth 100000 in
set_option maxHeartbeats 4000000 in
theorem bare_t14 (p : Pk) (a : Option Addr) (c : Nat) (w : World) (hp : PkOk p) (s0 : ¬ (0 : Int) < (p.subs.length : Int)) (e1 : ((p.ty : Int) == 1) = false) (e2 : ((p.ty : Int) == 2) = false) (e3 : ((p.ty : Int) == 3) = false) (e9 : ((p.ty : Int) == 9) = false) (e12 : ((p.ty : Int) == 12) = false) (e13 : ((p.ty : Int) == 13) = false) (e14 : ((p.ty : Int) == 14) = true) (ho : onlyF p = { Pk.zero with ty := p.ty }) :
    Calls Tryd.prog 112 #[.agg (pkV p a c)] w fun e w' => e = .returned (.bool (decide (p.bare = onlyF p))) ∧ Below w.heap.size w w' := by
  have hfe := fun w => (flat_eq p (onlyF p) hp (onlyF_ok hp) w).1
  rw [show (onlyF p).bare = onlyF p by unfold onlyF Pk.bare; (repeat' split) <;> rfl] at hfe; have hty := hp.ty; clear hp; have HO := Lib.hid ho; clear ho; obtain ⟨k0, k1, k2, k3, k4, k5, k6, k7, k8, k9, k10, k11, k12, k13, k14, k15, k16, k17, k18, k19, k20, k21, k22, k23⟩ := pk_at p a c; go_enter Tryd.func112, Tryd.ntmps112
  go_wp2_with fail
  show Code.wp _ _ _ _ ((w.alloc (.cells (pkV p a c) 40)).alloc (.cells (pkV { Pk.zero with ty := p.ty } none 0) 40)); rw [← HO.out]; have HB2 := Lib.hid (BoxAt.new2 w (.cells (pkV p a c) 40) (pkV (onlyF p) none 0) 40); have HB1 := Lib.hid (BoxAt.old2 w (.cells (pkV (onlyF p) none 0) 40) (pkV p a c) 40); have hb : Below w.heap.size w ((w.alloc (.cells (pkV p a c) 40)).alloc (.cells (pkV (onlyF p) none 0) 40)) := by go_grown
  generalize World.alloc (World.alloc w _) _ = w3 at HB1 HB2 hb ⊢; refine wp_region_noPanic ?_; refine wp_region_held_drew (S := fun w' => BoxAt w' w.heap.size (pkV p a c) 40 ∧ BoxAt w' (w.heap.size + 1) (pkV (onlyF p) none 0) 40) (by kernel_rfl) ?_ (fun hHeld => ?_)
  · (first | exact ⟨HB1.out, HB2.out⟩ | exact ⟨HB1.out.below (below_draws (n := 1) rfl), HB2.out.below (below_draws (n := 1) rfl)⟩)
  refine wpAnyH_take (i := 0) (oi := ⟨some 82, _, _, _, _, _⟩) (v := .agg (pkV p a c)) rfl (by kernel_rfl) (by kernel_rfl) (by kernel_rfl) (fun _ _ _ h => h) (yields_load_box rfl 40 (.tmp 1) rfl (w.heap.size) rfl 40 (pkV p a c) _ (fun w h => h.1) Tryd.underlying40 rfl (pk_size p a c)) (by assumption) ?_; try simp only [Act.put, List.setIfInBounds_toArray, List.set_cons_zero, List.set_cons_succ]
  refine wpAnyH_take (i := 2) (oi := ⟨some 84, _, _, _, _, _⟩) (v := .agg (pkV (onlyF p) none 0)) rfl (by kernel_rfl) (by kernel_rfl) (by kernel_rfl) (fun _ _ _ h => h) (yields_load_box rfl 40 (.tmp 3) rfl (w.heap.size + 1) rfl 40 (pkV (onlyF p) none 0) _ (fun w h => h.2) Tryd.underlying40 rfl (pk_size (onlyF p) none 0)) (by assumption) ?_; try simp only [Act.put, List.setIfInBounds_toArray, List.set_cons_zero, List.set_cons_succ]
  refine wpAnyH_ready (rs := [1]) (by kernel_rfl) (by simp) ?_; refine AllReadyH.cons (o := ⟨some 83, _, _, _, _, _⟩) rfl (fun K hK => ?_) AllReadyH.nil; go_simp
  (go_at_call 69; refine Calls.mono (packet_plain p a c _) ?_; rintro e w9 ⟨rfl, h9⟩; replace h9 := Below.then (below_draws (n := 1) rfl) h9; replace HB1 := Lib.hid (HB1.out.below h9); replace HB2 := Lib.hid (HB2.out.below h9); replace hb := Below.then hb h9; clear h9; go_simp)
  refine hK.out _ _ ?_ (fun hHeld => ?_)
  · (first | exact ⟨HB1.out, HB2.out⟩ | exact ⟨HB1.out.below (below_draws (n := 1) rfl), HB2.out.below (below_draws (n := 1) rfl)⟩)
  clear hK K; try simp only [Act.put, List.setIfInBounds_toArray, List.set_cons_zero, List.set_cons_succ]
  refine wpAnyH_ready (rs := [3]) (by kernel_rfl) (by simp) ?_; refine AllReadyH.cons (o := ⟨some 85, _, _, _, _, _⟩) rfl (fun K hK => ?_) AllReadyH.nil; go_simp
  (go_at_call 69; refine Calls.mono (packet_plain (onlyF p) none 0 _) ?_; rintro e w9 ⟨rfl, h9⟩; replace h9 := h9; replace HB1 := Lib.hid (HB1.out.below h9); replace HB2 := Lib.hid (HB2.out.below h9); replace hb := Below.then hb h9; clear h9; go_simp)
  refine hK.out _ _ ?_ (fun hHeld => ?_)
  · (first | exact ⟨HB1.out, HB2.out⟩ | exact ⟨HB1.out.below (below_draws (n := 1) rfl), HB2.out.below (below_draws (n := 1) rfl)⟩)
  clear hK K; try simp only [Act.put, List.setIfInBounds_toArray, List.set_cons_zero, List.set_cons_succ]
  refine wpAnyH_take (i := 4) (oi := ⟨some 86, _, _, _, _, _⟩) (v := ?_) rfl (by kernel_rfl) (by kernel_rfl) (by kernel_rfl) (fun _ _ _ h => h) (Or.inl ⟨by rfl, ?_⟩) (by assumption) ?_; rotate_left
  · (intro w hSw; (try dsimp only at hSw); go_simp; try with_reducible rfl)
  try simp only [Act.put, List.setIfInBounds_toArray, List.set_cons_zero, List.set_cons_succ]
  refine wpAnyH_take (i := 5) (oi := ⟨some 2, _, _, _, _, _⟩) (v := ?_) rfl (by kernel_rfl) (by kernel_rfl) (by kernel_rfl) (fun _ _ _ h => h) (Or.inl ⟨by rfl, ?_⟩) (by assumption) ?_; rotate_left
  · (intro w hSw; (try dsimp only at hSw); go_simp; try with_reducible rfl)
  try simp only [Act.put, List.setIfInBounds_toArray, List.set_cons_zero, List.set_cons_succ]
  refine wpAnyH_done (by kernel_rfl) ?_ _; refine NoPanic.normal ?_; go_wp2_with fail
  go_ret
  exact ⟨rfl, hb⟩
set_option maxRecDepth 100000 in
set_option maxHeartbeats 4000000 in
theorem bare_o0 (p : Pk) (a : Option Addr) (c : Nat) (w : World) (hp : PkOk p) (s0 : ¬ (0 : Int) < (p.subs.length : Int)) (e1 : ((p.ty : Int) == 1) = false) (e2 : ((p.ty : Int) == 2) = false) (e3 : ((p.ty : Int) == 3) = false) (e9 : ((p.ty : Int) == 9) = false) (e12 : ((p.ty : Int) == 12) = false) (e13 : ((p.ty : Int) == 13) = false) (e14 : ((p.ty : Int) == 14) = false) (ho : onlyF p = { Pk.zero with ty := p.ty, id := p.id }) :
    Calls Tryd.prog 112 #[.agg (pkV p a c)] w fun e w' => e = .returned (.bool (decide (p.bare = onlyF p))) ∧ Below w.heap.size w w' := by
  have hfe := fun w => (flat_eq p (onlyF p) hp (onlyF_ok hp) w).1
  rw [show (onlyF p).bare = onlyF p by unfold onlyF Pk.bare; (repeat' split) <;> rfl] at hfe; have hty := hp.ty; clear hp; have HO := Lib.hid ho; clear ho; obtain ⟨k0, k1, k2, k3, k4, k5, k6, k7, k8, k9, k10, k11, k12, k13, k14, k15, k16, k17, k18, k19, k20, k21, k22, k23⟩ := pk_at p a c; go_enter Tryd.func112, Tryd.ntmps112
  go_wp2_with (first
    | ((with_reducible show wpList _ _ _ (⟨some 22, _, _, _, _, _⟩ :: _) _ _); refine wpList_build_to (o := ⟨some 22, _, _, _, _, _⟩) rfl 40 _ rfl (pkV { (onlyF p) with ty := 0 } none 0) (by rw [HO.out]; kernel_rfl) ?_)
    | ((with_reducible show wpList _ _ _ (⟨none, .store 40 _ _, _, _, _, _⟩ :: _) _ _); refine wpList_store_box rfl 40 (.tmp 3) (.tmp 22) rfl (w.heap.size + 1) (pkV { (onlyF p) with ty := 0 } none 0) rfl rfl 40 _ (BoxAt.new2 _ _ _ _) (pk_size _ _ _) rfl (pk_one _ _ _) ?_; intro w2 hbx hon; have hX := hbx.cells; have hFr := hbx.frozen; have hY := (BoxAt.only (BoxAt.old2 w _ (pkV p a c) 40) hon (by intro e; omega)).cells))
  have HB2 := Lib.hid (pk_typed p hbx); have HB1 := Lib.hid (BoxAt.other (Y := w.heap.size + 1) (BoxAt.only (BoxAt.old2 w _ (pkV p a c) 40) hon (by intro e; omega)) (by omega) 0 (.int .u8 (p.ty : Int))); have hb : Below w.heap.size w (w2.setCell ⟨w.heap.size + 1, 0, none⟩ (.int .u8 (p.ty : Int))) := Below.trans (Below.trans (by go_grown) (hon.below (B := w.heap.size) (by simp; omega) (fun k e => by omega))) ((Below.refl _ _).setCell (by first | (simp; done) | (simp; omega)) _); clear hbx hon hX hFr hY; generalize World.setCell w2 _ _ = w3 at HB1 HB2 hb ⊢; refine wp_region_noPanic ?_; refine wp_region_held_drew (S := fun w' => BoxAt w' w.heap.size (pkV p a c) 40 ∧ BoxAt w' (w.heap.size + 1) (pkV (onlyF p) none 0) 40) (by kernel_rfl) ?_ (fun hHeld => ?_)
  · (first | exact ⟨HB1.out, HB2.out⟩ | exact ⟨HB1.out.below (below_draws (n := 1) rfl), HB2.out.below (below_draws (n := 1) rfl)⟩)
  refine wpAnyH_take (i := 0) (oi := ⟨some 82, _, _, _, _, _⟩) (v := .agg (pkV p a c)) rfl (by kernel_rfl) (by kernel_rfl) (by kernel_rfl) (fun _ _ _ h => h) (yields_load_box rfl 40 (.tmp 1) rfl (w.heap.size) rfl 40 (pkV p a c) _ (fun w h => h.1) Tryd.underlying40 rfl (pk_size p a c)) (by assumption) ?_; try simp only [Act.put, List.setIfInBounds_toArray, List.set_cons_zero, List.set_cons_succ]
  refine wpAnyH_take (i := 2) (oi := ⟨some 84, _, _, _, _, _⟩) (v := .agg (pkV (onlyF p) none 0)) rfl (by kernel_rfl) (by kernel_rfl) (by kernel_rfl) (fun _ _ _ h => h) (yields_load_box rfl 40 (.tmp 3) rfl (w.heap.size + 1) rfl 40 (pkV (onlyF p) none 0) _ (fun w h => h.2) Tryd.underlying40 rfl (pk_size (onlyF p) none 0)) (by assumption) ?_; try simp only [Act.put, List.setIfInBounds_toArray, List.set_cons_zero, List.set_cons_succ]
  refine wpAnyH_ready (rs := [1]) (by kernel_rfl) (by simp) ?_; refine AllReadyH.cons (o := ⟨some 83, _, _, _, _, _⟩) rfl (fun K hK => ?_) AllReadyH.nil; go_simp
  (go_at_call 69; refine Calls.mono (packet_plain p a c _) ?_; rintro e w9 ⟨rfl, h9⟩; replace h9 := Below.then (below_draws (n := 1) rfl) h9; replace HB1 := Lib.hid (HB1.out.below h9); replace HB2 := Lib.hid (HB2.out.below h9); replace hb := Below.then hb h9; clear h9; go_simp)
  refine hK.out _ _ ?_ (fun hHeld => ?_)
  · (first | exact ⟨HB1.out, HB2.out⟩ | exact ⟨HB1.out.below (below_draws (n := 1) rfl), HB2.out.below (below_draws (n := 1) rfl)⟩)
  clear hK K; try simp only [Act.put, List.setIfInBounds_toArray, List.set_cons_zero, List.set_cons_succ]
  refine wpAnyH_ready (rs := [3]) (by kernel_rfl) (by simp) ?_; refine AllReadyH.cons (o := ⟨some 85, _, _, _, _, _⟩) rfl (fun K hK => ?_) AllReadyH.nil; go_simp
  (go_at_call 69; refine Calls.mono (packet_plain (onlyF p) none 0 _) ?_; rintro e w9 ⟨rfl, h9⟩; replace h9 := h9; replace HB1 := Lib.hid (HB1.out.below h9); replace HB2 := Lib.hid (HB2.out.below h9); replace hb := Below.then hb h9; clear h9; go_simp)
  refine hK.out _ _ ?_ (fun hHeld => ?_)
  · (first | exact ⟨HB1.out, HB2.out⟩ | exact ⟨HB1.out.below (below_draws (n := 1) rfl), HB2.out.below (below_draws (n := 1) rfl)⟩)
  clear hK K; try simp only [Act.put, List.setIfInBounds_toArray, List.set_cons_zero, List.set_cons_succ]
  refine wpAnyH_take (i := 4) (oi := ⟨some 86, _, _, _, _, _⟩) (v := ?_) rfl (by kernel_rfl) (by kernel_rfl) (by kernel_rfl) (fun _ _ _ h => h) (Or.inl ⟨by rfl, ?_⟩) (by assumption) ?_; rotate_left
  · (intro w hSw; (try dsimp only at hSw); go_simp; try with_reducible rfl)
  try simp only [Act.put, List.setIfInBounds_toArray, List.set_cons_zero, List.set_cons_succ]
  refine wpAnyH_take (i := 5) (oi := ⟨some 2, _, _, _, _, _⟩) (v := ?_) rfl (by kernel_rfl) (by kernel_rfl) (by kernel_rfl) (fun _ _ _ h => h) (Or.inl ⟨by rfl, ?_⟩) (by assumption) ?_; rotate_left
  · (intro w hSw; (try dsimp only at hSw); go_simp; try with_reducible rfl)
  try simp only [Act.put, List.setIfInBounds_toArray, List.set_cons_zero, List.set_cons_succ]
  refine wpAnyH_done (by kernel_rfl) ?_ _; refine NoPanic.normal ?_; go_wp2_with fail
  go_ret
  exact ⟨rfl, hb⟩
set_option maxRecDepth 100000 in
set_option maxHeartbeats 4000000 in
theorem bare_o8 (p : Pk) (a : Option Addr) (c : Nat) (w : World) (hp : PkOk p) (sl : (0 : Int) < (p.subs.length : Int)) (s0 : ((p.ty : Int) != 8) = false) (e1 : ((p.ty : Int) == 1) = false) (e2 : ((p.ty : Int) == 2) = false) (e3 : ((p.ty : Int) == 3) = false) (e9 : ((p.ty : Int) == 9) = false) (e12 : ((p.ty : Int) == 12) = false) (e13 : ((p.ty : Int) == 13) = false) (e14 : ((p.ty : Int) == 14) = false) (ho : onlyF p = { Pk.zero with ty := p.ty, id := p.id }) :
    Calls Tryd.prog 112 #[.agg (pkV p a c)] w fun e w' => e = .returned (.bool (decide (p.bare = onlyF p))) ∧ Below w.heap.size w w' := by
  have hfe := fun w => (flat_eq p (onlyF p) hp (onlyF_ok hp) w).1
  rw [show (onlyF p).bare = onlyF p by unfold onlyF Pk.bare; (repeat' split) <;> rfl] at hfe; have hty := hp.ty; clear hp; have HO := Lib.hid ho; clear ho; obtain ⟨k0, k1, k2, k3, k4, k5, k6, k7, k8, k9, k10, k11, k12, k13, k14, k15, k16, k17, k18, k19, k20, k21, k22, k23⟩ := pk_at p a c; go_enter Tryd.func112, Tryd.ntmps112
  go_wp2_with (first
    | ((with_reducible show wpList _ _ _ (⟨some 22, _, _, _, _, _⟩ :: _) _ _); refine wpList_build_to (o := ⟨some 22, _, _, _, _, _⟩) rfl 40 _ rfl (pkV { (onlyF p) with ty := 0 } none 0) (by rw [HO.out]; kernel_rfl) ?_)
    | ((with_reducible show wpList _ _ _ (⟨none, .store 40 _ _, _, _, _, _⟩ :: _) _ _); refine wpList_store_box rfl 40 (.tmp 3) (.tmp 22) rfl (w.heap.size + 1) (pkV { (onlyF p) with ty := 0 } none 0) rfl rfl 40 _ (BoxAt.new2 _ _ _ _) (pk_size _ _ _) rfl (pk_one _ _ _) ?_; intro w2 hbx hon; have hX := hbx.cells; have hFr := hbx.frozen; have hY := (BoxAt.only (BoxAt.old2 w _ (pkV p a c) 40) hon (by intro e; omega)).cells))
  have HB2 := Lib.hid (pk_typed p hbx); have HB1 := Lib.hid (BoxAt.other (Y := w.heap.size + 1) (BoxAt.only (BoxAt.old2 w _ (pkV p a c) 40) hon (by intro e; omega)) (by omega) 0 (.int .u8 (p.ty : Int))); have hb : Below w.heap.size w (w2.setCell ⟨w.heap.size + 1, 0, none⟩ (.int .u8 (p.ty : Int))) := Below.trans (Below.trans (by go_grown) (hon.below (B := w.heap.size) (by simp; omega) (fun k e => by omega))) ((Below.refl _ _).setCell (by first | (simp; done) | (simp; omega)) _); clear hbx hon hX hFr hY; generalize World.setCell w2 _ _ = w3 at HB1 HB2 hb ⊢; refine wp_region_noPanic ?_; refine wp_region_held_drew (S := fun w' => BoxAt w' w.heap.size (pkV p a c) 40 ∧ BoxAt w' (w.heap.size + 1) (pkV (onlyF p) none 0) 40) (by kernel_rfl) ?_ (fun hHeld => ?_)
  · (first | exact ⟨HB1.out, HB2.out⟩ | exact ⟨HB1.out.below (below_draws (n := 1) rfl), HB2.out.below (below_draws (n := 1) rfl)⟩)
  refine wpAnyH_take (i := 0) (oi := ⟨some 82, _, _, _, _, _⟩) (v := .agg (pkV p a c)) rfl (by kernel_rfl) (by kernel_rfl) (by kernel_rfl) (fun _ _ _ h => h) (yields_load_box rfl 40 (.tmp 1) rfl (w.heap.size) rfl 40 (pkV p a c) _ (fun w h => h.1) Tryd.underlying40 rfl (pk_size p a c)) (by assumption) ?_; try simp only [Act.put, List.setIfInBounds_toArray, List.set_cons_zero, List.set_cons_succ]
  refine wpAnyH_take (i := 2) (oi := ⟨some 84, _, _, _, _, _⟩) (v := .agg (pkV (onlyF p) none 0)) rfl (by kernel_rfl) (by kernel_rfl) (by kernel_rfl) (fun _ _ _ h => h) (yields_load_box rfl 40 (.tmp 3) rfl (w.heap.size + 1) rfl 40 (pkV (onlyF p) none 0) _ (fun w h => h.2) Tryd.underlying40 rfl (pk_size (onlyF p) none 0)) (by assumption) ?_; try simp only [Act.put, List.setIfInBounds_toArray, List.set_cons_zero, List.set_cons_succ]
  refine wpAnyH_ready (rs := [1]) (by kernel_rfl) (by simp) ?_; refine AllReadyH.cons (o := ⟨some 83, _, _, _, _, _⟩) rfl (fun K hK => ?_) AllReadyH.nil; go_simp
  (go_at_call 69; refine Calls.mono (packet_plain p a c _) ?_; rintro e w9 ⟨rfl, h9⟩; replace h9 := Below.then (below_draws (n := 1) rfl) h9; replace HB1 := Lib.hid (HB1.out.below h9); replace HB2 := Lib.hid (HB2.out.below h9); replace hb := Below.then hb h9; clear h9; go_simp)
  refine hK.out _ _ ?_ (fun hHeld => ?_)
  · (first | exact ⟨HB1.out, HB2.out⟩ | exact ⟨HB1.out.below (below_draws (n := 1) rfl), HB2.out.below (below_draws (n := 1) rfl)⟩)
  clear hK K; try simp only [Act.put, List.setIfInBounds_toArray, List.set_cons_zero, List.set_cons_succ]
  refine wpAnyH_ready (rs := [3]) (by kernel_rfl) (by simp) ?_; refine AllReadyH.cons (o := ⟨some 85, _, _, _, _, _⟩) rfl (fun K hK => ?_) AllReadyH.nil; go_simp
  (go_at_call 69; refine Calls.mono (packet_plain (onlyF p) none 0 _) ?_; rintro e w9 ⟨rfl, h9⟩; replace h9 := h9; replace HB1 := Lib.hid (HB1.out.below h9); replace HB2 := Lib.hid (HB2.out.below h9); replace hb := Below.then hb h9; clear h9; go_simp)
  refine hK.out _ _ ?_ (fun hHeld => ?_)
  · (first | exact ⟨HB1.out, HB2.out⟩ | exact ⟨HB1.out.below (below_draws (n := 1) rfl), HB2.out.below (below_draws (n := 1) rfl)⟩)
  clear hK K; try simp only [Act.put, List.setIfInBounds_toArray, List.set_cons_zero, List.set_cons_succ]
  refine wpAnyH_take (i := 4) (oi := ⟨some 86, _, _, _, _, _⟩) (v := ?_) rfl (by kernel_rfl) (by kernel_rfl) (by kernel_rfl) (fun _ _ _ h => h) (Or.inl ⟨by rfl, ?_⟩) (by assumption) ?_; rotate_left
  · (intro w hSw; (try dsimp only at hSw); go_simp; try with_reducible rfl)
  try simp only [Act.put, List.setIfInBounds_toArray, List.set_cons_zero, List.set_cons_succ]
  refine wpAnyH_take (i := 5) (oi := ⟨some 2, _, _, _, _, _⟩) (v := ?_) rfl (by kernel_rfl) (by kernel_rfl) (by kernel_rfl) (fun _ _ _ h => h) (Or.inl ⟨by rfl, ?_⟩) (by assumption) ?_; rotate_left
  · (intro w hSw; (try dsimp only at hSw); go_simp; try with_reducible rfl)
  try simp only [Act.put, List.setIfInBounds_toArray, List.set_cons_zero, List.set_cons_succ]
  refine wpAnyH_done (by kernel_rfl) ?_ _; refine NoPanic.normal ?_; go_wp2_with fail
  go_ret
  exact ⟨rfl, hb⟩
set_option maxRecDepth 100000 in
set_option maxHeartbeats 4000000 in
theorem bare_o10 (p : Pk) (a : Option Addr) (c : Nat) (w : World) (hp : PkOk p) (sl : (0 : Int) < (p.subs.length : Int)) (s0 : ((p.ty : Int) != 8) = true) (s1 : ((p.ty : Int) != 10) = false) (e1 : ((p.ty : Int) == 1) = false) (e2 : ((p.ty : Int) == 2) = false) (e3 : ((p.ty : Int) == 3) = false) (e9 : ((p.ty : Int) == 9) = false) (e12 : ((p.ty : Int) == 12) = false) (e13 : ((p.ty : Int) == 13) = false) (e14 : ((p.ty : Int) == 14) = false) (ho : onlyF p = { Pk.zero with ty := p.ty, id := p.id }) :
    Calls Tryd.prog 112 #[.agg (pkV p a c)] w fun e w' => e = .returned (.bool (decide (p.bare = onlyF p))) ∧ Below w.heap.size w w' := by
  have hfe := fun w => (flat_eq p (onlyF p) hp (onlyF_ok hp) w).1
  rw [show (onlyF p).bare = onlyF p by unfold onlyF Pk.bare; (repeat' split) <;> rfl] at hfe; have hty := hp.ty; clear hp; have HO := Lib.hid ho; clear ho; obtain ⟨k0, k1, k2, k3, k4, k5, k6, k7, k8, k9, k10, k11, k12, k13, k14, k15, k16, k17, k18, k19, k20, k21, k22, k23⟩ := pk_at p a c; go_enter Tryd.func112, Tryd.ntmps112
  go_wp2_with (first
    | ((with_reducible show wpList _ _ _ (⟨some 22, _, _, _, _, _⟩ :: _) _ _); refine wpList_build_to (o := ⟨some 22, _, _, _, _, _⟩) rfl 40 _ rfl (pkV { (onlyF p) with ty := 0 } none 0) (by rw [HO.out]; kernel_rfl) ?_)
    | ((with_reducible show wpList _ _ _ (⟨none, .store 40 _ _, _, _, _, _⟩ :: _) _ _); refine wpList_store_box rfl 40 (.tmp 3) (.tmp 22) rfl (w.heap.size + 1) (pkV { (onlyF p) with ty := 0 } none 0) rfl rfl 40 _ (BoxAt.new2 _ _ _ _) (pk_size _ _ _) rfl (pk_one _ _ _) ?_; intro w2 hbx hon; have hX := hbx.cells; have hFr := hbx.frozen; have hY := (BoxAt.only (BoxAt.old2 w _ (pkV p a c) 40) hon (by intro e; omega)).cells))
  have HB2 := Lib.hid (pk_typed p hbx); have HB1 := Lib.hid (BoxAt.other (Y := w.heap.size + 1) (BoxAt.only (BoxAt.old2 w _ (pkV p a c) 40) hon (by intro e; omega)) (by omega) 0 (.int .u8 (p.ty : Int))); have hb : Below w.heap.size w (w2.setCell ⟨w.heap.size + 1, 0, none⟩ (.int .u8 (p.ty : Int))) := Below.trans (Below.trans (by go_grown) (hon.below (B := w.heap.size) (by simp; omega) (fun k e => by omega))) ((Below.refl _ _).setCell (by first | (simp; done) | (simp; omega)) _); clear hbx hon hX hFr hY; generalize World.setCell w2 _ _ = w3 at HB1 HB2 hb ⊢; refine wp_region_noPanic ?_; refine wp_region_held_drew (S := fun w' => BoxAt w' w.heap.size (pkV p a c) 40 ∧ BoxAt w' (w.heap.size + 1) (pkV (onlyF p) none 0) 40) (by kernel_rfl) ?_ (fun hHeld => ?_)
  · (first | exact ⟨HB1.out, HB2.out⟩ | exact ⟨HB1.out.below (below_draws (n := 1) rfl), HB2.out.below (below_draws (n := 1) rfl)⟩)
  refine wpAnyH_take (i := 0) (oi := ⟨some 82, _, _, _, _, _⟩) (v := .agg (pkV p a c)) rfl (by kernel_rfl) (by kernel_rfl) (by kernel_rfl) (fun _ _ _ h => h) (yields_load_box rfl 40 (.tmp 1) rfl (w.heap.size) rfl 40 (pkV p a c) _ (fun w h => h.1) Tryd.underlying40 rfl (pk_size p a c)) (by assumption) ?_; try simp only [Act.put, List.setIfInBounds_toArray, List.set_cons_zero, List.set_cons_succ]
  refine wpAnyH_take (i := 2) (oi := ⟨some 84, _, _, _, _, _⟩) (v := .agg (pkV (onlyF p) none 0)) rfl (by kernel_rfl) (by kernel_rfl) (by kernel_rfl) (fun _ _ _ h => h) (yields_load_box rfl 40 (.tmp 3) rfl (w.heap.size + 1) rfl 40 (pkV (onlyF p) none 0) _ (fun w h => h.2) Tryd.underlying40 rfl (pk_size (onlyF p) none 0)) (by assumption) ?_; try simp only [Act.put, List.setIfInBounds_toArray, List.set_cons_zero, List.set_cons_succ]
  refine wpAnyH_ready (rs := [1]) (by kernel_rfl) (by simp) ?_; refine AllReadyH.cons (o := ⟨some 83, _, _, _, _, _⟩) rfl (fun K hK => ?_) AllReadyH.nil; go_simp
  (go_at_call 69; refine Calls.mono (packet_plain p a c _) ?_; rintro e w9 ⟨rfl, h9⟩; replace h9 := Below.then (below_draws (n := 1) rfl) h9; replace HB1 := Lib.hid (HB1.out.below h9); replace HB2 := Lib.hid (HB2.out.below h9); replace hb := Below.then hb h9; clear h9; go_simp)
  refine hK.out _ _ ?_ (fun hHeld => ?_)
  · (first | exact ⟨HB1.out, HB2.out⟩ | exact ⟨HB1.out.below (below_draws (n := 1) rfl), HB2.out.below (below_draws (n := 1) rfl)⟩)
  clear hK K; try simp only [Act.put, List.setIfInBounds_toArray, List.set_cons_zero, List.set_cons_succ]
  refine wpAnyH_ready (rs := [3]) (by kernel_rfl) (by simp) ?_; refine AllReadyH.cons (o := ⟨some 85, _, _, _, _, _⟩) rfl (fun K hK => ?_) AllReadyH.nil; go_simp
  (go_at_call 69; refine Calls.mono (packet_plain (onlyF p) none 0 _) ?_; rintro e w9 ⟨rfl, h9⟩; replace h9 := h9; replace HB1 := Lib.hid (HB1.out.below h9); replace HB2 := Lib.hid (HB2.out.below h9); replace hb := Below.then hb h9; clear h9; go_simp)
  refine hK.out _ _ ?_ (fun hHeld => ?_)
  · (first | exact ⟨HB1.out, HB2.out⟩ | exact ⟨HB1.out.below (below_draws (n := 1) rfl), HB2.out.below (below_draws (n := 1) rfl)⟩)
  clear hK K; try simp only [Act.put, List.setIfInBounds_toArray, List.set_cons_zero, List.set_cons_succ]
  refine wpAnyH_take (i := 4) (oi := ⟨some 86, _, _, _, _, _⟩) (v := ?_) rfl (by kernel_rfl) (by kernel_rfl) (by kernel_rfl) (fun _ _ _ h => h) (Or.inl ⟨by rfl, ?_⟩) (by assumption) ?_; rotate_left
  · (intro w hSw; (try dsimp only at hSw); go_simp; try with_reducible rfl)
  try simp only [Act.put, List.setIfInBounds_toArray, List.set_cons_zero, List.set_cons_succ]
  refine wpAnyH_take (i := 5) (oi := ⟨some 2, _, _, _, _, _⟩) (v := ?_) rfl (by kernel_rfl) (by kernel_rfl) (by kernel_rfl) (fun _ _ _ h => h) (Or.inl ⟨by rfl, ?_⟩) (by assumption) ?_; rotate_left
  · (intro w hSw; (try dsimp only at hSw); go_simp; try with_reducible rfl)
  try simp only [Act.put, List.setIfInBounds_toArray, List.set_cons_zero, List.set_cons_succ]
  refine wpAnyH_done (by kernel_rfl) ?_ _; refine NoPanic.normal ?_; go_wp2_with fail
  go_ret
  exact ⟨rfl, hb⟩
set_option maxRecDepth 100000 in
set_option maxHeartbeats 4000000 in
theorem packet_bare (p : Pk) (a : Option Addr) (c : Nat) (w : World) (hp : PkOk p) : Calls Tryd.prog 112 #[.agg (pkV p a c)] w fun e w' => e = .returned (.bool (bareB p)) ∧ Below w.heap.size w w' := by
  obtain ⟨k0, k1, k2, k3, k4, k5, k6, k7, k8, k9, k10, k11, k12, k13, k14, k15, k16, k17, k18, k19, k20, k21, k22, k23⟩ := pk_at p a c; by_cases hs : p.subs = [] ∨ p.ty = 8 ∨ p.ty = 10
  · have HBB := Lib.hid (show bareB p = decide (p.bare = onlyF p) by
      unfold bareB; rcases hs with h | h | h <;> simp [h])
    have hway := way_of p hs; clear hs; cases hway
    case t1 s0 e1 ho => rw [HBB.out]; exact bare_t1 p a c w hp s0 e1 ho
    case t2 s0 e1 e2 ho => rw [HBB.out]; exact bare_t2 p a c w hp s0 e1 e2 ho
    case t3 s0 e1 e2 e3 ho => rw [HBB.out]; exact bare_t3 p a c w hp s0 e1 e2 e3 ho
    case t9 s0 e1 e2 e3 e9 ho => rw [HBB.out]; exact bare_t9 p a c w hp s0 e1 e2 e3 e9 ho
    case t12 s0 e1 e2 e3 e9 e12 ho => rw [HBB.out]; exact bare_t12 p a c w hp s0 e1 e2 e3 e9 e12 ho
    case t13 s0 e1 e2 e3 e9 e12 e13 ho => rw [HBB.out]; exact bare_t13 p a c w hp s0 e1 e2 e3 e9 e12 e13 ho
    case t14 s0 e1 e2 e3 e9 e12 e13 e14 ho => rw [HBB.out]; exact bare_t14 p a c w hp s0 e1 e2 e3 e9 e12 e13 e14 ho
    case o0 s0 e1 e2 e3 e9 e12 e13 e14 ho => rw [HBB.out]; exact bare_o0 p a c w hp s0 e1 e2 e3 e9 e12 e13 e14 ho
    case o8 sl s0 e1 e2 e3 e9 e12 e13 e14 ho => rw [HBB.out]; exact bare_o8 p a c w hp sl s0 e1 e2 e3 e9 e12 e13 e14 ho
    case o10 sl s0 s1 e1 e2 e3 e9 e12 e13 e14 ho => rw [HBB.out]; exact bare_o10 p a c w hp sl s0 s1 e1 e2 e3 e9 e12 e13 e14 ho
  · have hl : (0 : Int) < (p.subs.length : Int) := by
      have : p.subs ≠ [] := fun h => hs (Or.inl h)
      have := List.length_pos_iff.2 this; omega
    have h8 : ((p.ty : Int) != 8) = true := by rw [bne_iff_ne]; intro h; exact hs (Or.inr (Or.inl (by omega)))
    have h10 : ((p.ty : Int) != 10) = true := by rw [bne_iff_ne]; intro h; exact hs (Or.inr (Or.inr (by omega)))
    have HBB := Lib.hid (show bareB p = false by
      unfold bareB; cases hq : p.subs with
      | nil => exact absurd (Or.inl hq) hs
      | cons x r =>
        have e8 : ¬ p.ty = 8 := fun h => hs (Or.inr (Or.inl h))
        have e10 : ¬ p.ty = 10 := fun h => hs (Or.inr (Or.inr h))
        simp [e8, e10])
    clear hs; go_enter Tryd.func112, Tryd.ntmps112
    go_wp2_with fail
    go_ret
    exact ⟨by rw [HBB.out]; rfl, by go_grown⟩
end Go.Proofs.YtnnpokndajpkiaaDoor
