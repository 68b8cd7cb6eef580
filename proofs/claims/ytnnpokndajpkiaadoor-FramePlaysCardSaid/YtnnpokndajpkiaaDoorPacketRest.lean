import Derived.Test.YtnnpokndajpkiaaDoorPacketBare
import Derived.Test.YtnnpokndajpkiaaDoorJoinB
namespace Go.Proofs.YtnnpokndajpkiaaDoor
open Go.RowKit
theorem wpList_load_boxG {P : Program} {ops : Array Oper} {rest : List Oper} {o : Oper} {a : Act} {w : World} {Q : Exit → Act → World → Prop} (hw : Region.wanted o (yielded ops a.tmps) = true) (ty : TypeId) (x : Operand) (ho : o.op = .load ty x) (X : Nat) (hx : a.eval x = .pointer (some ⟨X, 0, none⟩)) (T : TypeId) (cs : Array Value) (hb : BoxAt w X cs T)
    (d : TypeDesc) (hu : P.underlying ty = some d) (hd : (match d with | .struct _ | .array _ _ => true | _ => false) = true) (hi : (P.info? ty).map (·.size) = some cs.size)
    (h : wpList P ops Q rest (a.put o.dst (.agg cs)) w) : wpList P ops Q (o :: rest) a w :=
  wpList_step fun K hK => by rw [if_pos hw]; exact wp_load_row ty x ho X hx T cs (0, 0) d hb hu hd hi (hK _ _ h)
set_option maxRecDepth 100000 in
set_option maxHeartbeats 4000000 in
theorem rest_t1 (p : Pk) (a : Option Addr) (c : Nat) (w : World) (hE : Env w) (hp : PkOk p) (_ha : CellsA w a (subCells p.subs)) (e1 : ((p.ty : Int) == 1) = true) :
    Calls Tryd.prog 80 #[.agg (pkV p a c)] w fun e w' => e = .returned (.int .i64 (restOf (connectN p) (bareB p))) ∧ Below w.heap.size w w' := by
  have hb : Below w.heap.size w (w.alloc (.cells (pkV p a c) 40)) := (Below.refl _ _).alloc (Nat.le_refl _) _; have HBX := Lib.hid (BoxAt.new w (pkV p a c) 40); have HBA := Lib.hid (fun w1 => packet_bare p a c w1 hp); have HC := Lib.hid (packet_connect p a c (w.alloc (.cells (pkV p a c) 40)) (hE.below hb) hp); have hty := hp.ty; have hcd := hp.code; clear hp _ha hE; generalize hn : connectN p = n at *; have FIN := Lib.hid (show ∀ (v : Int) (w' : World), restOf (n) (bareB p) = v → Below w.heap.size w w' → Ending.returned (.int .i64 v) = .returned (.int .i64 (restOf (n) (bareB p))) ∧ Below w.heap.size w w' from by rintro v w' rfl h; exact ⟨rfl, h⟩); clear hn; obtain ⟨k0, k1, k2, k3, k4, k5, k6, k7, k8, k9, k10, k11, k12, k13, k14, k15, k16, k17, k18, k19, k20, k21, k22, k23⟩ := pk_at p a c; by_cases h0 : n < 0
  · go_enter Tryd.func80, Tryd.ntmps80
    go_wp2_with (first
      | (go_at_call 107; refine Calls.mono HC.out ?_; rintro e w1 ⟨rfl, hb1⟩; replace HBX := Lib.hid (HBX.out.below hb1); have hX := HBX.out.cells; replace hb := Below.then hb hb1; clear hb1)
      | ((with_reducible show wpList _ _ _ (⟨some 8, _, _, _, _, _⟩ :: _) _ _); refine wpList_load_box rfl 40 (.tmp 1) rfl w.heap.size rfl 40 (pkV p a c) HBX.out _ Tryd.underlying40 rfl (pk_size p a c) ?_))
    go_ret
    exact FIN.out _ _ (by unfold restOf; rw [if_pos (Or.inl h0)]) hb
  · by_cases h1 : 268435455 < n
    · go_enter Tryd.func80, Tryd.ntmps80
      go_wp2_with (first
      | (go_at_call 107; refine Calls.mono HC.out ?_; rintro e w1 ⟨rfl, hb1⟩; replace HBX := Lib.hid (HBX.out.below hb1); have hX := HBX.out.cells; replace hb := Below.then hb hb1; clear hb1)
      | ((with_reducible show wpList _ _ _ (⟨some 8, _, _, _, _, _⟩ :: _) _ _); refine wpList_load_box rfl 40 (.tmp 1) rfl w.heap.size rfl 40 (pkV p a c) HBX.out _ Tryd.underlying40 rfl (pk_size p a c) ?_))
      go_ret
      exact FIN.out _ _ (by unfold restOf; rw [if_pos (Or.inr (Or.inl h1))]) hb
    · obtain ⟨bb, hbb⟩ : ∃ b, bareB p = b := ⟨_, rfl⟩
      have d0 : decide (n < 0) = false := by simpa using h0
      have d1 : decide (268435455 < n) = false := by simpa using h1
      have H01 := Lib.hid (And.intro h0 h1); clear h0 h1; cases bb; all_goals
        rw [hbb] at HBA; have HBB := Lib.hid hbb; clear hbb; go_enter Tryd.func80, Tryd.ntmps80
        go_wp2_with (first
      | (go_at_call 107; refine Calls.mono HC.out ?_; rintro e w1 ⟨rfl, hb1⟩; replace HBX := Lib.hid (HBX.out.below hb1); have hX := HBX.out.cells; replace hb := Below.then hb hb1; clear hb1)
      | ((with_reducible show wpList _ _ _ (⟨some 8, _, _, _, _, _⟩ :: _) _ _); refine wpList_load_box rfl 40 (.tmp 1) rfl w.heap.size rfl 40 (pkV p a c) HBX.out _ Tryd.underlying40 rfl (pk_size p a c) ?_)
      | (go_at_call 112; refine Calls.mono (HBA.out _) ?_; rintro e w2 ⟨rfl, hb1⟩; replace hb := Below.then hb hb1; clear hb1)
      | ((with_reducible show wpList _ _ _ (⟨some 57, _, _, _, _, _⟩ :: _) _ _); refine wpList_load_boxG (by kernel_rfl) 40 (.tmp 1) rfl w.heap.size rfl 40 (pkV p a c) HBX.out _ Tryd.underlying40 rfl (pk_size p a c) ?_))
        go_ret
      · exact FIN.out _ _ (by unfold restOf; rw [if_pos (Or.inr (Or.inr HBB.out))]) hb
      · exact FIN.out _ _ (by unfold restOf; rw [HBB.out, if_neg (fun h => h.elim (Int.not_lt.2 H01.out.1) (fun h => h.elim (Int.not_lt.2 H01.out.2) (fun h => Bool.noConfusion h)))]) hb
set_option maxRecDepth 100000 in
set_option maxHeartbeats 4000000 in
theorem rest_t2 (p : Pk) (a : Option Addr) (c : Nat) (w : World) (_hE : Env w) (hp : PkOk p) (_ha : CellsA w a (subCells p.subs)) (e1 : ((p.ty : Int) == 1) = false) (e2 : ((p.ty : Int) == 2) = true) :
    Calls Tryd.prog 80 #[.agg (pkV p a c)] w fun e w' => e = .returned (.int .i64 (restOf (connackN p) (bareB p))) ∧ Below w.heap.size w w' := by
  have hb : Below w.heap.size w (w.alloc (.cells (pkV p a c) 40)) := (Below.refl _ _).alloc (Nat.le_refl _) _; have HBX := Lib.hid (BoxAt.new w (pkV p a c) 40); have HBA := Lib.hid (fun w1 => packet_bare p a c w1 hp); have hty := hp.ty; have hcd := hp.code; clear hp _ha _hE; have FIN := Lib.hid (show ∀ (v : Int) (w' : World), restOf (connackN p) (bareB p) = v → Below w.heap.size w w' → Ending.returned (.int .i64 v) = .returned (.int .i64 (restOf (connackN p) (bareB p))) ∧ Below w.heap.size w w' from by rintro v w' rfl h; exact ⟨rfl, h⟩); obtain ⟨k0, k1, k2, k3, k4, k5, k6, k7, k8, k9, k10, k11, k12, k13, k14, k15, k16, k17, k18, k19, k20, k21, k22, k23⟩ := pk_at p a c; by_cases hk : p.code ≤ 5 ∧ (p.code = 0 ∨ p.present = false)
  · have HK := Lib.hid (show connackN p = 2 by unfold connackN; rw [if_pos hk])
    have f1 : (p.code : Int) ≤ 5 := by omega
    have f2 : ((p.code : Int) == 0) = true ∨ (((p.code : Int) == 0) = false ∧ p.present = false) := by
      by_cases h : p.code = 0
      · left; rw [h]; rfl
      · right; exact ⟨by rw [beq_eq_false_iff_ne]; omega, by rcases hk.2 with h2 | h2; exact absurd h2 h; exact h2⟩
    clear hk; obtain ⟨bb, hbb⟩ : ∃ b, bareB p = b := ⟨_, rfl⟩
    cases bb <;> rcases f2 with f2 | ⟨f2, f3⟩
    all_goals
      rw [hbb] at HBA; have HBB := Lib.hid hbb; clear hbb; go_enter Tryd.func80, Tryd.ntmps80
      go_wp2_with (first
      | (go_at_call 112; refine Calls.mono (HBA.out _) ?_; rintro e w2 ⟨rfl, hb1⟩; replace hb := Below.then hb hb1; clear hb1)
      | ((with_reducible show wpList _ _ _ (⟨some 57, _, _, _, _, _⟩ :: _) _ _); refine wpList_load_boxG (by kernel_rfl) 40 (.tmp 1) rfl w.heap.size rfl 40 (pkV p a c) HBX.out _ Tryd.underlying40 rfl (pk_size p a c) ?_))
      go_ret
    · exact FIN.out (-1) _ (by rw [HK.out, HBB.out]; unfold restOf; simp) hb
    · exact FIN.out (-1) _ (by rw [HK.out, HBB.out]; unfold restOf; simp) hb
    · exact FIN.out 2 _ (by rw [HK.out, HBB.out]; unfold restOf; simp) hb
    · exact FIN.out 2 _ (by rw [HK.out, HBB.out]; unfold restOf; simp) hb
  · have HK := Lib.hid (show connackN p = -1 by unfold connackN; rw [if_neg hk])
    have f2 : ¬ (p.code : Int) ≤ 5 ∨ ((p.code : Int) ≤ 5 ∧ ((p.code : Int) == 0) = false ∧ p.present = true) := by
      by_cases h : p.code ≤ 5
      · right
        refine ⟨by omega, ?_, ?_⟩
        · rw [beq_eq_false_iff_ne]; intro h2; exact hk ⟨h, Or.inl (by omega)⟩
        · cases h3 : p.present with
          | true => rfl
          | false => exact absurd ⟨h, Or.inr h3⟩ hk
      · left; omega
    clear hk; rcases f2 with f2 | ⟨f2, f3, f4⟩
    all_goals
      go_enter Tryd.func80, Tryd.ntmps80
      go_wp2_with fail
      go_ret
      exact FIN.out (-1) _ (by rw [HK.out]; unfold restOf; simp) hb
set_option maxRecDepth 100000 in
set_option maxHeartbeats 4000000 in
theorem rest_t3 (p : Pk) (a : Option Addr) (c : Nat) (w : World) (hE : Env w) (hp : PkOk p) (_ha : CellsA w a (subCells p.subs)) (e1 : ((p.ty : Int) == 1) = false) (e2 : ((p.ty : Int) == 2) = false) (e3 : ((p.ty : Int) == 3) = true) :
    Calls Tryd.prog 80 #[.agg (pkV p a c)] w fun e w' => e = .returned (.int .i64 (restOf (publishN p) (bareB p))) ∧ Below w.heap.size w w' := by
  have hb : Below w.heap.size w (w.alloc (.cells (pkV p a c) 40)) := (Below.refl _ _).alloc (Nat.le_refl _) _; have HBX := Lib.hid (BoxAt.new w (pkV p a c) 40); have HBA := Lib.hid (fun w1 => packet_bare p a c w1 hp); have HC := Lib.hid (packet_publish p a c (w.alloc (.cells (pkV p a c) 40)) (hE.below hb) hp); have hty := hp.ty; have hcd := hp.code; clear hp _ha hE; generalize hn : publishN p = n at *; have FIN := Lib.hid (show ∀ (v : Int) (w' : World), restOf (n) (bareB p) = v → Below w.heap.size w w' → Ending.returned (.int .i64 v) = .returned (.int .i64 (restOf (n) (bareB p))) ∧ Below w.heap.size w w' from by rintro v w' rfl h; exact ⟨rfl, h⟩); clear hn; obtain ⟨k0, k1, k2, k3, k4, k5, k6, k7, k8, k9, k10, k11, k12, k13, k14, k15, k16, k17, k18, k19, k20, k21, k22, k23⟩ := pk_at p a c; by_cases h0 : n < 0
  · go_enter Tryd.func80, Tryd.ntmps80
    go_wp2_with (first
      | (go_at_call 108; refine Calls.mono HC.out ?_; rintro e w1 ⟨rfl, hb1⟩; replace HBX := Lib.hid (HBX.out.below hb1); have hX := HBX.out.cells; replace hb := Below.then hb hb1; clear hb1)
      | ((with_reducible show wpList _ _ _ (⟨some 27, _, _, _, _, _⟩ :: _) _ _); refine wpList_load_box rfl 40 (.tmp 1) rfl w.heap.size rfl 40 (pkV p a c) HBX.out _ Tryd.underlying40 rfl (pk_size p a c) ?_))
    go_ret
    exact FIN.out _ _ (by unfold restOf; rw [if_pos (Or.inl h0)]) hb
  · by_cases h1 : 268435455 < n
    · go_enter Tryd.func80, Tryd.ntmps80
      go_wp2_with (first
      | (go_at_call 108; refine Calls.mono HC.out ?_; rintro e w1 ⟨rfl, hb1⟩; replace HBX := Lib.hid (HBX.out.below hb1); have hX := HBX.out.cells; replace hb := Below.then hb hb1; clear hb1)
      | ((with_reducible show wpList _ _ _ (⟨some 27, _, _, _, _, _⟩ :: _) _ _); refine wpList_load_box rfl 40 (.tmp 1) rfl w.heap.size rfl 40 (pkV p a c) HBX.out _ Tryd.underlying40 rfl (pk_size p a c) ?_))
      go_ret
      exact FIN.out _ _ (by unfold restOf; rw [if_pos (Or.inr (Or.inl h1))]) hb
    · obtain ⟨bb, hbb⟩ : ∃ b, bareB p = b := ⟨_, rfl⟩
      have d0 : decide (n < 0) = false := by simpa using h0
      have d1 : decide (268435455 < n) = false := by simpa using h1
      have H01 := Lib.hid (And.intro h0 h1); clear h0 h1; cases bb; all_goals
        rw [hbb] at HBA; have HBB := Lib.hid hbb; clear hbb; go_enter Tryd.func80, Tryd.ntmps80
        go_wp2_with (first
      | (go_at_call 108; refine Calls.mono HC.out ?_; rintro e w1 ⟨rfl, hb1⟩; replace HBX := Lib.hid (HBX.out.below hb1); have hX := HBX.out.cells; replace hb := Below.then hb hb1; clear hb1)
      | ((with_reducible show wpList _ _ _ (⟨some 27, _, _, _, _, _⟩ :: _) _ _); refine wpList_load_box rfl 40 (.tmp 1) rfl w.heap.size rfl 40 (pkV p a c) HBX.out _ Tryd.underlying40 rfl (pk_size p a c) ?_)
      | (go_at_call 112; refine Calls.mono (HBA.out _) ?_; rintro e w2 ⟨rfl, hb1⟩; replace hb := Below.then hb hb1; clear hb1)
      | ((with_reducible show wpList _ _ _ (⟨some 57, _, _, _, _, _⟩ :: _) _ _); refine wpList_load_boxG (by kernel_rfl) 40 (.tmp 1) rfl w.heap.size rfl 40 (pkV p a c) HBX.out _ Tryd.underlying40 rfl (pk_size p a c) ?_))
        go_ret
      · exact FIN.out _ _ (by unfold restOf; rw [if_pos (Or.inr (Or.inr HBB.out))]) hb
      · exact FIN.out _ _ (by unfold restOf; rw [HBB.out, if_neg (fun h => h.elim (Int.not_lt.2 H01.out.1) (fun h => h.elim (Int.not_lt.2 H01.out.2) (fun h => Bool.noConfusion h)))]) hb
set_option maxRecDepth 100000 in
set_option maxHeartbeats 4000000 in
theorem rest_t4 (p : Pk) (a : Option Addr) (c : Nat) (w : World) (_hE : Env w) (hp : PkOk p) (_ha : CellsA w a (subCells p.subs)) (e1 : ((p.ty : Int) == 1) = false) (e2 : ((p.ty : Int) == 2) = false) (e3 : ((p.ty : Int) == 3) = false) (e4 : ((p.ty : Int) == 4) = true) :
    Calls Tryd.prog 80 #[.agg (pkV p a c)] w fun e w' => e = .returned (.int .i64 (restOf (idN p) (bareB p))) ∧ Below w.heap.size w w' := by
  have hb : Below w.heap.size w (w.alloc (.cells (pkV p a c) 40)) := (Below.refl _ _).alloc (Nat.le_refl _) _; have HBX := Lib.hid (BoxAt.new w (pkV p a c) 40); have HBA := Lib.hid (fun w1 => packet_bare p a c w1 hp); have HC := Lib.hid (packet_id p a c (w.alloc (.cells (pkV p a c) 40))); have hty := hp.ty; have hcd := hp.code; clear hp _ha _hE; generalize hn : idN p = n at *; have FIN := Lib.hid (show ∀ (v : Int) (w' : World), restOf (n) (bareB p) = v → Below w.heap.size w w' → Ending.returned (.int .i64 v) = .returned (.int .i64 (restOf (n) (bareB p))) ∧ Below w.heap.size w w' from by rintro v w' rfl h; exact ⟨rfl, h⟩); clear hn; obtain ⟨k0, k1, k2, k3, k4, k5, k6, k7, k8, k9, k10, k11, k12, k13, k14, k15, k16, k17, k18, k19, k20, k21, k22, k23⟩ := pk_at p a c; by_cases h0 : n < 0
  · go_enter Tryd.func80, Tryd.ntmps80
    go_wp2_with (first
      | (go_at_call 109; refine Calls.mono HC.out ?_; rintro e w1 ⟨rfl, hb1⟩; replace HBX := Lib.hid (HBX.out.below hb1); have hX := HBX.out.cells; replace hb := Below.then hb hb1; clear hb1)
      | ((with_reducible show wpList _ _ _ (⟨some 35, _, _, _, _, _⟩ :: _) _ _); refine wpList_load_box rfl 40 (.tmp 1) rfl w.heap.size rfl 40 (pkV p a c) HBX.out _ Tryd.underlying40 rfl (pk_size p a c) ?_))
    go_ret
    exact FIN.out _ _ (by unfold restOf; rw [if_pos (Or.inl h0)]) hb
  · by_cases h1 : 268435455 < n
    · go_enter Tryd.func80, Tryd.ntmps80
      go_wp2_with (first
      | (go_at_call 109; refine Calls.mono HC.out ?_; rintro e w1 ⟨rfl, hb1⟩; replace HBX := Lib.hid (HBX.out.below hb1); have hX := HBX.out.cells; replace hb := Below.then hb hb1; clear hb1)
      | ((with_reducible show wpList _ _ _ (⟨some 35, _, _, _, _, _⟩ :: _) _ _); refine wpList_load_box rfl 40 (.tmp 1) rfl w.heap.size rfl 40 (pkV p a c) HBX.out _ Tryd.underlying40 rfl (pk_size p a c) ?_))
      go_ret
      exact FIN.out _ _ (by unfold restOf; rw [if_pos (Or.inr (Or.inl h1))]) hb
    · obtain ⟨bb, hbb⟩ : ∃ b, bareB p = b := ⟨_, rfl⟩
      have d0 : decide (n < 0) = false := by simpa using h0
      have d1 : decide (268435455 < n) = false := by simpa using h1
      have H01 := Lib.hid (And.intro h0 h1); clear h0 h1; cases bb; all_goals
        rw [hbb] at HBA; have HBB := Lib.hid hbb; clear hbb; go_enter Tryd.func80, Tryd.ntmps80
        go_wp2_with (first
      | (go_at_call 109; refine Calls.mono HC.out ?_; rintro e w1 ⟨rfl, hb1⟩; replace HBX := Lib.hid (HBX.out.below hb1); have hX := HBX.out.cells; replace hb := Below.then hb hb1; clear hb1)
      | ((with_reducible show wpList _ _ _ (⟨some 35, _, _, _, _, _⟩ :: _) _ _); refine wpList_load_box rfl 40 (.tmp 1) rfl w.heap.size rfl 40 (pkV p a c) HBX.out _ Tryd.underlying40 rfl (pk_size p a c) ?_)
      | (go_at_call 112; refine Calls.mono (HBA.out _) ?_; rintro e w2 ⟨rfl, hb1⟩; replace hb := Below.then hb hb1; clear hb1)
      | ((with_reducible show wpList _ _ _ (⟨some 57, _, _, _, _, _⟩ :: _) _ _); refine wpList_load_boxG (by kernel_rfl) 40 (.tmp 1) rfl w.heap.size rfl 40 (pkV p a c) HBX.out _ Tryd.underlying40 rfl (pk_size p a c) ?_))
        go_ret
      · exact FIN.out _ _ (by unfold restOf; rw [if_pos (Or.inr (Or.inr HBB.out))]) hb
      · exact FIN.out _ _ (by unfold restOf; rw [HBB.out, if_neg (fun h => h.elim (Int.not_lt.2 H01.out.1) (fun h => h.elim (Int.not_lt.2 H01.out.2) (fun h => Bool.noConfusion h)))]) hb
set_option maxRecDepth 100000 in
set_option maxHeartbeats 4000000 in
theorem rest_t5 (p : Pk) (a : Option Addr) (c : Nat) (w : World) (_hE : Env w) (hp : PkOk p) (_ha : CellsA w a (subCells p.subs)) (e1 : ((p.ty : Int) == 1) = false) (e2 : ((p.ty : Int) == 2) = false) (e3 : ((p.ty : Int) == 3) = false) (e4 : ((p.ty : Int) == 4) = false) (e5 : ((p.ty : Int) == 5) = true) :
    Calls Tryd.prog 80 #[.agg (pkV p a c)] w fun e w' => e = .returned (.int .i64 (restOf (idN p) (bareB p))) ∧ Below w.heap.size w w' := by
  have hb : Below w.heap.size w (w.alloc (.cells (pkV p a c) 40)) := (Below.refl _ _).alloc (Nat.le_refl _) _; have HBX := Lib.hid (BoxAt.new w (pkV p a c) 40); have HBA := Lib.hid (fun w1 => packet_bare p a c w1 hp); have HC := Lib.hid (packet_id p a c (w.alloc (.cells (pkV p a c) 40))); have hty := hp.ty; have hcd := hp.code; clear hp _ha _hE; generalize hn : idN p = n at *; have FIN := Lib.hid (show ∀ (v : Int) (w' : World), restOf (n) (bareB p) = v → Below w.heap.size w w' → Ending.returned (.int .i64 v) = .returned (.int .i64 (restOf (n) (bareB p))) ∧ Below w.heap.size w w' from by rintro v w' rfl h; exact ⟨rfl, h⟩); clear hn; obtain ⟨k0, k1, k2, k3, k4, k5, k6, k7, k8, k9, k10, k11, k12, k13, k14, k15, k16, k17, k18, k19, k20, k21, k22, k23⟩ := pk_at p a c; by_cases h0 : n < 0
  · go_enter Tryd.func80, Tryd.ntmps80
    go_wp2_with (first
      | (go_at_call 109; refine Calls.mono HC.out ?_; rintro e w1 ⟨rfl, hb1⟩; replace HBX := Lib.hid (HBX.out.below hb1); have hX := HBX.out.cells; replace hb := Below.then hb hb1; clear hb1)
      | ((with_reducible show wpList _ _ _ (⟨some 35, _, _, _, _, _⟩ :: _) _ _); refine wpList_load_box rfl 40 (.tmp 1) rfl w.heap.size rfl 40 (pkV p a c) HBX.out _ Tryd.underlying40 rfl (pk_size p a c) ?_))
    go_ret
    exact FIN.out _ _ (by unfold restOf; rw [if_pos (Or.inl h0)]) hb
  · by_cases h1 : 268435455 < n
    · go_enter Tryd.func80, Tryd.ntmps80
      go_wp2_with (first
      | (go_at_call 109; refine Calls.mono HC.out ?_; rintro e w1 ⟨rfl, hb1⟩; replace HBX := Lib.hid (HBX.out.below hb1); have hX := HBX.out.cells; replace hb := Below.then hb hb1; clear hb1)
      | ((with_reducible show wpList _ _ _ (⟨some 35, _, _, _, _, _⟩ :: _) _ _); refine wpList_load_box rfl 40 (.tmp 1) rfl w.heap.size rfl 40 (pkV p a c) HBX.out _ Tryd.underlying40 rfl (pk_size p a c) ?_))
      go_ret
      exact FIN.out _ _ (by unfold restOf; rw [if_pos (Or.inr (Or.inl h1))]) hb
    · obtain ⟨bb, hbb⟩ : ∃ b, bareB p = b := ⟨_, rfl⟩
      have d0 : decide (n < 0) = false := by simpa using h0
      have d1 : decide (268435455 < n) = false := by simpa using h1
      have H01 := Lib.hid (And.intro h0 h1); clear h0 h1; cases bb; all_goals
        rw [hbb] at HBA; have HBB := Lib.hid hbb; clear hbb; go_enter Tryd.func80, Tryd.ntmps80
        go_wp2_with (first
      | (go_at_call 109; refine Calls.mono HC.out ?_; rintro e w1 ⟨rfl, hb1⟩; replace HBX := Lib.hid (HBX.out.below hb1); have hX := HBX.out.cells; replace hb := Below.then hb hb1; clear hb1)
      | ((with_reducible show wpList _ _ _ (⟨some 35, _, _, _, _, _⟩ :: _) _ _); refine wpList_load_box rfl 40 (.tmp 1) rfl w.heap.size rfl 40 (pkV p a c) HBX.out _ Tryd.underlying40 rfl (pk_size p a c) ?_)
      | (go_at_call 112; refine Calls.mono (HBA.out _) ?_; rintro e w2 ⟨rfl, hb1⟩; replace hb := Below.then hb hb1; clear hb1)
      | ((with_reducible show wpList _ _ _ (⟨some 57, _, _, _, _, _⟩ :: _) _ _); refine wpList_load_boxG (by kernel_rfl) 40 (.tmp 1) rfl w.heap.size rfl 40 (pkV p a c) HBX.out _ Tryd.underlying40 rfl (pk_size p a c) ?_))
        go_ret
      · exact FIN.out _ _ (by unfold restOf; rw [if_pos (Or.inr (Or.inr HBB.out))]) hb
      · exact FIN.out _ _ (by unfold restOf; rw [HBB.out, if_neg (fun h => h.elim (Int.not_lt.2 H01.out.1) (fun h => h.elim (Int.not_lt.2 H01.out.2) (fun h => Bool.noConfusion h)))]) hb
set_option maxRecDepth 100000 in
set_option maxHeartbeats 4000000 in
theorem rest_t6 (p : Pk) (a : Option Addr) (c : Nat) (w : World) (_hE : Env w) (hp : PkOk p) (_ha : CellsA w a (subCells p.subs)) (e1 : ((p.ty : Int) == 1) = false) (e2 : ((p.ty : Int) == 2) = false) (e3 : ((p.ty : Int) == 3) = false) (e4 : ((p.ty : Int) == 4) = false) (e5 : ((p.ty : Int) == 5) = false) (e6 : ((p.ty : Int) == 6) = true) :
    Calls Tryd.prog 80 #[.agg (pkV p a c)] w fun e w' => e = .returned (.int .i64 (restOf (idN p) (bareB p))) ∧ Below w.heap.size w w' := by
  have hb : Below w.heap.size w (w.alloc (.cells (pkV p a c) 40)) := (Below.refl _ _).alloc (Nat.le_refl _) _; have HBX := Lib.hid (BoxAt.new w (pkV p a c) 40); have HBA := Lib.hid (fun w1 => packet_bare p a c w1 hp); have HC := Lib.hid (packet_id p a c (w.alloc (.cells (pkV p a c) 40))); have hty := hp.ty; have hcd := hp.code; clear hp _ha _hE; generalize hn : idN p = n at *; have FIN := Lib.hid (show ∀ (v : Int) (w' : World), restOf (n) (bareB p) = v → Below w.heap.size w w' → Ending.returned (.int .i64 v) = .returned (.int .i64 (restOf (n) (bareB p))) ∧ Below w.heap.size w w' from by rintro v w' rfl h; exact ⟨rfl, h⟩); clear hn; obtain ⟨k0, k1, k2, k3, k4, k5, k6, k7, k8, k9, k10, k11, k12, k13, k14, k15, k16, k17, k18, k19, k20, k21, k22, k23⟩ := pk_at p a c; by_cases h0 : n < 0
  · go_enter Tryd.func80, Tryd.ntmps80
    go_wp2_with (first
      | (go_at_call 109; refine Calls.mono HC.out ?_; rintro e w1 ⟨rfl, hb1⟩; replace HBX := Lib.hid (HBX.out.below hb1); have hX := HBX.out.cells; replace hb := Below.then hb hb1; clear hb1)
      | ((with_reducible show wpList _ _ _ (⟨some 35, _, _, _, _, _⟩ :: _) _ _); refine wpList_load_box rfl 40 (.tmp 1) rfl w.heap.size rfl 40 (pkV p a c) HBX.out _ Tryd.underlying40 rfl (pk_size p a c) ?_))
    go_ret
    exact FIN.out _ _ (by unfold restOf; rw [if_pos (Or.inl h0)]) hb
  · by_cases h1 : 268435455 < n
    · go_enter Tryd.func80, Tryd.ntmps80
      go_wp2_with (first
      | (go_at_call 109; refine Calls.mono HC.out ?_; rintro e w1 ⟨rfl, hb1⟩; replace HBX := Lib.hid (HBX.out.below hb1); have hX := HBX.out.cells; replace hb := Below.then hb hb1; clear hb1)
      | ((with_reducible show wpList _ _ _ (⟨some 35, _, _, _, _, _⟩ :: _) _ _); refine wpList_load_box rfl 40 (.tmp 1) rfl w.heap.size rfl 40 (pkV p a c) HBX.out _ Tryd.underlying40 rfl (pk_size p a c) ?_))
      go_ret
      exact FIN.out _ _ (by unfold restOf; rw [if_pos (Or.inr (Or.inl h1))]) hb
    · obtain ⟨bb, hbb⟩ : ∃ b, bareB p = b := ⟨_, rfl⟩
      have d0 : decide (n < 0) = false := by simpa using h0
      have d1 : decide (268435455 < n) = false := by simpa using h1
      have H01 := Lib.hid (And.intro h0 h1); clear h0 h1; cases bb; all_goals
        rw [hbb] at HBA; have HBB := Lib.hid hbb; clear hbb; go_enter Tryd.func80, Tryd.ntmps80
        go_wp2_with (first
      | (go_at_call 109; refine Calls.mono HC.out ?_; rintro e w1 ⟨rfl, hb1⟩; replace HBX := Lib.hid (HBX.out.below hb1); have hX := HBX.out.cells; replace hb := Below.then hb hb1; clear hb1)
      | ((with_reducible show wpList _ _ _ (⟨some 35, _, _, _, _, _⟩ :: _) _ _); refine wpList_load_box rfl 40 (.tmp 1) rfl w.heap.size rfl 40 (pkV p a c) HBX.out _ Tryd.underlying40 rfl (pk_size p a c) ?_)
      | (go_at_call 112; refine Calls.mono (HBA.out _) ?_; rintro e w2 ⟨rfl, hb1⟩; replace hb := Below.then hb hb1; clear hb1)
      | ((with_reducible show wpList _ _ _ (⟨some 57, _, _, _, _, _⟩ :: _) _ _); refine wpList_load_boxG (by kernel_rfl) 40 (.tmp 1) rfl w.heap.size rfl 40 (pkV p a c) HBX.out _ Tryd.underlying40 rfl (pk_size p a c) ?_))
        go_ret
      · exact FIN.out _ _ (by unfold restOf; rw [if_pos (Or.inr (Or.inr HBB.out))]) hb
      · exact FIN.out _ _ (by unfold restOf; rw [HBB.out, if_neg (fun h => h.elim (Int.not_lt.2 H01.out.1) (fun h => h.elim (Int.not_lt.2 H01.out.2) (fun h => Bool.noConfusion h)))]) hb
set_option maxRecDepth 100000 in
set_option maxHeartbeats 4000000 in
theorem rest_t7 (p : Pk) (a : Option Addr) (c : Nat) (w : World) (_hE : Env w) (hp : PkOk p) (_ha : CellsA w a (subCells p.subs)) (e1 : ((p.ty : Int) == 1) = false) (e2 : ((p.ty : Int) == 2) = false) (e3 : ((p.ty : Int) == 3) = false) (e4 : ((p.ty : Int) == 4) = false) (e5 : ((p.ty : Int) == 5) = false) (e6 : ((p.ty : Int) == 6) = false) (e7 : ((p.ty : Int) == 7) = true) :
    Calls Tryd.prog 80 #[.agg (pkV p a c)] w fun e w' => e = .returned (.int .i64 (restOf (idN p) (bareB p))) ∧ Below w.heap.size w w' := by
  have hb : Below w.heap.size w (w.alloc (.cells (pkV p a c) 40)) := (Below.refl _ _).alloc (Nat.le_refl _) _; have HBX := Lib.hid (BoxAt.new w (pkV p a c) 40); have HBA := Lib.hid (fun w1 => packet_bare p a c w1 hp); have HC := Lib.hid (packet_id p a c (w.alloc (.cells (pkV p a c) 40))); have hty := hp.ty; have hcd := hp.code; clear hp _ha _hE; generalize hn : idN p = n at *; have FIN := Lib.hid (show ∀ (v : Int) (w' : World), restOf (n) (bareB p) = v → Below w.heap.size w w' → Ending.returned (.int .i64 v) = .returned (.int .i64 (restOf (n) (bareB p))) ∧ Below w.heap.size w w' from by rintro v w' rfl h; exact ⟨rfl, h⟩); clear hn; obtain ⟨k0, k1, k2, k3, k4, k5, k6, k7, k8, k9, k10, k11, k12, k13, k14, k15, k16, k17, k18, k19, k20, k21, k22, k23⟩ := pk_at p a c; by_cases h0 : n < 0
  · go_enter Tryd.func80, Tryd.ntmps80
    go_wp2_with (first
      | (go_at_call 109; refine Calls.mono HC.out ?_; rintro e w1 ⟨rfl, hb1⟩; replace HBX := Lib.hid (HBX.out.below hb1); have hX := HBX.out.cells; replace hb := Below.then hb hb1; clear hb1)
      | ((with_reducible show wpList _ _ _ (⟨some 35, _, _, _, _, _⟩ :: _) _ _); refine wpList_load_box rfl 40 (.tmp 1) rfl w.heap.size rfl 40 (pkV p a c) HBX.out _ Tryd.underlying40 rfl (pk_size p a c) ?_))
    go_ret
    exact FIN.out _ _ (by unfold restOf; rw [if_pos (Or.inl h0)]) hb
  · by_cases h1 : 268435455 < n
    · go_enter Tryd.func80, Tryd.ntmps80
      go_wp2_with (first
      | (go_at_call 109; refine Calls.mono HC.out ?_; rintro e w1 ⟨rfl, hb1⟩; replace HBX := Lib.hid (HBX.out.below hb1); have hX := HBX.out.cells; replace hb := Below.then hb hb1; clear hb1)
      | ((with_reducible show wpList _ _ _ (⟨some 35, _, _, _, _, _⟩ :: _) _ _); refine wpList_load_box rfl 40 (.tmp 1) rfl w.heap.size rfl 40 (pkV p a c) HBX.out _ Tryd.underlying40 rfl (pk_size p a c) ?_))
      go_ret
      exact FIN.out _ _ (by unfold restOf; rw [if_pos (Or.inr (Or.inl h1))]) hb
    · obtain ⟨bb, hbb⟩ : ∃ b, bareB p = b := ⟨_, rfl⟩
      have d0 : decide (n < 0) = false := by simpa using h0
      have d1 : decide (268435455 < n) = false := by simpa using h1
      have H01 := Lib.hid (And.intro h0 h1); clear h0 h1; cases bb; all_goals
        rw [hbb] at HBA; have HBB := Lib.hid hbb; clear hbb; go_enter Tryd.func80, Tryd.ntmps80
        go_wp2_with (first
      | (go_at_call 109; refine Calls.mono HC.out ?_; rintro e w1 ⟨rfl, hb1⟩; replace HBX := Lib.hid (HBX.out.below hb1); have hX := HBX.out.cells; replace hb := Below.then hb hb1; clear hb1)
      | ((with_reducible show wpList _ _ _ (⟨some 35, _, _, _, _, _⟩ :: _) _ _); refine wpList_load_box rfl 40 (.tmp 1) rfl w.heap.size rfl 40 (pkV p a c) HBX.out _ Tryd.underlying40 rfl (pk_size p a c) ?_)
      | (go_at_call 112; refine Calls.mono (HBA.out _) ?_; rintro e w2 ⟨rfl, hb1⟩; replace hb := Below.then hb hb1; clear hb1)
      | ((with_reducible show wpList _ _ _ (⟨some 57, _, _, _, _, _⟩ :: _) _ _); refine wpList_load_boxG (by kernel_rfl) 40 (.tmp 1) rfl w.heap.size rfl 40 (pkV p a c) HBX.out _ Tryd.underlying40 rfl (pk_size p a c) ?_))
        go_ret
      · exact FIN.out _ _ (by unfold restOf; rw [if_pos (Or.inr (Or.inr HBB.out))]) hb
      · exact FIN.out _ _ (by unfold restOf; rw [HBB.out, if_neg (fun h => h.elim (Int.not_lt.2 H01.out.1) (fun h => h.elim (Int.not_lt.2 H01.out.2) (fun h => Bool.noConfusion h)))]) hb
set_option maxRecDepth 100000 in
set_option maxHeartbeats 4000000 in
theorem rest_t11 (p : Pk) (a : Option Addr) (c : Nat) (w : World) (_hE : Env w) (hp : PkOk p) (_ha : CellsA w a (subCells p.subs)) (e1 : ((p.ty : Int) == 1) = false) (e2 : ((p.ty : Int) == 2) = false) (e3 : ((p.ty : Int) == 3) = false) (e4 : ((p.ty : Int) == 4) = false) (e5 : ((p.ty : Int) == 5) = false) (e6 : ((p.ty : Int) == 6) = false) (e7 : ((p.ty : Int) == 7) = false) (e11 : ((p.ty : Int) == 11) = true) :
    Calls Tryd.prog 80 #[.agg (pkV p a c)] w fun e w' => e = .returned (.int .i64 (restOf (idN p) (bareB p))) ∧ Below w.heap.size w w' := by
  have hb : Below w.heap.size w (w.alloc (.cells (pkV p a c) 40)) := (Below.refl _ _).alloc (Nat.le_refl _) _; have HBX := Lib.hid (BoxAt.new w (pkV p a c) 40); have HBA := Lib.hid (fun w1 => packet_bare p a c w1 hp); have HC := Lib.hid (packet_id p a c (w.alloc (.cells (pkV p a c) 40))); have hty := hp.ty; have hcd := hp.code; clear hp _ha _hE; generalize hn : idN p = n at *; have FIN := Lib.hid (show ∀ (v : Int) (w' : World), restOf (n) (bareB p) = v → Below w.heap.size w w' → Ending.returned (.int .i64 v) = .returned (.int .i64 (restOf (n) (bareB p))) ∧ Below w.heap.size w w' from by rintro v w' rfl h; exact ⟨rfl, h⟩); clear hn; obtain ⟨k0, k1, k2, k3, k4, k5, k6, k7, k8, k9, k10, k11, k12, k13, k14, k15, k16, k17, k18, k19, k20, k21, k22, k23⟩ := pk_at p a c; by_cases h0 : n < 0
  · go_enter Tryd.func80, Tryd.ntmps80
    go_wp2_with (first
      | (go_at_call 109; refine Calls.mono HC.out ?_; rintro e w1 ⟨rfl, hb1⟩; replace HBX := Lib.hid (HBX.out.below hb1); have hX := HBX.out.cells; replace hb := Below.then hb hb1; clear hb1)
      | ((with_reducible show wpList _ _ _ (⟨some 35, _, _, _, _, _⟩ :: _) _ _); refine wpList_load_box rfl 40 (.tmp 1) rfl w.heap.size rfl 40 (pkV p a c) HBX.out _ Tryd.underlying40 rfl (pk_size p a c) ?_))
    go_ret
    exact FIN.out _ _ (by unfold restOf; rw [if_pos (Or.inl h0)]) hb
  · by_cases h1 : 268435455 < n
    · go_enter Tryd.func80, Tryd.ntmps80
      go_wp2_with (first
      | (go_at_call 109; refine Calls.mono HC.out ?_; rintro e w1 ⟨rfl, hb1⟩; replace HBX := Lib.hid (HBX.out.below hb1); have hX := HBX.out.cells; replace hb := Below.then hb hb1; clear hb1)
      | ((with_reducible show wpList _ _ _ (⟨some 35, _, _, _, _, _⟩ :: _) _ _); refine wpList_load_box rfl 40 (.tmp 1) rfl w.heap.size rfl 40 (pkV p a c) HBX.out _ Tryd.underlying40 rfl (pk_size p a c) ?_))
      go_ret
      exact FIN.out _ _ (by unfold restOf; rw [if_pos (Or.inr (Or.inl h1))]) hb
    · obtain ⟨bb, hbb⟩ : ∃ b, bareB p = b := ⟨_, rfl⟩
      have d0 : decide (n < 0) = false := by simpa using h0
      have d1 : decide (268435455 < n) = false := by simpa using h1
      have H01 := Lib.hid (And.intro h0 h1); clear h0 h1; cases bb; all_goals
        rw [hbb] at HBA; have HBB := Lib.hid hbb; clear hbb; go_enter Tryd.func80, Tryd.ntmps80
        go_wp2_with (first
      | (go_at_call 109; refine Calls.mono HC.out ?_; rintro e w1 ⟨rfl, hb1⟩; replace HBX := Lib.hid (HBX.out.below hb1); have hX := HBX.out.cells; replace hb := Below.then hb hb1; clear hb1)
      | ((with_reducible show wpList _ _ _ (⟨some 35, _, _, _, _, _⟩ :: _) _ _); refine wpList_load_box rfl 40 (.tmp 1) rfl w.heap.size rfl 40 (pkV p a c) HBX.out _ Tryd.underlying40 rfl (pk_size p a c) ?_)
      | (go_at_call 112; refine Calls.mono (HBA.out _) ?_; rintro e w2 ⟨rfl, hb1⟩; replace hb := Below.then hb hb1; clear hb1)
      | ((with_reducible show wpList _ _ _ (⟨some 57, _, _, _, _, _⟩ :: _) _ _); refine wpList_load_boxG (by kernel_rfl) 40 (.tmp 1) rfl w.heap.size rfl 40 (pkV p a c) HBX.out _ Tryd.underlying40 rfl (pk_size p a c) ?_))
        go_ret
      · exact FIN.out _ _ (by unfold restOf; rw [if_pos (Or.inr (Or.inr HBB.out))]) hb
      · exact FIN.out _ _ (by unfold restOf; rw [HBB.out, if_neg (fun h => h.elim (Int.not_lt.2 H01.out.1) (fun h => h.elim (Int.not_lt.2 H01.out.2) (fun h => Bool.noConfusion h)))]) hb
set_option maxRecDepth 100000 in
set_option maxHeartbeats 4000000 in
theorem rest_t8 (p : Pk) (a : Option Addr) (c : Nat) (w : World) (hE : Env w) (hp : PkOk p) (ha : CellsA w a (subCells p.subs)) (e1 : ((p.ty : Int) == 1) = false) (e2 : ((p.ty : Int) == 2) = false) (e3 : ((p.ty : Int) == 3) = false) (e4 : ((p.ty : Int) == 4) = false) (e5 : ((p.ty : Int) == 5) = false) (e6 : ((p.ty : Int) == 6) = false) (e7 : ((p.ty : Int) == 7) = false) (e11 : ((p.ty : Int) == 11) = false) (e8 : ((p.ty : Int) == 8) = true) :
    Calls Tryd.prog 80 #[.agg (pkV p a c)] w fun e w' => e = .returned (.int .i64 (restOf (subsN p) (bareB p))) ∧ Below w.heap.size w w' := by
  have hb : Below w.heap.size w (w.alloc (.cells (pkV p a c) 40)) := (Below.refl _ _).alloc (Nat.le_refl _) _; have HBX := Lib.hid (BoxAt.new w (pkV p a c) 40); have HBA := Lib.hid (fun w1 => packet_bare p a c w1 hp); have HC := Lib.hid (packet_subs p a c (w.alloc (.cells (pkV p a c) 40)) (hE.below hb) hp (ha.below hb)); have hty := hp.ty; have hcd := hp.code; clear hp ha hE; generalize hn : subsN p = n at *; have FIN := Lib.hid (show ∀ (v : Int) (w' : World), restOf (n) (bareB p) = v → Below w.heap.size w w' → Ending.returned (.int .i64 v) = .returned (.int .i64 (restOf (n) (bareB p))) ∧ Below w.heap.size w w' from by rintro v w' rfl h; exact ⟨rfl, h⟩); clear hn; obtain ⟨k0, k1, k2, k3, k4, k5, k6, k7, k8, k9, k10, k11, k12, k13, k14, k15, k16, k17, k18, k19, k20, k21, k22, k23⟩ := pk_at p a c; by_cases h0 : n < 0
  · go_enter Tryd.func80, Tryd.ntmps80
    go_wp2_with (first
      | (go_at_call 110; refine Calls.mono HC.out ?_; rintro e w1 ⟨rfl, hb1⟩; replace HBX := Lib.hid (HBX.out.below hb1); have hX := HBX.out.cells; replace hb := Below.then hb hb1; clear hb1)
      | ((with_reducible show wpList _ _ _ (⟨some 40, _, _, _, _, _⟩ :: _) _ _); refine wpList_load_box rfl 40 (.tmp 1) rfl w.heap.size rfl 40 (pkV p a c) HBX.out _ Tryd.underlying40 rfl (pk_size p a c) ?_))
    go_ret
    exact FIN.out _ _ (by unfold restOf; rw [if_pos (Or.inl h0)]) hb
  · by_cases h1 : 268435455 < n
    · go_enter Tryd.func80, Tryd.ntmps80
      go_wp2_with (first
      | (go_at_call 110; refine Calls.mono HC.out ?_; rintro e w1 ⟨rfl, hb1⟩; replace HBX := Lib.hid (HBX.out.below hb1); have hX := HBX.out.cells; replace hb := Below.then hb hb1; clear hb1)
      | ((with_reducible show wpList _ _ _ (⟨some 40, _, _, _, _, _⟩ :: _) _ _); refine wpList_load_box rfl 40 (.tmp 1) rfl w.heap.size rfl 40 (pkV p a c) HBX.out _ Tryd.underlying40 rfl (pk_size p a c) ?_))
      go_ret
      exact FIN.out _ _ (by unfold restOf; rw [if_pos (Or.inr (Or.inl h1))]) hb
    · obtain ⟨bb, hbb⟩ : ∃ b, bareB p = b := ⟨_, rfl⟩
      have d0 : decide (n < 0) = false := by simpa using h0
      have d1 : decide (268435455 < n) = false := by simpa using h1
      have H01 := Lib.hid (And.intro h0 h1); clear h0 h1; cases bb; all_goals
        rw [hbb] at HBA; have HBB := Lib.hid hbb; clear hbb; go_enter Tryd.func80, Tryd.ntmps80
        go_wp2_with (first
      | (go_at_call 110; refine Calls.mono HC.out ?_; rintro e w1 ⟨rfl, hb1⟩; replace HBX := Lib.hid (HBX.out.below hb1); have hX := HBX.out.cells; replace hb := Below.then hb hb1; clear hb1)
      | ((with_reducible show wpList _ _ _ (⟨some 40, _, _, _, _, _⟩ :: _) _ _); refine wpList_load_box rfl 40 (.tmp 1) rfl w.heap.size rfl 40 (pkV p a c) HBX.out _ Tryd.underlying40 rfl (pk_size p a c) ?_)
      | (go_at_call 112; refine Calls.mono (HBA.out _) ?_; rintro e w2 ⟨rfl, hb1⟩; replace hb := Below.then hb hb1; clear hb1)
      | ((with_reducible show wpList _ _ _ (⟨some 57, _, _, _, _, _⟩ :: _) _ _); refine wpList_load_boxG (by kernel_rfl) 40 (.tmp 1) rfl w.heap.size rfl 40 (pkV p a c) HBX.out _ Tryd.underlying40 rfl (pk_size p a c) ?_))
        go_ret
      · exact FIN.out _ _ (by unfold restOf; rw [if_pos (Or.inr (Or.inr HBB.out))]) hb
      · exact FIN.out _ _ (by unfold restOf; rw [HBB.out, if_neg (fun h => h.elim (Int.not_lt.2 H01.out.1) (fun h => h.elim (Int.not_lt.2 H01.out.2) (fun h => Bool.noConfusion h)))]) hb
set_option maxRecDepth 100000 in
set_option maxHeartbeats 4000000 in
theorem rest_t10 (p : Pk) (a : Option Addr) (c : Nat) (w : World) (hE : Env w) (hp : PkOk p) (ha : CellsA w a (subCells p.subs)) (e1 : ((p.ty : Int) == 1) = false) (e2 : ((p.ty : Int) == 2) = false) (e3 : ((p.ty : Int) == 3) = false) (e4 : ((p.ty : Int) == 4) = false) (e5 : ((p.ty : Int) == 5) = false) (e6 : ((p.ty : Int) == 6) = false) (e7 : ((p.ty : Int) == 7) = false) (e11 : ((p.ty : Int) == 11) = false) (e8 : ((p.ty : Int) == 8) = false) (e10 : ((p.ty : Int) == 10) = true) :
    Calls Tryd.prog 80 #[.agg (pkV p a c)] w fun e w' => e = .returned (.int .i64 (restOf (subsN p) (bareB p))) ∧ Below w.heap.size w w' := by
  have hb : Below w.heap.size w (w.alloc (.cells (pkV p a c) 40)) := (Below.refl _ _).alloc (Nat.le_refl _) _; have HBX := Lib.hid (BoxAt.new w (pkV p a c) 40); have HBA := Lib.hid (fun w1 => packet_bare p a c w1 hp); have HC := Lib.hid (packet_subs p a c (w.alloc (.cells (pkV p a c) 40)) (hE.below hb) hp (ha.below hb)); have hty := hp.ty; have hcd := hp.code; clear hp ha hE; generalize hn : subsN p = n at *; have FIN := Lib.hid (show ∀ (v : Int) (w' : World), restOf (n) (bareB p) = v → Below w.heap.size w w' → Ending.returned (.int .i64 v) = .returned (.int .i64 (restOf (n) (bareB p))) ∧ Below w.heap.size w w' from by rintro v w' rfl h; exact ⟨rfl, h⟩); clear hn; obtain ⟨k0, k1, k2, k3, k4, k5, k6, k7, k8, k9, k10, k11, k12, k13, k14, k15, k16, k17, k18, k19, k20, k21, k22, k23⟩ := pk_at p a c; by_cases h0 : n < 0
  · go_enter Tryd.func80, Tryd.ntmps80
    go_wp2_with (first
      | (go_at_call 110; refine Calls.mono HC.out ?_; rintro e w1 ⟨rfl, hb1⟩; replace HBX := Lib.hid (HBX.out.below hb1); have hX := HBX.out.cells; replace hb := Below.then hb hb1; clear hb1)
      | ((with_reducible show wpList _ _ _ (⟨some 40, _, _, _, _, _⟩ :: _) _ _); refine wpList_load_box rfl 40 (.tmp 1) rfl w.heap.size rfl 40 (pkV p a c) HBX.out _ Tryd.underlying40 rfl (pk_size p a c) ?_))
    go_ret
    exact FIN.out _ _ (by unfold restOf; rw [if_pos (Or.inl h0)]) hb
  · by_cases h1 : 268435455 < n
    · go_enter Tryd.func80, Tryd.ntmps80
      go_wp2_with (first
      | (go_at_call 110; refine Calls.mono HC.out ?_; rintro e w1 ⟨rfl, hb1⟩; replace HBX := Lib.hid (HBX.out.below hb1); have hX := HBX.out.cells; replace hb := Below.then hb hb1; clear hb1)
      | ((with_reducible show wpList _ _ _ (⟨some 40, _, _, _, _, _⟩ :: _) _ _); refine wpList_load_box rfl 40 (.tmp 1) rfl w.heap.size rfl 40 (pkV p a c) HBX.out _ Tryd.underlying40 rfl (pk_size p a c) ?_))
      go_ret
      exact FIN.out _ _ (by unfold restOf; rw [if_pos (Or.inr (Or.inl h1))]) hb
    · obtain ⟨bb, hbb⟩ : ∃ b, bareB p = b := ⟨_, rfl⟩
      have d0 : decide (n < 0) = false := by simpa using h0
      have d1 : decide (268435455 < n) = false := by simpa using h1
      have H01 := Lib.hid (And.intro h0 h1); clear h0 h1; cases bb; all_goals
        rw [hbb] at HBA; have HBB := Lib.hid hbb; clear hbb; go_enter Tryd.func80, Tryd.ntmps80
        go_wp2_with (first
      | (go_at_call 110; refine Calls.mono HC.out ?_; rintro e w1 ⟨rfl, hb1⟩; replace HBX := Lib.hid (HBX.out.below hb1); have hX := HBX.out.cells; replace hb := Below.then hb hb1; clear hb1)
      | ((with_reducible show wpList _ _ _ (⟨some 40, _, _, _, _, _⟩ :: _) _ _); refine wpList_load_box rfl 40 (.tmp 1) rfl w.heap.size rfl 40 (pkV p a c) HBX.out _ Tryd.underlying40 rfl (pk_size p a c) ?_)
      | (go_at_call 112; refine Calls.mono (HBA.out _) ?_; rintro e w2 ⟨rfl, hb1⟩; replace hb := Below.then hb hb1; clear hb1)
      | ((with_reducible show wpList _ _ _ (⟨some 57, _, _, _, _, _⟩ :: _) _ _); refine wpList_load_boxG (by kernel_rfl) 40 (.tmp 1) rfl w.heap.size rfl 40 (pkV p a c) HBX.out _ Tryd.underlying40 rfl (pk_size p a c) ?_))
        go_ret
      · exact FIN.out _ _ (by unfold restOf; rw [if_pos (Or.inr (Or.inr HBB.out))]) hb
      · exact FIN.out _ _ (by unfold restOf; rw [HBB.out, if_neg (fun h => h.elim (Int.not_lt.2 H01.out.1) (fun h => h.elim (Int.not_lt.2 H01.out.2) (fun h => Bool.noConfusion h)))]) hb
set_option maxRecDepth 100000 in
set_option maxHeartbeats 4000000 in
theorem rest_t9 (p : Pk) (a : Option Addr) (c : Nat) (w : World) (_hE : Env w) (hp : PkOk p) (_ha : CellsA w a (subCells p.subs)) (e1 : ((p.ty : Int) == 1) = false) (e2 : ((p.ty : Int) == 2) = false) (e3 : ((p.ty : Int) == 3) = false) (e4 : ((p.ty : Int) == 4) = false) (e5 : ((p.ty : Int) == 5) = false) (e6 : ((p.ty : Int) == 6) = false) (e7 : ((p.ty : Int) == 7) = false) (e11 : ((p.ty : Int) == 11) = false) (e8 : ((p.ty : Int) == 8) = false) (e10 : ((p.ty : Int) == 10) = false) (e9 : ((p.ty : Int) == 9) = true) :
    Calls Tryd.prog 80 #[.agg (pkV p a c)] w fun e w' => e = .returned (.int .i64 (restOf (codesN p) (bareB p))) ∧ Below w.heap.size w w' := by
  have hb : Below w.heap.size w (w.alloc (.cells (pkV p a c) 40)) := (Below.refl _ _).alloc (Nat.le_refl _) _; have HBX := Lib.hid (BoxAt.new w (pkV p a c) 40); have HBA := Lib.hid (fun w1 => packet_bare p a c w1 hp); have HC := Lib.hid (packet_codes p a c (w.alloc (.cells (pkV p a c) 40)) hp); have hty := hp.ty; have hcd := hp.code; clear hp _ha _hE; generalize hn : codesN p = n at *; have FIN := Lib.hid (show ∀ (v : Int) (w' : World), restOf (n) (bareB p) = v → Below w.heap.size w w' → Ending.returned (.int .i64 v) = .returned (.int .i64 (restOf (n) (bareB p))) ∧ Below w.heap.size w w' from by rintro v w' rfl h; exact ⟨rfl, h⟩); clear hn; obtain ⟨k0, k1, k2, k3, k4, k5, k6, k7, k8, k9, k10, k11, k12, k13, k14, k15, k16, k17, k18, k19, k20, k21, k22, k23⟩ := pk_at p a c; by_cases h0 : n < 0
  · go_enter Tryd.func80, Tryd.ntmps80
    go_wp2_with (first
      | (go_at_call 111; refine Calls.mono HC.out ?_; rintro e w1 ⟨rfl, hb1⟩; replace HBX := Lib.hid (HBX.out.below hb1); have hX := HBX.out.cells; replace hb := Below.then hb hb1; clear hb1)
      | ((with_reducible show wpList _ _ _ (⟨some 44, _, _, _, _, _⟩ :: _) _ _); refine wpList_load_box rfl 40 (.tmp 1) rfl w.heap.size rfl 40 (pkV p a c) HBX.out _ Tryd.underlying40 rfl (pk_size p a c) ?_))
    go_ret
    exact FIN.out _ _ (by unfold restOf; rw [if_pos (Or.inl h0)]) hb
  · by_cases h1 : 268435455 < n
    · go_enter Tryd.func80, Tryd.ntmps80
      go_wp2_with (first
      | (go_at_call 111; refine Calls.mono HC.out ?_; rintro e w1 ⟨rfl, hb1⟩; replace HBX := Lib.hid (HBX.out.below hb1); have hX := HBX.out.cells; replace hb := Below.then hb hb1; clear hb1)
      | ((with_reducible show wpList _ _ _ (⟨some 44, _, _, _, _, _⟩ :: _) _ _); refine wpList_load_box rfl 40 (.tmp 1) rfl w.heap.size rfl 40 (pkV p a c) HBX.out _ Tryd.underlying40 rfl (pk_size p a c) ?_))
      go_ret
      exact FIN.out _ _ (by unfold restOf; rw [if_pos (Or.inr (Or.inl h1))]) hb
    · obtain ⟨bb, hbb⟩ : ∃ b, bareB p = b := ⟨_, rfl⟩
      have d0 : decide (n < 0) = false := by simpa using h0
      have d1 : decide (268435455 < n) = false := by simpa using h1
      have H01 := Lib.hid (And.intro h0 h1); clear h0 h1; cases bb; all_goals
        rw [hbb] at HBA; have HBB := Lib.hid hbb; clear hbb; go_enter Tryd.func80, Tryd.ntmps80
        go_wp2_with (first
      | (go_at_call 111; refine Calls.mono HC.out ?_; rintro e w1 ⟨rfl, hb1⟩; replace HBX := Lib.hid (HBX.out.below hb1); have hX := HBX.out.cells; replace hb := Below.then hb hb1; clear hb1)
      | ((with_reducible show wpList _ _ _ (⟨some 44, _, _, _, _, _⟩ :: _) _ _); refine wpList_load_box rfl 40 (.tmp 1) rfl w.heap.size rfl 40 (pkV p a c) HBX.out _ Tryd.underlying40 rfl (pk_size p a c) ?_)
      | (go_at_call 112; refine Calls.mono (HBA.out _) ?_; rintro e w2 ⟨rfl, hb1⟩; replace hb := Below.then hb hb1; clear hb1)
      | ((with_reducible show wpList _ _ _ (⟨some 57, _, _, _, _, _⟩ :: _) _ _); refine wpList_load_boxG (by kernel_rfl) 40 (.tmp 1) rfl w.heap.size rfl 40 (pkV p a c) HBX.out _ Tryd.underlying40 rfl (pk_size p a c) ?_))
        go_ret
      · exact FIN.out _ _ (by unfold restOf; rw [if_pos (Or.inr (Or.inr HBB.out))]) hb
      · exact FIN.out _ _ (by unfold restOf; rw [HBB.out, if_neg (fun h => h.elim (Int.not_lt.2 H01.out.1) (fun h => h.elim (Int.not_lt.2 H01.out.2) (fun h => Bool.noConfusion h)))]) hb
set_option maxRecDepth 100000 in
set_option maxHeartbeats 4000000 in
theorem rest_t12 (p : Pk) (a : Option Addr) (c : Nat) (w : World) (_hE : Env w) (hp : PkOk p) (_ha : CellsA w a (subCells p.subs)) (e1 : ((p.ty : Int) == 1) = false) (e2 : ((p.ty : Int) == 2) = false) (e3 : ((p.ty : Int) == 3) = false) (e4 : ((p.ty : Int) == 4) = false) (e5 : ((p.ty : Int) == 5) = false) (e6 : ((p.ty : Int) == 6) = false) (e7 : ((p.ty : Int) == 7) = false) (e11 : ((p.ty : Int) == 11) = false) (e8 : ((p.ty : Int) == 8) = false) (e10 : ((p.ty : Int) == 10) = false) (e9 : ((p.ty : Int) == 9) = false) (e12 : ((p.ty : Int) == 12) = true) :
    Calls Tryd.prog 80 #[.agg (pkV p a c)] w fun e w' => e = .returned (.int .i64 (restOf (0) (bareB p))) ∧ Below w.heap.size w w' := by
  have hb : Below w.heap.size w (w.alloc (.cells (pkV p a c) 40)) := (Below.refl _ _).alloc (Nat.le_refl _) _; have HBX := Lib.hid (BoxAt.new w (pkV p a c) 40); have HBA := Lib.hid (fun w1 => packet_bare p a c w1 hp); have hty := hp.ty; have hcd := hp.code; clear hp _ha _hE; have FIN := Lib.hid (show ∀ (v : Int) (w' : World), restOf (0) (bareB p) = v → Below w.heap.size w w' → Ending.returned (.int .i64 v) = .returned (.int .i64 (restOf (0) (bareB p))) ∧ Below w.heap.size w w' from by rintro v w' rfl h; exact ⟨rfl, h⟩); obtain ⟨k0, k1, k2, k3, k4, k5, k6, k7, k8, k9, k10, k11, k12, k13, k14, k15, k16, k17, k18, k19, k20, k21, k22, k23⟩ := pk_at p a c; obtain ⟨bb, hbb⟩ : ∃ b, bareB p = b := ⟨_, rfl⟩
  cases bb; all_goals
    rw [hbb] at HBA; have HBB := Lib.hid hbb; clear hbb; go_enter Tryd.func80, Tryd.ntmps80
    go_wp2_with (first
      | (go_at_call 112; refine Calls.mono (HBA.out _) ?_; rintro e w2 ⟨rfl, hb1⟩; replace hb := Below.then hb hb1; clear hb1)
      | ((with_reducible show wpList _ _ _ (⟨some 57, _, _, _, _, _⟩ :: _) _ _); refine wpList_load_boxG (by kernel_rfl) 40 (.tmp 1) rfl w.heap.size rfl 40 (pkV p a c) HBX.out _ Tryd.underlying40 rfl (pk_size p a c) ?_))
    go_ret
  · exact FIN.out (-1) _ (by rw [HBB.out]; unfold restOf; simp) hb
  · exact FIN.out 0 _ (by rw [HBB.out]; unfold restOf; simp) hb
set_option maxRecDepth 100000 in
set_option maxHeartbeats 4000000 in
theorem rest_t13 (p : Pk) (a : Option Addr) (c : Nat) (w : World) (_hE : Env w) (hp : PkOk p) (_ha : CellsA w a (subCells p.subs)) (e1 : ((p.ty : Int) == 1) = false) (e2 : ((p.ty : Int) == 2) = false) (e3 : ((p.ty : Int) == 3) = false) (e4 : ((p.ty : Int) == 4) = false) (e5 : ((p.ty : Int) == 5) = false) (e6 : ((p.ty : Int) == 6) = false) (e7 : ((p.ty : Int) == 7) = false) (e11 : ((p.ty : Int) == 11) = false) (e8 : ((p.ty : Int) == 8) = false) (e10 : ((p.ty : Int) == 10) = false) (e9 : ((p.ty : Int) == 9) = false) (e12 : ((p.ty : Int) == 12) = false) (e13 : ((p.ty : Int) == 13) = true) :
    Calls Tryd.prog 80 #[.agg (pkV p a c)] w fun e w' => e = .returned (.int .i64 (restOf (0) (bareB p))) ∧ Below w.heap.size w w' := by
  have hb : Below w.heap.size w (w.alloc (.cells (pkV p a c) 40)) := (Below.refl _ _).alloc (Nat.le_refl _) _; have HBX := Lib.hid (BoxAt.new w (pkV p a c) 40); have HBA := Lib.hid (fun w1 => packet_bare p a c w1 hp); have hty := hp.ty; have hcd := hp.code; clear hp _ha _hE; have FIN := Lib.hid (show ∀ (v : Int) (w' : World), restOf (0) (bareB p) = v → Below w.heap.size w w' → Ending.returned (.int .i64 v) = .returned (.int .i64 (restOf (0) (bareB p))) ∧ Below w.heap.size w w' from by rintro v w' rfl h; exact ⟨rfl, h⟩); obtain ⟨k0, k1, k2, k3, k4, k5, k6, k7, k8, k9, k10, k11, k12, k13, k14, k15, k16, k17, k18, k19, k20, k21, k22, k23⟩ := pk_at p a c; obtain ⟨bb, hbb⟩ : ∃ b, bareB p = b := ⟨_, rfl⟩
  cases bb; all_goals
    rw [hbb] at HBA; have HBB := Lib.hid hbb; clear hbb; go_enter Tryd.func80, Tryd.ntmps80
    go_wp2_with (first
      | (go_at_call 112; refine Calls.mono (HBA.out _) ?_; rintro e w2 ⟨rfl, hb1⟩; replace hb := Below.then hb hb1; clear hb1)
      | ((with_reducible show wpList _ _ _ (⟨some 57, _, _, _, _, _⟩ :: _) _ _); refine wpList_load_boxG (by kernel_rfl) 40 (.tmp 1) rfl w.heap.size rfl 40 (pkV p a c) HBX.out _ Tryd.underlying40 rfl (pk_size p a c) ?_))
    go_ret
  · exact FIN.out (-1) _ (by rw [HBB.out]; unfold restOf; simp) hb
  · exact FIN.out 0 _ (by rw [HBB.out]; unfold restOf; simp) hb
set_option maxRecDepth 100000 in
set_option maxHeartbeats 4000000 in
theorem rest_t14 (p : Pk) (a : Option Addr) (c : Nat) (w : World) (_hE : Env w) (hp : PkOk p) (_ha : CellsA w a (subCells p.subs)) (e1 : ((p.ty : Int) == 1) = false) (e2 : ((p.ty : Int) == 2) = false) (e3 : ((p.ty : Int) == 3) = false) (e4 : ((p.ty : Int) == 4) = false) (e5 : ((p.ty : Int) == 5) = false) (e6 : ((p.ty : Int) == 6) = false) (e7 : ((p.ty : Int) == 7) = false) (e11 : ((p.ty : Int) == 11) = false) (e8 : ((p.ty : Int) == 8) = false) (e10 : ((p.ty : Int) == 10) = false) (e9 : ((p.ty : Int) == 9) = false) (e12 : ((p.ty : Int) == 12) = false) (e13 : ((p.ty : Int) == 13) = false) (e14 : ((p.ty : Int) == 14) = true) :
    Calls Tryd.prog 80 #[.agg (pkV p a c)] w fun e w' => e = .returned (.int .i64 (restOf (0) (bareB p))) ∧ Below w.heap.size w w' := by
  have hb : Below w.heap.size w (w.alloc (.cells (pkV p a c) 40)) := (Below.refl _ _).alloc (Nat.le_refl _) _; have HBX := Lib.hid (BoxAt.new w (pkV p a c) 40); have HBA := Lib.hid (fun w1 => packet_bare p a c w1 hp); have hty := hp.ty; have hcd := hp.code; clear hp _ha _hE; have FIN := Lib.hid (show ∀ (v : Int) (w' : World), restOf (0) (bareB p) = v → Below w.heap.size w w' → Ending.returned (.int .i64 v) = .returned (.int .i64 (restOf (0) (bareB p))) ∧ Below w.heap.size w w' from by rintro v w' rfl h; exact ⟨rfl, h⟩); obtain ⟨k0, k1, k2, k3, k4, k5, k6, k7, k8, k9, k10, k11, k12, k13, k14, k15, k16, k17, k18, k19, k20, k21, k22, k23⟩ := pk_at p a c; obtain ⟨bb, hbb⟩ : ∃ b, bareB p = b := ⟨_, rfl⟩
  cases bb; all_goals
    rw [hbb] at HBA; have HBB := Lib.hid hbb; clear hbb; go_enter Tryd.func80, Tryd.ntmps80
    go_wp2_with (first
      | (go_at_call 112; refine Calls.mono (HBA.out _) ?_; rintro e w2 ⟨rfl, hb1⟩; replace hb := Below.then hb hb1; clear hb1)
      | ((with_reducible show wpList _ _ _ (⟨some 57, _, _, _, _, _⟩ :: _) _ _); refine wpList_load_boxG (by kernel_rfl) 40 (.tmp 1) rfl w.heap.size rfl 40 (pkV p a c) HBX.out _ Tryd.underlying40 rfl (pk_size p a c) ?_))
    go_ret
  · exact FIN.out (-1) _ (by rw [HBB.out]; unfold restOf; simp) hb
  · exact FIN.out 0 _ (by rw [HBB.out]; unfold restOf; simp) hb
set_option maxRecDepth 100000 in
set_option maxHeartbeats 4000000 in
theorem rest_o (p : Pk) (a : Option Addr) (c : Nat) (w : World) (_hE : Env w) (hp : PkOk p) (_ha : CellsA w a (subCells p.subs)) (e1 : ((p.ty : Int) == 1) = false) (e2 : ((p.ty : Int) == 2) = false) (e3 : ((p.ty : Int) == 3) = false) (e4 : ((p.ty : Int) == 4) = false) (e5 : ((p.ty : Int) == 5) = false) (e6 : ((p.ty : Int) == 6) = false) (e7 : ((p.ty : Int) == 7) = false) (e11 : ((p.ty : Int) == 11) = false) (e8 : ((p.ty : Int) == 8) = false) (e10 : ((p.ty : Int) == 10) = false) (e9 : ((p.ty : Int) == 9) = false) (e12 : ((p.ty : Int) == 12) = false) (e13 : ((p.ty : Int) == 13) = false) (e14 : ((p.ty : Int) == 14) = false) :
    Calls Tryd.prog 80 #[.agg (pkV p a c)] w fun e w' => e = .returned (.int .i64 (restOf (-1) (bareB p))) ∧ Below w.heap.size w w' := by
  have hb : Below w.heap.size w (w.alloc (.cells (pkV p a c) 40)) := (Below.refl _ _).alloc (Nat.le_refl _) _; have HBX := Lib.hid (BoxAt.new w (pkV p a c) 40); have HBA := Lib.hid (fun w1 => packet_bare p a c w1 hp); have hty := hp.ty; have hcd := hp.code; clear hp _ha _hE; have FIN := Lib.hid (show ∀ (v : Int) (w' : World), restOf (-1) (bareB p) = v → Below w.heap.size w w' → Ending.returned (.int .i64 v) = .returned (.int .i64 (restOf (-1) (bareB p))) ∧ Below w.heap.size w w' from by rintro v w' rfl h; exact ⟨rfl, h⟩); obtain ⟨k0, k1, k2, k3, k4, k5, k6, k7, k8, k9, k10, k11, k12, k13, k14, k15, k16, k17, k18, k19, k20, k21, k22, k23⟩ := pk_at p a c; go_enter Tryd.func80, Tryd.ntmps80
  go_wp2_with fail
  go_ret
  exact FIN.out (-1) _ (by unfold restOf; rfl) hb
theorem packet_Rest (p : Pk) (a : Option Addr) (c : Nat) (w : World) (hE : Env w) (hp : PkOk p) (ha : CellsA w a (subCells p.subs)) : Calls Tryd.prog 80 #[.agg (pkV p a c)] w fun e w' => e = .returned (.int .i64 (restP p)) ∧ Below w.heap.size w w' := by
  have hb : ∀ n : Nat, p.ty ≠ n → ((p.ty : Int) == (n : Int)) = false := fun n hn => by rw [beq_eq_false_iff_ne]; omega
  have ht : ∀ n : Nat, p.ty = n → ((p.ty : Int) == (n : Int)) = true := fun n hn => by rw [beq_iff_eq]; omega
  unfold restP; by_cases h1 : p.ty = 1
  · rw [show typeN p = connectN p by unfold typeN; simp [h1]]
    exact rest_t1 p a c w hE hp ha  (ht 1 h1)
  by_cases h2 : p.ty = 2
  · rw [show typeN p = connackN p by unfold typeN; simp [h2]]
    exact rest_t2 p a c w hE hp ha (hb 1 h1) (ht 2 h2)
  by_cases h3 : p.ty = 3
  · rw [show typeN p = publishN p by unfold typeN; simp [h3]]
    exact rest_t3 p a c w hE hp ha (hb 1 h1) (hb 2 h2) (ht 3 h3)
  by_cases h4 : p.ty = 4
  · rw [show typeN p = idN p by unfold typeN; simp [h4]]
    exact rest_t4 p a c w hE hp ha (hb 1 h1) (hb 2 h2) (hb 3 h3) (ht 4 h4)
  by_cases h5 : p.ty = 5
  · rw [show typeN p = idN p by unfold typeN; simp [h5]]
    exact rest_t5 p a c w hE hp ha (hb 1 h1) (hb 2 h2) (hb 3 h3) (hb 4 h4) (ht 5 h5)
  by_cases h6 : p.ty = 6
  · rw [show typeN p = idN p by unfold typeN; simp [h6]]
    exact rest_t6 p a c w hE hp ha (hb 1 h1) (hb 2 h2) (hb 3 h3) (hb 4 h4) (hb 5 h5) (ht 6 h6)
  by_cases h7 : p.ty = 7
  · rw [show typeN p = idN p by unfold typeN; simp [h7]]
    exact rest_t7 p a c w hE hp ha (hb 1 h1) (hb 2 h2) (hb 3 h3) (hb 4 h4) (hb 5 h5) (hb 6 h6) (ht 7 h7)
  by_cases h11 : p.ty = 11
  · rw [show typeN p = idN p by unfold typeN; simp [h11]]
    exact rest_t11 p a c w hE hp ha (hb 1 h1) (hb 2 h2) (hb 3 h3) (hb 4 h4) (hb 5 h5) (hb 6 h6) (hb 7 h7) (ht 11 h11)
  by_cases h8 : p.ty = 8
  · rw [show typeN p = subsN p by unfold typeN; simp [h8]]
    exact rest_t8 p a c w hE hp ha (hb 1 h1) (hb 2 h2) (hb 3 h3) (hb 4 h4) (hb 5 h5) (hb 6 h6) (hb 7 h7) (hb 11 h11) (ht 8 h8)
  by_cases h10 : p.ty = 10
  · rw [show typeN p = subsN p by unfold typeN; simp [h10]]
    exact rest_t10 p a c w hE hp ha (hb 1 h1) (hb 2 h2) (hb 3 h3) (hb 4 h4) (hb 5 h5) (hb 6 h6) (hb 7 h7) (hb 11 h11) (hb 8 h8) (ht 10 h10)
  by_cases h9 : p.ty = 9
  · rw [show typeN p = codesN p by unfold typeN; simp [h9]]
    exact rest_t9 p a c w hE hp ha (hb 1 h1) (hb 2 h2) (hb 3 h3) (hb 4 h4) (hb 5 h5) (hb 6 h6) (hb 7 h7) (hb 11 h11) (hb 8 h8) (hb 10 h10) (ht 9 h9)
  by_cases h12 : p.ty = 12
  · rw [show typeN p = 0 by unfold typeN; simp [h12]]
    exact rest_t12 p a c w hE hp ha (hb 1 h1) (hb 2 h2) (hb 3 h3) (hb 4 h4) (hb 5 h5) (hb 6 h6) (hb 7 h7) (hb 11 h11) (hb 8 h8) (hb 10 h10) (hb 9 h9) (ht 12 h12)
  by_cases h13 : p.ty = 13
  · rw [show typeN p = 0 by unfold typeN; simp [h13]]
    exact rest_t13 p a c w hE hp ha (hb 1 h1) (hb 2 h2) (hb 3 h3) (hb 4 h4) (hb 5 h5) (hb 6 h6) (hb 7 h7) (hb 11 h11) (hb 8 h8) (hb 10 h10) (hb 9 h9) (hb 12 h12) (ht 13 h13)
  by_cases h14 : p.ty = 14
  · rw [show typeN p = 0 by unfold typeN; simp [h14]]
    exact rest_t14 p a c w hE hp ha (hb 1 h1) (hb 2 h2) (hb 3 h3) (hb 4 h4) (hb 5 h5) (hb 6 h6) (hb 7 h7) (hb 11 h11) (hb 8 h8) (hb 10 h10) (hb 9 h9) (hb 12 h12) (hb 13 h13) (ht 14 h14)
  rw [show typeN p = -1 by unfold typeN; simp [h1, h2, h3, h4, h5, h6, h7, h11, h8, h10, h9, h12, h13, h14]]; exact rest_o p a c w hE hp ha (hb 1 h1) (hb 2 h2) (hb 3 h3) (hb 4 h4) (hb 5 h5) (hb 6 h6) (hb 7 h7) (hb 11 h11) (hb 8 h8) (hb 10 h10) (hb 9 h9) (hb 12 h12) (hb 13 h13) (hb 14 h14)
end Go.Proofs.YtnnpokndajpkiaaDoor
