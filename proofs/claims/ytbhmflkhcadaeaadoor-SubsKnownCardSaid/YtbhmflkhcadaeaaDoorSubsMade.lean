/- The walk of law15's made: a list behind acts. Conditions: the acts lie in their cells, their texts short; the decoder's tables lie as Go lays them. -/
import Derived.Test.YtbhmflkhcadaeaaDoorLawTells
namespace Go.Proofs.YtbhmflkhcadaeaaDoor
open Go.RowKit

theorem own_Drop {B g : Nat} {v : Value} {S : List Sb} {f : ByteArray} {w : World} (hL : LAt w B g v S) (hS : Fine S) (hB : B ≤ w.heap.size) :
    Calls Tryd.prog 21 #[.pointer (some ⟨g, 0, none⟩), .string f] w fun e w' => ∃ v', e = .returned (.bool (atS S (bl f))) ∧ LAt w' B g v' (delS S (bl f)) ∧ Below B w w' :=
  (subs_Drop B g v S f w hL hS hB).mono (by
    rintro e w' ⟨v', rfl, h1, h2, h3⟩
    refine ⟨v', rfl, h1, h2.below hB ?_⟩
    rintro k (e | e)
    · rw [e]; exact hL.lo
    · exact (hL.own.lt e).2)
theorem own_Clear {B g : Nat} {v : Value} {S : List Sb} {w : World} (hL : LAt w B g v S) (hS : Fine S) (hB : B ≤ w.heap.size) :
    Calls Tryd.prog 22 #[.pointer (some ⟨g, 0, none⟩)] w fun e w' => ∃ r v', e = .returned r ∧ LAt w' B g v' [] ∧ Below B w w' :=
  (subs_Clear B g v S w hL hS.few).mono (by
    rintro e w' ⟨r, rfl, _, h1, h2⟩
    refine ⟨r, _, rfl, h1, h2.below hB ?_⟩
    rintro k (e | e)
    · rw [e]; exact hL.lo
    · exact (hL.own.lt e).2)

set_option maxHeartbeats 1000000 in
set_option maxRecDepth 100000 in
theorem law15_made (a : Option Addr) (c : Nat) (L : List Ac) (w : World) (hE : Env w) (hn : L.length ≤ 80) (hsm : ∀ x ∈ L, x.f.size ≤ 300 ∧ x.n.size ≤ 300) (hq : ∀ x ∈ L, x.q < 256) (ha : CellsA w a (acCells L)) :
    Calls Tryd.prog 24 #[.slice a L.length c] w fun e w' => ∃ g v S, e = .returned (.pointer (some ⟨g, 0, none⟩)) ∧ LAt w' w.heap.size g v S ∧ Fine S ∧ Below w.heap.size w w' := by
  have FIN := Lib.hid (show ∀ (g : Nat) (v : Value) (S : List Sb) (w' : World), LAt w' w.heap.size g v S → Fine S → Below w.heap.size w w' → ∃ g' v S, Ending.returned (.pointer (some ⟨g, 0, none⟩)) = .returned (.pointer (some ⟨g', 0, none⟩)) ∧ LAt w' w.heap.size g' v S ∧ Fine S ∧ Below w.heap.size w w' from fun g v S w' h1 h2 h3 => ⟨g, v, S, rfl, h1, h2, h3⟩)
  go_enter Tryd.func24, Tryd.ntmps24
  go_wp2_with (first
    | (go_at_call 11; refine (subs_New _).mono ?_; rintro e w1 ⟨rfl, hL, hb⟩))
  have HL0 := Lib.hid hL
  clear hL
  go_loopw [4] (fun i wr => ∃ (k : Nat) (v : Value) (S : List Sb), k ≤ L.length ∧ i = .int .i64 k ∧ Hid (LAt wr w.heap.size w.heap.size v S) ∧ Hid (Fine S) ∧ Below w.heap.size w wr) (fun i _ => L.length - (intOf i).toNat)
  case atStart => exact ⟨0, _, [], by omega, rfl, HL0.out, fine_nil, hb⟩
  case round =>
    clear HL0 hb
    obtain ⟨k, v, S, hk, rfl, HL, HF, hbr⟩ := hrel
    by_cases hlt : k < L.length
    · obtain ⟨x, hx⟩ : ∃ x, L[k]? = some x := ⟨_, List.getElem?_eq_getElem hlt⟩
      obtain ⟨bb, o, rfl, d1, d2, d3, d4⟩ := ha.act hx
      have hm := List.mem_of_getElem? hx
      have hqx := hq x hm
      have hxf := hsm x hm
      have HF1 := Lib.hid (setS_fine HF.out x.f x.q hxf.1)
      have HF2 := Lib.hid (delS_fine HF.out (bl x.f))
      have c1 := cell_later d1 hbr
      have c2 := cell_later d2 hbr
      have c3 := cell_later d3 hbr
      clear hx hm
      have hways : x.d = 0 ∨ x.d = 1 ∨ x.d = 2 ∨ (((x.d : Int) == 0) = false ∧ ((x.d : Int) == 1) = false ∧ ((x.d : Int) == 2) = false) := by
        by_cases h0 : x.d = 0
        · exact Or.inl h0
        · by_cases h1 : x.d = 1
          · exact Or.inr (Or.inl h1)
          · by_cases h2 : x.d = 2
            · exact Or.inr (Or.inr (Or.inl h2))
            · refine Or.inr (Or.inr (Or.inr ⟨?_, ?_, ?_⟩)) <;> (rw [beq_eq_false_iff_ne]; omega)
      rcases hways with h0 | h0 | h0 | ⟨h0, h1, h2⟩
      · rw [h0] at c1
        clear h0
        go_wp2_with fail
        refine wp_region_noPanic ?_
        refine wp_region_held_drew (S := fun w' => w'.cell? ⟨bb, o + k * 4 + 1, none⟩ = some (.string x.f) ∧ w'.cell? ⟨bb, o + k * 4 + 2, none⟩ = some (.int .u8 (x.q : Int))) (by kernel_rfl) ?_ (fun hHeld => ?_)
        · (first | exact ⟨cell_later d2 hb1, cell_later d3 hb1⟩ | exact ⟨cell_later d2 (below_add hbr 1), cell_later d3 (below_add hbr 1)⟩)
        refine wpAnyH_take (i := 0) (oi := ⟨some 19, _, _, _, _, _⟩) (v := ?_) rfl (by kernel_rfl) (by kernel_rfl) (by kernel_rfl) (fun _ _ _ h => h) (Or.inl ⟨by rfl, ?_⟩) (by assumption) ?_
        rotate_left
        · (intro w hSw; (try dsimp only at hSw); go_simp; try with_reducible rfl)
        try simp only [Act.put, List.setIfInBounds_toArray, List.set_cons_zero, List.set_cons_succ]
        refine wpAnyH_take (i := 1) (oi := ⟨some 20, _, _, _, _, _⟩) (v := ?_) rfl (by kernel_rfl) (by kernel_rfl) (by kernel_rfl) (fun _ _ _ h => h) (Or.inl ⟨by rfl, ?_⟩) (by assumption) ?_
        rotate_left
        · (intro w hSw; (try dsimp only at hSw); go_simp; try with_reducible rfl)
        try simp only [Act.put, List.setIfInBounds_toArray, List.set_cons_zero, List.set_cons_succ]
        refine wpAnyH_take (i := 2) (oi := ⟨some 21, _, _, _, _, _⟩) (v := ?_) rfl (by kernel_rfl) (by kernel_rfl) (by kernel_rfl) (fun _ _ _ h => h) (Or.inl ⟨by rfl, ?_⟩) (by assumption) ?_
        rotate_left
        · (intro w hSw; (try dsimp only at hSw); go_simp; try with_reducible rfl)
        try simp only [Act.put, List.setIfInBounds_toArray, List.set_cons_zero, List.set_cons_succ]
        refine wpAnyH_take (i := 3) (oi := ⟨some 22, _, _, _, _, _⟩) (v := ?_) rfl (by kernel_rfl) (by kernel_rfl) (by kernel_rfl) (fun _ _ _ h => h) (Or.inl ⟨by rfl, ?_⟩) (by assumption) ?_
        rotate_left
        · (intro w hSw; (try dsimp only at hSw); go_simp; try with_reducible rfl)
        try simp only [Act.put, List.setIfInBounds_toArray, List.set_cons_zero, List.set_cons_succ]
        refine wpAnyH_take (i := 4) (oi := ⟨some 23, _, _, _, _, _⟩) (v := ?_) rfl (by kernel_rfl) (by kernel_rfl) (by kernel_rfl) (fun _ _ _ h => h) (Or.inl ⟨by rfl, ?_⟩) (by assumption) ?_
        rotate_left
        · (intro w hSw; (try dsimp only at hSw); go_simp; try with_reducible rfl)
        try simp only [Act.put, List.setIfInBounds_toArray, List.set_cons_zero, List.set_cons_succ]
        refine wpAnyH_take (i := 5) (oi := ⟨some 24, _, _, _, _, _⟩) (v := ?_) rfl (by kernel_rfl) (by kernel_rfl) (by kernel_rfl) (fun _ _ _ h => h) (Or.inl ⟨by rfl, ?_⟩) (by assumption) ?_
        rotate_left
        · (intro w hSw; (try dsimp only at hSw); go_simp; try with_reducible rfl)
        try simp only [Act.put, List.setIfInBounds_toArray, List.set_cons_zero, List.set_cons_succ]
        refine wpAnyH_take (i := 6) (oi := ⟨some 25, _, _, _, _, _⟩) (v := ?_) rfl (by kernel_rfl) (by kernel_rfl) (by kernel_rfl) (fun _ _ _ h => h) (Or.inl ⟨by rfl, ?_⟩) (by assumption) ?_
        rotate_left
        · (intro w hSw; (try dsimp only at hSw); go_simp; try with_reducible rfl)
        try simp only [Act.put, List.setIfInBounds_toArray, List.set_cons_zero, List.set_cons_succ]
        refine wpAnyH_take (i := 7) (oi := ⟨some 26, _, _, _, _, _⟩) (v := ?_) rfl (by kernel_rfl) (by kernel_rfl) (by kernel_rfl) (fun _ _ _ h => h) (Or.inl ⟨by rfl, ?_⟩) (by assumption) ?_
        rotate_left
        · (intro w hSw; (try dsimp only at hSw); go_simp; try with_reducible rfl)
        try simp only [Act.put, List.setIfInBounds_toArray, List.set_cons_zero, List.set_cons_succ]
        refine wpAnyH_take (i := 8) (oi := ⟨some 27, _, _, _, _, _⟩) (v := ?_) rfl (by kernel_rfl) (by kernel_rfl) (by kernel_rfl) (fun _ _ _ h => h) (Or.inl ⟨by rfl, ?_⟩) (by assumption) ?_
        rotate_left
        · (intro w hSw; (try dsimp only at hSw); go_simp; try with_reducible rfl)
        try simp only [Act.put, List.setIfInBounds_toArray, List.set_cons_zero, List.set_cons_succ]
        refine wpAnyH_take (i := 9) (oi := ⟨some 28, _, _, _, _, _⟩) (v := ?_) rfl (by kernel_rfl) (by kernel_rfl) (by kernel_rfl) (fun _ _ _ h => h) (Or.inl ⟨by rfl, ?_⟩) (by assumption) ?_
        rotate_left
        · (intro w hSw; (try dsimp only at hSw); go_simp; try with_reducible rfl)
        try simp only [Act.put, List.setIfInBounds_toArray, List.set_cons_zero, List.set_cons_succ]
        refine wpAnyH_take (i := 10) (oi := ⟨some 29, _, _, _, _, _⟩) (v := ?_) rfl (by kernel_rfl) (by kernel_rfl) (by kernel_rfl) (fun _ _ _ h => h) (Or.inl ⟨by rfl, ?_⟩) (by assumption) ?_
        rotate_left
        · (intro w hSw; (try dsimp only at hSw); go_simp; try with_reducible rfl)
        try simp only [Act.put, List.setIfInBounds_toArray, List.set_cons_zero, List.set_cons_succ]
        refine wpAnyH_take (i := 11) (oi := ⟨some 30, _, _, _, _, _⟩) (v := ?_) rfl (by kernel_rfl) (by kernel_rfl) (by kernel_rfl) (fun _ _ _ h => h) (Or.inl ⟨by rfl, ?_⟩) (by assumption) ?_
        rotate_left
        · (intro w hSw; (try dsimp only at hSw); go_simp; try with_reducible rfl)
        try simp only [Act.put, List.setIfInBounds_toArray, List.set_cons_zero, List.set_cons_succ]
        refine wpAnyH_take (i := 12) (oi := ⟨some 31, _, _, _, _, _⟩) (v := ?_) rfl (by kernel_rfl) (by kernel_rfl) (by kernel_rfl) (fun _ _ _ h => h) (Or.inl ⟨by rfl, ?_⟩) (by assumption) ?_
        rotate_left
        · (intro w hSw; (try dsimp only at hSw); go_simp; try with_reducible rfl)
        try simp only [Act.put, List.setIfInBounds_toArray, List.set_cons_zero, List.set_cons_succ]
        refine wpAnyH_ready (rs := [13]) (by kernel_rfl) (by simp) ?_
        refine AllReadyH.cons (o := ⟨some 32, _, _, _, _, _⟩) rfl (fun K hK => ?_) AllReadyH.nil
        go_simp
        (go_at_call 20; refine Calls.mono (own_Set (hE.below (below_add hbr 1)) (HL.out.below (below_draws (n := 1) rfl)) HF.out (below_add hbr 1).size hxf.1 hqx) ?_; rintro e w2 ⟨v2, rfl, hL2, hb2⟩; have hb1 := (below_add hbr 1).trans hb2; go_simp)
        refine hK.out _ _ ?_ (fun hHeld => ?_)
        · (first | exact ⟨cell_later d2 hb1, cell_later d3 hb1⟩ | exact ⟨cell_later d2 (below_add hbr 1), cell_later d3 (below_add hbr 1)⟩)
        clear hK K
        try simp only [Act.put, List.setIfInBounds_toArray, List.set_cons_zero, List.set_cons_succ]
        refine wpAnyH_done (by kernel_rfl) ?_ _
        refine NoPanic.normal ?_
        go_wp2_with fail
        go_roundw
        case rel => exact ⟨k + 1, v2, _, by omega, by first | rfl | go_num, hL2, HF1.out, hb1⟩
        case measure => simp [intOf]; omega
      · rw [h0] at c1
        clear h0
        go_wp2_with fail
        go_at_call 21
        refine Calls.mono (own_Drop (f := x.f) HL.out HF.out hbr.size) ?_
        rintro e w2 ⟨v2, rfl, hL2, hb2⟩
        go_wp2_with fail
        go_roundw
        case rel => exact ⟨k + 1, v2, _, by omega, by first | rfl | go_num, hL2, HF2.out, hbr.trans hb2⟩
        case measure => simp [intOf]; omega
      · rw [h0] at c1
        clear h0
        go_wp2_with fail
        go_at_call 22
        refine Calls.mono (own_Clear HL.out HF.out hbr.size) ?_
        rintro e w2 ⟨r, v2, rfl, hL2, hb2⟩
        go_wp2_with fail
        go_roundw
        case rel => exact ⟨k + 1, v2, _, by omega, by first | rfl | go_num, hL2, fine_nil, hbr.trans hb2⟩
        case measure => simp [intOf]; omega
      · go_wp2_with fail
        go_roundw
        case rel => exact ⟨k + 1, v, S, by omega, by first | rfl | go_num, HL.out, HF.out, hbr⟩
        case measure => simp [intOf]; omega
    · have : k = L.length := by omega
      subst this
      go_wp2_with fail
      go_ret
      exact FIN.out _ _ _ _ HL.out HF.out hbr
end Go.Proofs.YtbhmflkhcadaeaaDoor
