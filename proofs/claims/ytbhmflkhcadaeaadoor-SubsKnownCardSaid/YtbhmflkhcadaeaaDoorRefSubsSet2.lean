/- The walk of the reference's Set where it sets: it drops the filter, finds the place, and lays a new row. Conditions: the list lies behind its pointer, its filters in order. -/
import Derived.Test.YtbhmflkhcadaeaaDoorRefSubsSet
namespace Go.Proofs.YtbhmflkhcadaeaaDoor
open Go.RowKit

theorem own_empty {w w' : World} {B : Nat} {T : TypeId} (h : w.alloc (.cells #[] T) = w') (hB : B ≤ w.heap.size) : w'.ownsRow B T 2 (.slice (some ⟨w.heap.size, 0, none⟩) 0 0) 0 [] := by
  subst h
  exact ⟨rfl, Or.inr ⟨w.heap.size, 0, #[], rfl, hB, heap_alloc_new w _, Nat.le_refl _, by unfold maxLen; omega, rfl, rfl⟩⟩
theorem own_al {w w' : World} {B n size : Nat} {e : TypeId} {v : Value} {xs : List Value} {o : Obj} (h : w.ownsRow B e size v n xs) (hA : w.alloc o = w') : w'.ownsRow B e size v n xs := by subst hA; exact h.alloc _
theorem below_al2 {w w' : World} {o : Obj} (h : w.alloc o = w') : Below w.heap.size w w' := by subst h; exact (Below.refl _ _).alloc (Nat.le_refl _) _
theorem lt_al {w w' : World} {o : Obj} (h : w.alloc o = w') : w.heap.size < w'.heap.size := by subst h; simp
theorem cells_new2 {w w' : World} {x y : Value} {T : TypeId} (h : w.alloc (.cells #[x, y] T) = w') : CellsA w' (some ⟨w.heap.size, 0, none⟩) [x, y] := by
  subst h
  intro j u hu
  refine ⟨_, _, rfl, ?_⟩
  rw [Nat.zero_add, cell_of_row _ _ _ _ _ _ (heap_alloc_new w _)]
  simpa using hu
theorem CellsA.far {w w' : World} {H X n c : Nat} {xs : List Value} (h : CellsA w (some ⟨H, 0, none⟩) xs) (k : w.grownBy w' (Value.ownBlock (.slice (some ⟨X, 0, none⟩) n c))) (hne : H ≠ X) : CellsA w' (some ⟨H, 0, none⟩) xs := fun j v hv => by
  obtain ⟨b, o, ha, hc⟩ := h j v hv
  injection ha with ha
  injection ha with e1 e2
  subst e1 e2
  exact ⟨H, 0, rfl, (World.cell?_of_block (k.block H (World.block_lt_of_cell? _ _ hc) (by simp only [Value.ownBlock]; intro e; injection e with e; exact hne e))).trans hc⟩
theorem cells_take {w : World} {a : Option Addr} {S : List Sb} {p : Nat} (h : CellsA w a (subCells S)) : CellsA w a (subCells (S.take p)) := fun j u hu => by
  refine h j u ?_
  rw [← List.take_append_drop p S, subCells_append, List.getElem?_append_left (List.getElem?_eq_some_iff.1 hu).1]; exact hu
theorem lessTwo (x y : ByteArray) (v : Bool) (h : lessB (bl x) (bl y) = v) : Op.bytesLess x.toList y.toList = v := by rw [Lib.toList_data, Lib.toList_data]; exact h

set_option maxHeartbeats 8000000 in
set_option maxRecDepth 100000 in
theorem rset_ok (B g : Nat) (v : Value) (S : List Sb) (f : ByteArray) (q : Nat) (w : World) (hL : RAt w B g v S) (hS : Fine S) (hB : B ≤ w.heap.size) (hf : f.size ≤ 300) (hq : q < 256) (hok : okQ (bl f) q = true) (hroom : atS S (bl f) = true ∨ S.length < 16) :
    Calls Tryd.prog 27 #[.pointer (some ⟨g, 0, none⟩), .string f, .int .u8 (q : Int)] w (RetRSet B g v q (insS S f q) w) := by
  unfold okQ at hok
  rw [Bool.and_eq_true, decide_eq_true_eq] at hok
  obtain ⟨h2, hfl⟩ := hok
  obtain ⟨i0, hi, hz0, hz1, hz2⟩ := info_parts infoSub
  have hF := ref07_Filter f w (by omega)
  rw [hfl] at hF
  have HF := Lib.hid hF
  have hfew := hS.few
  have HH := Lib.hid (fun w1 (hb : Below w.heap.size w w1) => ref15_Has B g v S f w1 (hL.below hb) (by omega))
  rw [hasS_at S (bl f) hS.sort] at HH
  have HD := Lib.hid (fun w1 (hb : Below w.heap.size w w1) => ref15_Drop B g v S f w1 (hL.below hb) (Nat.le_trans hB hb.size) (by omega))
  have hdf := del_filter S (bl f) hS.sort
  rw [show S.filter (notB (bl f)) = delS S (bl f) from hdf] at HD
  have hsd := del_sort S (bl f) hS.sort
  have hid := ins_del S f q hS.sort
  have hdl : (delS S (bl f)).length ≤ 16 := (delS_fine hS (bl f)).few
  have hil := ins_len S f q
  obtain ⟨a0, c0, hv, hc0, _⟩ := hL.own.form
  have HL := Lib.hid (fun w1 (hb : Below w.heap.size w w1) => hv ▸ (hL.below hb).blk.cell)
  generalize delS S (bl f) = D at *
  have c1 : ¬ (2 : Int) < (q : Int) := by omega
  have hglt := hL.blk.lt
  clear hF hfl hdf hL hS
  obtain ⟨t, ht⟩ : ∃ t, atS S (bl f) = t := ⟨_, rfl⟩
  rw [ht] at HH hil hroom
  have HV := Lib.hid hv
  have HID := Lib.hid hid
  have HIL := Lib.hid hil
  have HSD := Lib.hid hsd
  have c4 : t = true ∨ (t = false ∧ ¬ (16 : Int) ≤ (S.length : Int)) := by
    cases t
    · right
      refine ⟨rfl, ?_⟩
      rcases hroom with h | h
      · cases h
      · omega
    · left; rfl
  clear hv hid hil hsd hroom ht
  rcases c4 with rfl | ⟨rfl, c3⟩
  all_goals
    go_enter Tryd.func27, Tryd.ntmps27
    go_wp2_with (first
      | (go_at_call 40; refine Calls.mono HF.out ?_; rintro e w1 ⟨rfl, hb⟩)
      | (go_at_call 41; refine Calls.mono (HH.out _ hb) ?_; rintro e w1' ⟨rfl, rfl⟩; have hcell := HL.out _ hb)
      | (go_at_call 28; refine Calls.mono (HD.out _ hb) ?_; rintro e w2 ⟨rfl, v2, hR2, ho2, hn2⟩; obtain ⟨a, c, rfl, hc, hcells⟩ := hR2.own.form; have hcell2 := hR2.blk.cell))
    have RL := Lib.hid (fun w3 (hb3 : Below w2.heap.size w2 w3) => hR2.below hb3)
    have HAC := Lib.hid (show a = none → c = 0 from fun h => by
      rcases hR2.own.2 with ⟨hv, _⟩ | ⟨_, _, _, hv, _⟩
      · injection hv
      · rw [h] at hv; cases hv)
    have HCELLS := Lib.hid (fun w3 (hb3 : Below w2.heap.size w2 w3) => hcells.below hb3)
    have FIN0 := Lib.hid (show ∀ (k : Nat), posS D (bl f) = k → ∀ (w4 : World) (a3 : Option Addr) (n c3 : Nat), Below w2.heap.size w2 w4 → w4.ownsRow w2.heap.size 33 2 (.slice a3 n c3) n ((([] ++ subCells (D.take k)) ++ [.string f, .int .u8 (q : Int)]) ++ subCells (D.drop k)) → n = k + 1 + (D.length - k) →
        RetRSet B g v q (insS S f q) w (.returned (.int .u8 (q : Int))) (w4.setCell ⟨g, 0, none⟩ (.slice a3 n c3)) from by
      intro k hk w4 a3 n c3 hb4 hown hn
      have hkl := posS_le D (bl f)
      have e1 : ([] ++ subCells (D.take k)) ++ [Value.string f, .int .u8 (q : Int)] ++ subCells (D.drop k) = subCells (insS S f q) := by
        rw [← HID.out, hk, subCells_append, subCells_cons, List.nil_append, List.append_assoc]; rfl
      rw [e1] at hown
      have e2 : n = (insS S f q).length := by
        rw [← HID.out, hk, List.length_append, List.length_cons, List.length_take, List.length_drop]; omega
      obtain ⟨v5, h5, h6, h7⟩ := stored_rlist hR2 (Nat.le_trans (Nat.le_trans hB hb.size) ho2.size) hb4 hown e2
      refine ⟨v5, rfl, h5, ((Only.of_below hb (Foot g v)).trans (ho2) (fun j _ h => h)).trans h6 ?_, fun r hr => Or.inr (Nat.le_trans (Nat.le_trans hb.size ho2.size) (h7 r hr))⟩
      intro j hj hF
      rcases hF with h | h
      · exact Or.inl h
      · have := hn2 j h
        have := hb.size
        omega)
    clear hR2 ho2 hn2 hcells HD HH HF HL
    go_loopw [7] (fun i wr => ∃ k : Nat, k ≤ D.length ∧ i = .int .i64 k ∧ Hid (∀ t x, t < k → D[t]? = some x → lessB (fB x) (bl f) = true) ∧ w2 = wr) (fun i _ => D.length - (intOf i).toNat)
    case atStart => exact ⟨0, by omega, rfl, (fun t x h => by omega), rfl⟩
    case round =>
      obtain ⟨k, hk, rfl, HP, rfl⟩ := hrel
      by_cases hgo : ∃ x, D[k]? = some x ∧ lessB (fB x) (bl f) = true
      · obtain ⟨x, hx, hl⟩ := hgo
        have hlt : k < D.length := (List.getElem?_eq_some_iff.1 hx).1
        obtain ⟨bb, o, rfl, c11, c12⟩ := (HCELLS.out _ (Below.refl _ _)).sub hx
        have hs1 := lessTwo x.1 f _ hl
        have HP2 := Lib.hid (show ∀ t y, t < k + 1 → D[t]? = some y → lessB (fB y) (bl f) = true from fun t y ht hy => by
          by_cases e : t = k
          · subst e
            rw [hx] at hy
            injection hy with hy
            subst hy
            exact hl
          · exact HP.out t y (by omega) hy)
        obtain ⟨y, q2⟩ := x
        dsimp only at *
        clear hx hl
        go_wp2_with fail
        go_roundw
        case rel => exact ⟨k + 1, by omega, by first | rfl | go_num, HP2.out, by first | rfl | trivial⟩
        case measure => simp [intOf]; omega
      · have hpos : posS D (bl f) = k := posS_is HSD.out hk HP.out (fun t y ht hy => by
          cases hq2 : lessB (fB y) (bl f) with
          | false => rfl
          | true =>
            have h1 := (List.getElem?_eq_some_iff.1 hy).1
            obtain ⟨z, hz⟩ : ∃ z, D[k]? = some z := ⟨_, List.getElem?_eq_getElem (by omega)⟩
            by_cases e : k = t
            · subst e
              exact absurd ⟨y, hy, hq2⟩ hgo
            · obtain ⟨hz1, hz2⟩ := List.getElem?_eq_some_iff.1 hz
              obtain ⟨hy1, hy2⟩ := List.getElem?_eq_some_iff.1 hy
              have hm := List.pairwise_iff_getElem.1 HSD.out k t hz1 hy1 (by omega)
              rw [hz2, hy2] at hm
              exact absurd ⟨z, hz, lessB_trans hm hq2⟩ hgo)
        have FIN := Lib.hid (FIN0.out k hpos)
        have HT := Lib.hid (show (subCells (D.take k)).length = k * 2 by rw [subCells_len, List.length_take, Nat.min_eq_left hk])
        have HTO := Lib.hid (subCells_one (D.take k))
        have HTK := Lib.hid (fun w3 (hb3 : Below w2.heap.size w2 w3) => cells_take (p := k) (HCELLS.out w3 hb3))
        have HCUT := Lib.hid (fun w3 (hb3 : Below w2.heap.size w2 w3) => cells_cut (HCELLS.out w3 hb3) hk hc)
        have HN2 := Lib.hid (show (if c = k then a else Option.map (fun x => x.add (k * 2)) a) = none → c - k = 0 from fun h => by
          have h1 := HAC.out
          cases a with
          | none => have := h1 rfl; omega
          | some b => split at h <;> cases h)
        have HDL := Lib.hid (show (subCells (D.drop k)).length = (D.length - k) * 2 by rw [subCells_len, List.length_drop])
        have HDO := Lib.hid (subCells_one (D.drop k))
        have HO := Lib.hid (show ∀ u ∈ [Value.string f, Value.int .u8 (q : Int)], u.oneCell' = true from by simp [Value.oneCell'])
        have g1 : (0 : Int) ≤ (k : Int) := by omega
        have g2 : (k : Int) ≤ (D.length : Int) := by omega
        have g3 : (k : Int) ≤ (c : Int) := by omega
        clear hpos FIN0
        have hways : (∃ x, D[k]? = some x ∧ lessB (fB x) (bl f) = false) ∨ k = D.length := by
          rcases Nat.lt_or_ge k D.length with h | h
          · left
            refine ⟨_, List.getElem?_eq_getElem h, ?_⟩
            cases hq2 : lessB (fB D[k]) (bl f) with
            | false => rfl
            | true => exact absurd ⟨_, List.getElem?_eq_getElem h, hq2⟩ hgo
          · right; omega
        clear hgo HP HSD HID HIL HV
        have HW := Lib.hid hways
        clear hways
        rcases HW.out with ⟨x, hx, hl⟩ | hkD
        · have hlt : k < D.length := (List.getElem?_eq_some_iff.1 hx).1
          obtain ⟨bb, o, rfl, c11, c12⟩ := (HCELLS.out _ (Below.refl _ _)).sub hx
          have hs1 := lessTwo x.1 f _ hl
          obtain ⟨y, q2⟩ := x
          dsimp only at *
          have hck : ¬ c = k := by omega
          have HCUT2 := Lib.hid (fun w3 (hb3 : Below w2.heap.size w2 w3) => (show CellsA w3 (some ⟨bb, o + k * 2, none⟩) (subCells (D.drop k)) from by
            have h := HCUT.out w3 hb3
            rw [if_neg hck] at h
            have e : Option.map (fun x => Addr.add x (k * 2)) (some ⟨bb, o, none⟩) = some ⟨bb, o + k * 2, none⟩ := by
              show some (Addr.add ⟨bb, o, none⟩ (k * 2)) = _
              rw [Addr.add_lit]
            rw [e] at h
            exact h))
          clear hx hl
          go_wp2_with fail
          refine wp_region_noPanic ?_
          refine AnyT.begin (S := fun w' => w'.cell? ⟨g, 0, none⟩ = some (.slice (some ⟨bb, o, none⟩) D.length c)) (z := 23) (by kernel_rfl) ?_ (fun hHeld => ?_)
          · exact (RL.out _ (below_add (Below.refl _ _) 1)).blk.cell
          have hbx : Below w2.heap.size w2 w2.drew := below_add (Below.refl _ _) 1
          generalize World.drew w2 = wx at hHeld hbx ⊢
          refine AnyT.take (i := 0) (oi := ⟨some 53, _, _, _, _, _⟩) (v := ?_) rfl (by kernel_rfl) (by kernel_rfl) (by kernel_rfl) (by kernel_rfl) (fun _ _ _ h => h) (Or.inl ⟨by rfl, ?_⟩) (by assumption) ?_
          rotate_left
          · (intro w hSw; (try dsimp only at hSw); go_simp; try with_reducible rfl)
          try simp only [Act.put, List.setIfInBounds_toArray, List.set_cons_zero, List.set_cons_succ]
          refine AnyT.take (i := 2) (oi := ⟨some 55, _, _, _, _, _⟩) (v := ?_) rfl (by kernel_rfl) (by kernel_rfl) (by kernel_rfl) (by kernel_rfl) (fun _ _ _ h => h) (Or.inl ⟨by rfl, ?_⟩) (by assumption) ?_
          rotate_left
          · (intro w hSw; (try dsimp only at hSw); go_simp; try with_reducible rfl)
          try simp only [Act.put, List.setIfInBounds_toArray, List.set_cons_zero, List.set_cons_succ]
          refine AnyT.take (i := 3) (oi := ⟨some 56, _, _, _, _, _⟩) (v := ?_) rfl (by kernel_rfl) (by kernel_rfl) (by kernel_rfl) (by kernel_rfl) (fun _ _ _ h => h) (Or.inl ⟨by rfl, ?_⟩) (by assumption) ?_
          rotate_left
          · (intro w hSw; (try dsimp only at hSw); go_simp; try with_reducible rfl)
          try simp only [Act.put, List.setIfInBounds_toArray, List.set_cons_zero, List.set_cons_succ]
          refine AnyT.take (i := 4) (oi := ⟨some 57, _, _, _, _, _⟩) (v := ?_) rfl (by kernel_rfl) (by kernel_rfl) (by kernel_rfl) (by kernel_rfl) (fun _ _ _ h => h) (Or.inl ⟨by rfl, ?_⟩) (by assumption) ?_
          rotate_left
          · (intro w hSw; (try dsimp only at hSw); go_simp; try with_reducible rfl)
          try simp only [Act.put, List.setIfInBounds_toArray, List.set_cons_zero, List.set_cons_succ]
          refine AnyT.take (i := 5) (oi := ⟨some 58, _, _, _, _, _⟩) (v := ?_) rfl (by kernel_rfl) (by kernel_rfl) (by kernel_rfl) (by kernel_rfl) (fun _ _ _ h => h) (Or.inl ⟨by rfl, ?_⟩) (by assumption) ?_
          rotate_left
          · (intro w hSw; (try dsimp only at hSw); go_simp; try with_reducible rfl)
          try simp only [Act.put, List.setIfInBounds_toArray, List.set_cons_zero, List.set_cons_succ]
          refine AnyT.take (i := 6) (oi := ⟨some 59, _, _, _, _, _⟩) (v := ?_) rfl (by kernel_rfl) (by kernel_rfl) (by kernel_rfl) (by kernel_rfl) (fun _ _ _ h => h) (Or.inl ⟨by rfl, ?_⟩) (by assumption) ?_
          rotate_left
          · (intro w hSw; (try dsimp only at hSw); go_simp; try with_reducible rfl)
          try simp only [Act.put, List.setIfInBounds_toArray, List.set_cons_zero, List.set_cons_succ]
          refine AnyT.take (i := 7) (oi := ⟨some 60, _, _, _, _, _⟩) (v := ?_) rfl (by kernel_rfl) (by kernel_rfl) (by kernel_rfl) (by kernel_rfl) (fun _ _ _ h => h) (Or.inl ⟨by rfl, ?_⟩) (by assumption) ?_
          rotate_left
          · (intro w hSw; (try dsimp only at hSw); go_simp; try with_reducible rfl)
          try simp only [Act.put, List.setIfInBounds_toArray, List.set_cons_zero, List.set_cons_succ]
          refine AnyT.take (i := 9) (oi := ⟨some 62, _, _, _, _, _⟩) (v := ?_) rfl (by kernel_rfl) (by kernel_rfl) (by kernel_rfl) (by kernel_rfl) (fun _ _ _ h => h) (Or.inl ⟨by rfl, ?_⟩) (by assumption) ?_
          rotate_left
          · (intro w hSw; (try dsimp only at hSw); go_simp; try with_reducible rfl)
          try simp only [Act.put, List.setIfInBounds_toArray, List.set_cons_zero, List.set_cons_succ]
          refine AnyT.take (i := 10) (oi := ⟨some 63, _, _, _, _, _⟩) (v := ?_) rfl (by kernel_rfl) (by kernel_rfl) (by kernel_rfl) (by kernel_rfl) (fun _ _ _ h => h) (Or.inl ⟨by rfl, ?_⟩) (by assumption) ?_
          rotate_left
          · (intro w hSw; (try dsimp only at hSw); go_simp; try with_reducible rfl)
          try simp only [Act.put, List.setIfInBounds_toArray, List.set_cons_zero, List.set_cons_succ]
          refine AnyT.take (i := 11) (oi := ⟨some 64, _, _, _, _, _⟩) (v := ?_) rfl (by kernel_rfl) (by kernel_rfl) (by kernel_rfl) (by kernel_rfl) (fun _ _ _ h => h) (Or.inl ⟨by rfl, ?_⟩) (by assumption) ?_
          rotate_left
          · (intro w hSw; (try dsimp only at hSw); go_simp; try with_reducible rfl)
          try simp only [Act.put, List.setIfInBounds_toArray, List.set_cons_zero, List.set_cons_succ]
          refine AnyT.take (i := 14) (oi := ⟨some 67, _, _, _, _, _⟩) (v := ?_) rfl (by kernel_rfl) (by kernel_rfl) (by kernel_rfl) (by kernel_rfl) (fun _ _ _ h => h) (Or.inl ⟨by rfl, ?_⟩) (by assumption) ?_
          rotate_left
          · (intro w hSw; (try dsimp only at hSw); go_simp; try with_reducible rfl)
          try simp only [Act.put, List.setIfInBounds_toArray, List.set_cons_zero, List.set_cons_succ]
          refine AnyT.take (i := 15) (oi := ⟨some 68, _, _, _, _, _⟩) (v := ?_) rfl (by kernel_rfl) (by kernel_rfl) (by kernel_rfl) (by kernel_rfl) (fun _ _ _ h => h) (Or.inl ⟨by rfl, ?_⟩) (by assumption) ?_
          rotate_left
          · (intro w hSw; (try dsimp only at hSw); go_simp; try with_reducible rfl)
          try simp only [Act.put, List.setIfInBounds_toArray, List.set_cons_zero, List.set_cons_succ]
          refine AnyT.take (i := 16) (oi := ⟨some 69, _, _, _, _, _⟩) (v := ?_) rfl (by kernel_rfl) (by kernel_rfl) (by kernel_rfl) (by kernel_rfl) (fun _ _ _ h => h) (Or.inl ⟨by rfl, ?_⟩) (by assumption) ?_
          rotate_left
          · (intro w hSw; (try dsimp only at hSw); go_simp; try with_reducible rfl)
          try simp only [Act.put, List.setIfInBounds_toArray, List.set_cons_zero, List.set_cons_succ]
          refine AnyT.take (i := 17) (oi := ⟨some 70, _, _, _, _, _⟩) (v := ?_) rfl (by kernel_rfl) (by kernel_rfl) (by kernel_rfl) (by kernel_rfl) (fun _ _ _ h => h) (Or.inl ⟨by rfl, ?_⟩) (by assumption) ?_
          rotate_left
          · (intro w hSw; (try dsimp only at hSw); go_simp; try with_reducible rfl)
          try simp only [Act.put, List.setIfInBounds_toArray, List.set_cons_zero, List.set_cons_succ]
          refine AnyT.take (i := 18) (oi := ⟨some 71, _, _, _, _, _⟩) (v := ?_) rfl (by kernel_rfl) (by kernel_rfl) (by kernel_rfl) (by kernel_rfl) (fun _ _ _ h => h) (Or.inl ⟨by rfl, ?_⟩) (by assumption) ?_
          rotate_left
          · (intro w hSw; (try dsimp only at hSw); go_simp; try with_reducible rfl)
          try simp only [Act.put, List.setIfInBounds_toArray, List.set_cons_zero, List.set_cons_succ]
          refine AnyT.take (i := 19) (oi := ⟨some 72, _, _, _, _, _⟩) (v := ?_) rfl (by kernel_rfl) (by kernel_rfl) (by kernel_rfl) (by kernel_rfl) (fun _ _ _ h => h) (Or.inl ⟨by rfl, ?_⟩) (by assumption) ?_
          rotate_left
          · (intro w hSw; (try dsimp only at hSw); go_simp; try with_reducible rfl)
          try simp only [Act.put, List.setIfInBounds_toArray, List.set_cons_zero, List.set_cons_succ]
          refine AnyT.step2 (i := 1) (j := 12) (o := ⟨some 54, _, _, _, _, _⟩) (o2 := ⟨some 65, _, _, _, _, _⟩) (by kernel_rfl) rfl rfl (fun K hK => ?_) (fun K hK => ?_)
          · (go_simp; obtain ⟨x1, hA⟩ : ∃ x, World.alloc wx (.cells #[] 33) = x := ⟨_, rfl⟩; rw [hA]; have hown0 := own_empty hA hbx.size; replace hbx := Below.then hbx (below_al2 hA); clear hA)
            refine hK.out _ _ (fun _ => ?_) (fun hHeld => ?_)
            · exact (RL.out _ hbx).blk.cell
            replace hHeld := hHeld (by decide)
            clear hK K
            try simp only [Act.put, List.setIfInBounds_toArray, List.set_cons_zero, List.set_cons_succ]
            refine AnyT.step2 (i := 8) (j := 12) (o := ⟨some 61, _, _, _, _, _⟩) (o2 := ⟨some 65, _, _, _, _, _⟩) (by kernel_rfl) rfl rfl (fun K hK => ?_) (fun K hK => ?_)
            · (refine step_append_cells rfl (.tmp 54) (.tmp 60) 28 rfl _ 33 i0 _ 2 24 Tryd.underlying28 hi hz0 hz1 hz2 rfl (by decide) _ 0 [] (by rfl) hown0 (some ⟨bb, o, none⟩) k c HAC.out (subCells (D.take k)) (by rfl) HT.out (HTK.out _ hbx) HTO.out (by unfold maxLen; omega) (by omega) hbx.size ?_; intro v1 x2 hown1 hg1; replace hbx := Below.grown' hbx hg1 hbx.size (fun r hr => (own_lt hown0 hr).2); clear hg1 hown0)
              refine hK.out _ _ (fun _ => ?_) (fun hHeld => ?_)
              · exact (RL.out _ hbx).blk.cell
              replace hHeld := hHeld (by decide)
              clear hK K
              try simp only [Act.put, List.setIfInBounds_toArray, List.set_cons_zero, List.set_cons_succ]
              refine AnyT.step (i := 12) (o := ⟨some 65, _, _, _, _, _⟩) (by kernel_rfl) rfl (fun K hK => ?_)
              (go_simp; obtain ⟨x3, hA⟩ : ∃ x, World.alloc x2 (.cells #[.string f, .int .u8 (q : Int)] 33) = x := ⟨_, rfl⟩; rw [hA]; have hel := cells_new2 hA; replace hown1 := own_al hown1 hA; replace hbx := Below.then hbx (below_al2 hA); clear hA)
              refine hK.out _ _ (fun _ => ?_) (fun hHeld => ?_)
              · exact (RL.out _ hbx).blk.cell
              replace hHeld := hHeld (by decide)
              clear hK K
              try simp only [Act.put, List.setIfInBounds_toArray, List.set_cons_zero, List.set_cons_succ]
              refine AnyT.step (i := 13) (o := ⟨some 66, _, _, _, _, _⟩) (by kernel_rfl) rfl (fun K hK => ?_)
              (refine step_append_cells rfl (.tmp 61) (.tmp 65) 28 rfl _ 33 i0 _ 2 24 Tryd.underlying28 hi hz0 hz1 hz2 rfl (by decide) v1 (0 + k) _ (by rfl) hown1 _ 1 1 (fun h => by cases h) [.string f, .int .u8 (q : Int)] (by rfl) rfl hel HO.out (by unfold maxLen; omega) (by omega) hbx.size ?_; intro v2 x4 hown2 hg2; replace hbx := Below.grown' hbx hg2 hbx.size (fun r hr => (own_lt hown1 hr).2); clear hg2 hown1 hel)
              refine hK.out _ _ (fun _ => ?_) (fun hHeld => ?_)
              · exact (RL.out _ hbx).blk.cell
              replace hHeld := hHeld (by decide)
              clear hK K
              try simp only [Act.put, List.setIfInBounds_toArray, List.set_cons_zero, List.set_cons_succ]
              refine AnyT.step (i := 20) (o := ⟨some 73, _, _, _, _, _⟩) (by kernel_rfl) rfl (fun K hK => ?_)
              (refine step_append_cells rfl (.tmp 66) (.tmp 72) 28 rfl _ 33 i0 _ 2 24 Tryd.underlying28 hi hz0 hz1 hz2 rfl (by decide) v2 (0 + k + 1) _ (by rfl) hown2 _ (D.length - k) (c - k) (fun h => by cases h) (subCells (D.drop k)) (by rfl) HDL.out (HCUT2.out _ hbx) HDO.out (by unfold maxLen; omega) (by omega) hbx.size ?_; intro v3 x5 hown3 hg3; replace hbx := Below.grown' hbx hg3 hbx.size (fun r hr => (own_lt hown2 hr).2); clear hg3 hown2; rw [Nat.zero_add] at hown3; have HOWN3 := Lib.hid hown3; obtain ⟨a3, c3, rfl, _, _⟩ := own_form hown3; clear hown3; have hfr3 := (RL.out _ hbx).blk.frozen 0)
              refine hK.out _ _ (fun _ => ?_) (fun hHeld => ?_)
              · exact (RL.out _ hbx).blk.cell
              replace hHeld := hHeld (by decide)
              clear hK K
              try simp only [Act.put, List.setIfInBounds_toArray, List.set_cons_zero, List.set_cons_succ]
              refine AnyT.step (i := 21) (o := ⟨some 74, _, _, _, _, _⟩) (by kernel_rfl) rfl (fun K hK => ?_)
              go_simp
              refine hK.out _ _ (fun _ => ?_) (fun hHeld => ?_)
              · exact (RL.out _ hbx).blk.cell
              replace hHeld := hHeld (by decide)
              clear hK K
              try simp only [Act.put, List.setIfInBounds_toArray, List.set_cons_zero, List.set_cons_succ]
              refine AnyT.take (i := 22) (oi := ⟨some 75, _, _, _, _, _⟩) (v := ?_) rfl (by kernel_rfl) (by kernel_rfl) (by kernel_rfl) (by kernel_rfl) (fun _ _ _ h => h) (Or.inl ⟨by rfl, ?_⟩) (by assumption) ?_
              rotate_left
              · (intro w hSw; (try dsimp only at hSw); go_simp; try with_reducible rfl)
              try simp only [Act.put, List.setIfInBounds_toArray, List.set_cons_zero, List.set_cons_succ]
              refine AnyT.step (i := 23) (o := ⟨none, _, _, _, _, _⟩) (by kernel_rfl) rfl (fun K hK => ?_)
              (have hcell3 := (RL.out _ hbx).blk.cell; go_simp)
              refine hK.out _ _ (fun h => absurd rfl h) (fun _ => ?_)
              clear hK K
              try simp only [Act.put, List.setIfInBounds_toArray, List.set_cons_zero, List.set_cons_succ]
              refine AnyT.done (by kernel_rfl) ?_ _
              refine NoPanic.normal ?_
              go_wp2_with fail
              all_goals go_ret
              all_goals first | exact FIN.out _ _ _ _ hbx HOWN3.out (by omega) | (have e : c = k := (by assumption); subst e; exact FIN.out _ _ _ _ hbx HOWN3.out (by omega))
            · (go_simp; obtain ⟨x2, hA⟩ : ∃ x, World.alloc x1 (.cells #[.string f, .int .u8 (q : Int)] 33) = x := ⟨_, rfl⟩; rw [hA]; have hel := cells_new2 hA; have hne := Nat.ne_of_gt (own_lt hown0 rfl).1; replace hown0 := own_al hown0 hA; replace hbx := Below.then hbx (below_al2 hA); clear hA)
              refine hK.out _ _ (fun _ => ?_) (fun hHeld => ?_)
              · exact (RL.out _ hbx).blk.cell
              replace hHeld := hHeld (by decide)
              clear hK K
              try simp only [Act.put, List.setIfInBounds_toArray, List.set_cons_zero, List.set_cons_succ]
              refine AnyT.step (i := 8) (o := ⟨some 61, _, _, _, _, _⟩) (by kernel_rfl) rfl (fun K hK => ?_)
              (refine step_append_cells rfl (.tmp 54) (.tmp 60) 28 rfl _ 33 i0 _ 2 24 Tryd.underlying28 hi hz0 hz1 hz2 rfl (by decide) _ 0 [] (by rfl) hown0 (some ⟨bb, o, none⟩) k c HAC.out (subCells (D.take k)) (by rfl) HT.out (HTK.out _ hbx) HTO.out (by unfold maxLen; omega) (by omega) hbx.size ?_; intro v1 x3 hown1 hg1; replace hel := hel.far hg1 hne; replace hbx := Below.grown' hbx hg1 hbx.size (fun r hr => (own_lt hown0 hr).2); clear hg1 hown0)
              refine hK.out _ _ (fun _ => ?_) (fun hHeld => ?_)
              · exact (RL.out _ hbx).blk.cell
              replace hHeld := hHeld (by decide)
              clear hK K
              try simp only [Act.put, List.setIfInBounds_toArray, List.set_cons_zero, List.set_cons_succ]
              refine AnyT.step (i := 13) (o := ⟨some 66, _, _, _, _, _⟩) (by kernel_rfl) rfl (fun K hK => ?_)
              (refine step_append_cells rfl (.tmp 61) (.tmp 65) 28 rfl _ 33 i0 _ 2 24 Tryd.underlying28 hi hz0 hz1 hz2 rfl (by decide) v1 (0 + k) _ (by rfl) hown1 _ 1 1 (fun h => by cases h) [.string f, .int .u8 (q : Int)] (by rfl) rfl hel HO.out (by unfold maxLen; omega) (by omega) hbx.size ?_; intro v2 x4 hown2 hg2; replace hbx := Below.grown' hbx hg2 hbx.size (fun r hr => (own_lt hown1 hr).2); clear hg2 hown1 hel)
              refine hK.out _ _ (fun _ => ?_) (fun hHeld => ?_)
              · exact (RL.out _ hbx).blk.cell
              replace hHeld := hHeld (by decide)
              clear hK K
              try simp only [Act.put, List.setIfInBounds_toArray, List.set_cons_zero, List.set_cons_succ]
              refine AnyT.step (i := 20) (o := ⟨some 73, _, _, _, _, _⟩) (by kernel_rfl) rfl (fun K hK => ?_)
              (refine step_append_cells rfl (.tmp 66) (.tmp 72) 28 rfl _ 33 i0 _ 2 24 Tryd.underlying28 hi hz0 hz1 hz2 rfl (by decide) v2 (0 + k + 1) _ (by rfl) hown2 _ (D.length - k) (c - k) (fun h => by cases h) (subCells (D.drop k)) (by rfl) HDL.out (HCUT2.out _ hbx) HDO.out (by unfold maxLen; omega) (by omega) hbx.size ?_; intro v3 x5 hown3 hg3; replace hbx := Below.grown' hbx hg3 hbx.size (fun r hr => (own_lt hown2 hr).2); clear hg3 hown2; rw [Nat.zero_add] at hown3; have HOWN3 := Lib.hid hown3; obtain ⟨a3, c3, rfl, _, _⟩ := own_form hown3; clear hown3; have hfr3 := (RL.out _ hbx).blk.frozen 0)
              refine hK.out _ _ (fun _ => ?_) (fun hHeld => ?_)
              · exact (RL.out _ hbx).blk.cell
              replace hHeld := hHeld (by decide)
              clear hK K
              try simp only [Act.put, List.setIfInBounds_toArray, List.set_cons_zero, List.set_cons_succ]
              refine AnyT.step (i := 21) (o := ⟨some 74, _, _, _, _, _⟩) (by kernel_rfl) rfl (fun K hK => ?_)
              go_simp
              refine hK.out _ _ (fun _ => ?_) (fun hHeld => ?_)
              · exact (RL.out _ hbx).blk.cell
              replace hHeld := hHeld (by decide)
              clear hK K
              try simp only [Act.put, List.setIfInBounds_toArray, List.set_cons_zero, List.set_cons_succ]
              refine AnyT.take (i := 22) (oi := ⟨some 75, _, _, _, _, _⟩) (v := ?_) rfl (by kernel_rfl) (by kernel_rfl) (by kernel_rfl) (by kernel_rfl) (fun _ _ _ h => h) (Or.inl ⟨by rfl, ?_⟩) (by assumption) ?_
              rotate_left
              · (intro w hSw; (try dsimp only at hSw); go_simp; try with_reducible rfl)
              try simp only [Act.put, List.setIfInBounds_toArray, List.set_cons_zero, List.set_cons_succ]
              refine AnyT.step (i := 23) (o := ⟨none, _, _, _, _, _⟩) (by kernel_rfl) rfl (fun K hK => ?_)
              (have hcell3 := (RL.out _ hbx).blk.cell; go_simp)
              refine hK.out _ _ (fun h => absurd rfl h) (fun _ => ?_)
              clear hK K
              try simp only [Act.put, List.setIfInBounds_toArray, List.set_cons_zero, List.set_cons_succ]
              refine AnyT.done (by kernel_rfl) ?_ _
              refine NoPanic.normal ?_
              go_wp2_with fail
              all_goals go_ret
              all_goals first | exact FIN.out _ _ _ _ hbx HOWN3.out (by omega) | (have e : c = k := (by assumption); subst e; exact FIN.out _ _ _ _ hbx HOWN3.out (by omega))
          · (go_simp; obtain ⟨x1, hA⟩ : ∃ x, World.alloc wx (.cells #[.string f, .int .u8 (q : Int)] 33) = x := ⟨_, rfl⟩; rw [hA]; have hel := cells_new2 hA; have hElt := lt_al hA; replace hbx := Below.then hbx (below_al2 hA); clear hA)
            refine hK.out _ _ (fun _ => ?_) (fun hHeld => ?_)
            · exact (RL.out _ hbx).blk.cell
            replace hHeld := hHeld (by decide)
            clear hK K
            try simp only [Act.put, List.setIfInBounds_toArray, List.set_cons_zero, List.set_cons_succ]
            refine AnyT.step (i := 1) (o := ⟨some 54, _, _, _, _, _⟩) (by kernel_rfl) rfl (fun K hK => ?_)
            (go_simp; obtain ⟨x2, hA⟩ : ∃ x, World.alloc x1 (.cells #[] 33) = x := ⟨_, rfl⟩; rw [hA]; have hown0 := own_empty hA hbx.size; have hne := Nat.ne_of_lt hElt; replace hel := hel.below (below_al2 hA); replace hbx := Below.then hbx (below_al2 hA); clear hA)
            refine hK.out _ _ (fun _ => ?_) (fun hHeld => ?_)
            · exact (RL.out _ hbx).blk.cell
            replace hHeld := hHeld (by decide)
            clear hK K
            try simp only [Act.put, List.setIfInBounds_toArray, List.set_cons_zero, List.set_cons_succ]
            refine AnyT.step (i := 8) (o := ⟨some 61, _, _, _, _, _⟩) (by kernel_rfl) rfl (fun K hK => ?_)
            (refine step_append_cells rfl (.tmp 54) (.tmp 60) 28 rfl _ 33 i0 _ 2 24 Tryd.underlying28 hi hz0 hz1 hz2 rfl (by decide) _ 0 [] (by rfl) hown0 (some ⟨bb, o, none⟩) k c HAC.out (subCells (D.take k)) (by rfl) HT.out (HTK.out _ hbx) HTO.out (by unfold maxLen; omega) (by omega) hbx.size ?_; intro v1 x3 hown1 hg1; replace hel := hel.far hg1 hne; replace hbx := Below.grown' hbx hg1 hbx.size (fun r hr => (own_lt hown0 hr).2); clear hg1 hown0)
            refine hK.out _ _ (fun _ => ?_) (fun hHeld => ?_)
            · exact (RL.out _ hbx).blk.cell
            replace hHeld := hHeld (by decide)
            clear hK K
            try simp only [Act.put, List.setIfInBounds_toArray, List.set_cons_zero, List.set_cons_succ]
            refine AnyT.step (i := 13) (o := ⟨some 66, _, _, _, _, _⟩) (by kernel_rfl) rfl (fun K hK => ?_)
            (refine step_append_cells rfl (.tmp 61) (.tmp 65) 28 rfl _ 33 i0 _ 2 24 Tryd.underlying28 hi hz0 hz1 hz2 rfl (by decide) v1 (0 + k) _ (by rfl) hown1 _ 1 1 (fun h => by cases h) [.string f, .int .u8 (q : Int)] (by rfl) rfl hel HO.out (by unfold maxLen; omega) (by omega) hbx.size ?_; intro v2 x4 hown2 hg2; replace hbx := Below.grown' hbx hg2 hbx.size (fun r hr => (own_lt hown1 hr).2); clear hg2 hown1 hel)
            refine hK.out _ _ (fun _ => ?_) (fun hHeld => ?_)
            · exact (RL.out _ hbx).blk.cell
            replace hHeld := hHeld (by decide)
            clear hK K
            try simp only [Act.put, List.setIfInBounds_toArray, List.set_cons_zero, List.set_cons_succ]
            refine AnyT.step (i := 20) (o := ⟨some 73, _, _, _, _, _⟩) (by kernel_rfl) rfl (fun K hK => ?_)
            (refine step_append_cells rfl (.tmp 66) (.tmp 72) 28 rfl _ 33 i0 _ 2 24 Tryd.underlying28 hi hz0 hz1 hz2 rfl (by decide) v2 (0 + k + 1) _ (by rfl) hown2 _ (D.length - k) (c - k) (fun h => by cases h) (subCells (D.drop k)) (by rfl) HDL.out (HCUT2.out _ hbx) HDO.out (by unfold maxLen; omega) (by omega) hbx.size ?_; intro v3 x5 hown3 hg3; replace hbx := Below.grown' hbx hg3 hbx.size (fun r hr => (own_lt hown2 hr).2); clear hg3 hown2; rw [Nat.zero_add] at hown3; have HOWN3 := Lib.hid hown3; obtain ⟨a3, c3, rfl, _, _⟩ := own_form hown3; clear hown3; have hfr3 := (RL.out _ hbx).blk.frozen 0)
            refine hK.out _ _ (fun _ => ?_) (fun hHeld => ?_)
            · exact (RL.out _ hbx).blk.cell
            replace hHeld := hHeld (by decide)
            clear hK K
            try simp only [Act.put, List.setIfInBounds_toArray, List.set_cons_zero, List.set_cons_succ]
            refine AnyT.step (i := 21) (o := ⟨some 74, _, _, _, _, _⟩) (by kernel_rfl) rfl (fun K hK => ?_)
            go_simp
            refine hK.out _ _ (fun _ => ?_) (fun hHeld => ?_)
            · exact (RL.out _ hbx).blk.cell
            replace hHeld := hHeld (by decide)
            clear hK K
            try simp only [Act.put, List.setIfInBounds_toArray, List.set_cons_zero, List.set_cons_succ]
            refine AnyT.take (i := 22) (oi := ⟨some 75, _, _, _, _, _⟩) (v := ?_) rfl (by kernel_rfl) (by kernel_rfl) (by kernel_rfl) (by kernel_rfl) (fun _ _ _ h => h) (Or.inl ⟨by rfl, ?_⟩) (by assumption) ?_
            rotate_left
            · (intro w hSw; (try dsimp only at hSw); go_simp; try with_reducible rfl)
            try simp only [Act.put, List.setIfInBounds_toArray, List.set_cons_zero, List.set_cons_succ]
            refine AnyT.step (i := 23) (o := ⟨none, _, _, _, _, _⟩) (by kernel_rfl) rfl (fun K hK => ?_)
            (have hcell3 := (RL.out _ hbx).blk.cell; go_simp)
            refine hK.out _ _ (fun h => absurd rfl h) (fun _ => ?_)
            clear hK K
            try simp only [Act.put, List.setIfInBounds_toArray, List.set_cons_zero, List.set_cons_succ]
            refine AnyT.done (by kernel_rfl) ?_ _
            refine NoPanic.normal ?_
            go_wp2_with fail
            all_goals go_ret
            all_goals first | exact FIN.out _ _ _ _ hbx HOWN3.out (by omega) | (have e : c = k := (by assumption); subst e; exact FIN.out _ _ _ _ hbx HOWN3.out (by omega))

        · have hkn : ¬ (k : Int) < (D.length : Int) := by omega
          clear hkD
          go_wp2_with fail
          refine wp_region_noPanic ?_
          refine AnyT.begin (S := fun w' => w'.cell? ⟨g, 0, none⟩ = some (.slice a D.length c)) (z := 23) (by kernel_rfl) ?_ (fun hHeld => ?_)
          · exact (RL.out _ (below_add (Below.refl _ _) 1)).blk.cell
          have hbx : Below w2.heap.size w2 w2.drew := below_add (Below.refl _ _) 1
          generalize World.drew w2 = wx at hHeld hbx ⊢
          refine AnyT.take (i := 0) (oi := ⟨some 53, _, _, _, _, _⟩) (v := ?_) rfl (by kernel_rfl) (by kernel_rfl) (by kernel_rfl) (by kernel_rfl) (fun _ _ _ h => h) (Or.inl ⟨by rfl, ?_⟩) (by assumption) ?_
          rotate_left
          · (intro w hSw; (try dsimp only at hSw); go_simp; try with_reducible rfl)
          try simp only [Act.put, List.setIfInBounds_toArray, List.set_cons_zero, List.set_cons_succ]
          refine AnyT.take (i := 2) (oi := ⟨some 55, _, _, _, _, _⟩) (v := ?_) rfl (by kernel_rfl) (by kernel_rfl) (by kernel_rfl) (by kernel_rfl) (fun _ _ _ h => h) (Or.inl ⟨by rfl, ?_⟩) (by assumption) ?_
          rotate_left
          · (intro w hSw; (try dsimp only at hSw); go_simp; try with_reducible rfl)
          try simp only [Act.put, List.setIfInBounds_toArray, List.set_cons_zero, List.set_cons_succ]
          refine AnyT.take (i := 3) (oi := ⟨some 56, _, _, _, _, _⟩) (v := ?_) rfl (by kernel_rfl) (by kernel_rfl) (by kernel_rfl) (by kernel_rfl) (fun _ _ _ h => h) (Or.inl ⟨by rfl, ?_⟩) (by assumption) ?_
          rotate_left
          · (intro w hSw; (try dsimp only at hSw); go_simp; try with_reducible rfl)
          try simp only [Act.put, List.setIfInBounds_toArray, List.set_cons_zero, List.set_cons_succ]
          refine AnyT.take (i := 4) (oi := ⟨some 57, _, _, _, _, _⟩) (v := ?_) rfl (by kernel_rfl) (by kernel_rfl) (by kernel_rfl) (by kernel_rfl) (fun _ _ _ h => h) (Or.inl ⟨by rfl, ?_⟩) (by assumption) ?_
          rotate_left
          · (intro w hSw; (try dsimp only at hSw); go_simp; try with_reducible rfl)
          try simp only [Act.put, List.setIfInBounds_toArray, List.set_cons_zero, List.set_cons_succ]
          refine AnyT.take (i := 5) (oi := ⟨some 58, _, _, _, _, _⟩) (v := ?_) rfl (by kernel_rfl) (by kernel_rfl) (by kernel_rfl) (by kernel_rfl) (fun _ _ _ h => h) (Or.inl ⟨by rfl, ?_⟩) (by assumption) ?_
          rotate_left
          · (intro w hSw; (try dsimp only at hSw); go_simp; try with_reducible rfl)
          try simp only [Act.put, List.setIfInBounds_toArray, List.set_cons_zero, List.set_cons_succ]
          refine AnyT.take (i := 6) (oi := ⟨some 59, _, _, _, _, _⟩) (v := ?_) rfl (by kernel_rfl) (by kernel_rfl) (by kernel_rfl) (by kernel_rfl) (fun _ _ _ h => h) (Or.inl ⟨by rfl, ?_⟩) (by assumption) ?_
          rotate_left
          · (intro w hSw; (try dsimp only at hSw); go_simp; try with_reducible rfl)
          try simp only [Act.put, List.setIfInBounds_toArray, List.set_cons_zero, List.set_cons_succ]
          refine AnyT.take (i := 7) (oi := ⟨some 60, _, _, _, _, _⟩) (v := ?_) rfl (by kernel_rfl) (by kernel_rfl) (by kernel_rfl) (by kernel_rfl) (fun _ _ _ h => h) (Or.inl ⟨by rfl, ?_⟩) (by assumption) ?_
          rotate_left
          · (intro w hSw; (try dsimp only at hSw); go_simp; try with_reducible rfl)
          try simp only [Act.put, List.setIfInBounds_toArray, List.set_cons_zero, List.set_cons_succ]
          refine AnyT.take (i := 9) (oi := ⟨some 62, _, _, _, _, _⟩) (v := ?_) rfl (by kernel_rfl) (by kernel_rfl) (by kernel_rfl) (by kernel_rfl) (fun _ _ _ h => h) (Or.inl ⟨by rfl, ?_⟩) (by assumption) ?_
          rotate_left
          · (intro w hSw; (try dsimp only at hSw); go_simp; try with_reducible rfl)
          try simp only [Act.put, List.setIfInBounds_toArray, List.set_cons_zero, List.set_cons_succ]
          refine AnyT.take (i := 10) (oi := ⟨some 63, _, _, _, _, _⟩) (v := ?_) rfl (by kernel_rfl) (by kernel_rfl) (by kernel_rfl) (by kernel_rfl) (fun _ _ _ h => h) (Or.inl ⟨by rfl, ?_⟩) (by assumption) ?_
          rotate_left
          · (intro w hSw; (try dsimp only at hSw); go_simp; try with_reducible rfl)
          try simp only [Act.put, List.setIfInBounds_toArray, List.set_cons_zero, List.set_cons_succ]
          refine AnyT.take (i := 11) (oi := ⟨some 64, _, _, _, _, _⟩) (v := ?_) rfl (by kernel_rfl) (by kernel_rfl) (by kernel_rfl) (by kernel_rfl) (fun _ _ _ h => h) (Or.inl ⟨by rfl, ?_⟩) (by assumption) ?_
          rotate_left
          · (intro w hSw; (try dsimp only at hSw); go_simp; try with_reducible rfl)
          try simp only [Act.put, List.setIfInBounds_toArray, List.set_cons_zero, List.set_cons_succ]
          refine AnyT.take (i := 14) (oi := ⟨some 67, _, _, _, _, _⟩) (v := ?_) rfl (by kernel_rfl) (by kernel_rfl) (by kernel_rfl) (by kernel_rfl) (fun _ _ _ h => h) (Or.inl ⟨by rfl, ?_⟩) (by assumption) ?_
          rotate_left
          · (intro w hSw; (try dsimp only at hSw); go_simp; try with_reducible rfl)
          try simp only [Act.put, List.setIfInBounds_toArray, List.set_cons_zero, List.set_cons_succ]
          refine AnyT.take (i := 15) (oi := ⟨some 68, _, _, _, _, _⟩) (v := ?_) rfl (by kernel_rfl) (by kernel_rfl) (by kernel_rfl) (by kernel_rfl) (fun _ _ _ h => h) (Or.inl ⟨by rfl, ?_⟩) (by assumption) ?_
          rotate_left
          · (intro w hSw; (try dsimp only at hSw); go_simp; try with_reducible rfl)
          try simp only [Act.put, List.setIfInBounds_toArray, List.set_cons_zero, List.set_cons_succ]
          refine AnyT.take (i := 16) (oi := ⟨some 69, _, _, _, _, _⟩) (v := ?_) rfl (by kernel_rfl) (by kernel_rfl) (by kernel_rfl) (by kernel_rfl) (fun _ _ _ h => h) (Or.inl ⟨by rfl, ?_⟩) (by assumption) ?_
          rotate_left
          · (intro w hSw; (try dsimp only at hSw); go_simp; try with_reducible rfl)
          try simp only [Act.put, List.setIfInBounds_toArray, List.set_cons_zero, List.set_cons_succ]
          refine AnyT.take (i := 17) (oi := ⟨some 70, _, _, _, _, _⟩) (v := ?_) rfl (by kernel_rfl) (by kernel_rfl) (by kernel_rfl) (by kernel_rfl) (fun _ _ _ h => h) (Or.inl ⟨by rfl, ?_⟩) (by assumption) ?_
          rotate_left
          · (intro w hSw; (try dsimp only at hSw); go_simp; try with_reducible rfl)
          try simp only [Act.put, List.setIfInBounds_toArray, List.set_cons_zero, List.set_cons_succ]
          refine AnyT.take (i := 18) (oi := ⟨some 71, _, _, _, _, _⟩) (v := ?_) rfl (by kernel_rfl) (by kernel_rfl) (by kernel_rfl) (by kernel_rfl) (fun _ _ _ h => h) (Or.inl ⟨by rfl, ?_⟩) (by assumption) ?_
          rotate_left
          · (intro w hSw; (try dsimp only at hSw); go_simp; try with_reducible rfl)
          try simp only [Act.put, List.setIfInBounds_toArray, List.set_cons_zero, List.set_cons_succ]
          refine AnyT.take (i := 19) (oi := ⟨some 72, _, _, _, _, _⟩) (v := ?_) rfl (by kernel_rfl) (by kernel_rfl) (by kernel_rfl) (by kernel_rfl) (fun _ _ _ h => h) (Or.inl ⟨by rfl, ?_⟩) (by assumption) ?_
          rotate_left
          · (intro w hSw; (try dsimp only at hSw); go_simp; try with_reducible rfl)
          try simp only [Act.put, List.setIfInBounds_toArray, List.set_cons_zero, List.set_cons_succ]
          refine AnyT.step2 (i := 1) (j := 12) (o := ⟨some 54, _, _, _, _, _⟩) (o2 := ⟨some 65, _, _, _, _, _⟩) (by kernel_rfl) rfl rfl (fun K hK => ?_) (fun K hK => ?_)
          · (go_simp; obtain ⟨x1, hA⟩ : ∃ x, World.alloc wx (.cells #[] 33) = x := ⟨_, rfl⟩; rw [hA]; have hown0 := own_empty hA hbx.size; replace hbx := Below.then hbx (below_al2 hA); clear hA)
            refine hK.out _ _ (fun _ => ?_) (fun hHeld => ?_)
            · exact (RL.out _ hbx).blk.cell
            replace hHeld := hHeld (by decide)
            clear hK K
            try simp only [Act.put, List.setIfInBounds_toArray, List.set_cons_zero, List.set_cons_succ]
            refine AnyT.step2 (i := 8) (j := 12) (o := ⟨some 61, _, _, _, _, _⟩) (o2 := ⟨some 65, _, _, _, _, _⟩) (by kernel_rfl) rfl rfl (fun K hK => ?_) (fun K hK => ?_)
            · (refine step_append_cells rfl (.tmp 54) (.tmp 60) 28 rfl _ 33 i0 _ 2 24 Tryd.underlying28 hi hz0 hz1 hz2 rfl (by decide) _ 0 [] (by rfl) hown0 a k c HAC.out (subCells (D.take k)) (by rfl) HT.out (HTK.out _ hbx) HTO.out (by unfold maxLen; omega) (by omega) hbx.size ?_; intro v1 x2 hown1 hg1; replace hbx := Below.grown' hbx hg1 hbx.size (fun r hr => (own_lt hown0 hr).2); clear hg1 hown0)
              refine hK.out _ _ (fun _ => ?_) (fun hHeld => ?_)
              · exact (RL.out _ hbx).blk.cell
              replace hHeld := hHeld (by decide)
              clear hK K
              try simp only [Act.put, List.setIfInBounds_toArray, List.set_cons_zero, List.set_cons_succ]
              refine AnyT.step (i := 12) (o := ⟨some 65, _, _, _, _, _⟩) (by kernel_rfl) rfl (fun K hK => ?_)
              (go_simp; obtain ⟨x3, hA⟩ : ∃ x, World.alloc x2 (.cells #[.string f, .int .u8 (q : Int)] 33) = x := ⟨_, rfl⟩; rw [hA]; have hel := cells_new2 hA; replace hown1 := own_al hown1 hA; replace hbx := Below.then hbx (below_al2 hA); clear hA)
              refine hK.out _ _ (fun _ => ?_) (fun hHeld => ?_)
              · exact (RL.out _ hbx).blk.cell
              replace hHeld := hHeld (by decide)
              clear hK K
              try simp only [Act.put, List.setIfInBounds_toArray, List.set_cons_zero, List.set_cons_succ]
              refine AnyT.step (i := 13) (o := ⟨some 66, _, _, _, _, _⟩) (by kernel_rfl) rfl (fun K hK => ?_)
              (refine step_append_cells rfl (.tmp 61) (.tmp 65) 28 rfl _ 33 i0 _ 2 24 Tryd.underlying28 hi hz0 hz1 hz2 rfl (by decide) v1 (0 + k) _ (by rfl) hown1 _ 1 1 (fun h => by cases h) [.string f, .int .u8 (q : Int)] (by rfl) rfl hel HO.out (by unfold maxLen; omega) (by omega) hbx.size ?_; intro v2 x4 hown2 hg2; replace hbx := Below.grown' hbx hg2 hbx.size (fun r hr => (own_lt hown1 hr).2); clear hg2 hown1 hel)
              refine hK.out _ _ (fun _ => ?_) (fun hHeld => ?_)
              · exact (RL.out _ hbx).blk.cell
              replace hHeld := hHeld (by decide)
              clear hK K
              try simp only [Act.put, List.setIfInBounds_toArray, List.set_cons_zero, List.set_cons_succ]
              refine AnyT.step (i := 20) (o := ⟨some 73, _, _, _, _, _⟩) (by kernel_rfl) rfl (fun K hK => ?_)
              (refine step_append_cells rfl (.tmp 66) (.tmp 72) 28 rfl _ 33 i0 _ 2 24 Tryd.underlying28 hi hz0 hz1 hz2 rfl (by decide) v2 (0 + k + 1) _ (by rfl) hown2 _ (D.length - k) (c - k) HN2.out (subCells (D.drop k)) (by rfl) HDL.out (HCUT.out _ hbx) HDO.out (by unfold maxLen; omega) (by omega) hbx.size ?_; intro v3 x5 hown3 hg3; replace hbx := Below.grown' hbx hg3 hbx.size (fun r hr => (own_lt hown2 hr).2); clear hg3 hown2; rw [Nat.zero_add] at hown3; have HOWN3 := Lib.hid hown3; obtain ⟨a3, c3, rfl, _, _⟩ := own_form hown3; clear hown3; have hfr3 := (RL.out _ hbx).blk.frozen 0)
              refine hK.out _ _ (fun _ => ?_) (fun hHeld => ?_)
              · exact (RL.out _ hbx).blk.cell
              replace hHeld := hHeld (by decide)
              clear hK K
              try simp only [Act.put, List.setIfInBounds_toArray, List.set_cons_zero, List.set_cons_succ]
              refine AnyT.step (i := 21) (o := ⟨some 74, _, _, _, _, _⟩) (by kernel_rfl) rfl (fun K hK => ?_)
              go_simp
              refine hK.out _ _ (fun _ => ?_) (fun hHeld => ?_)
              · exact (RL.out _ hbx).blk.cell
              replace hHeld := hHeld (by decide)
              clear hK K
              try simp only [Act.put, List.setIfInBounds_toArray, List.set_cons_zero, List.set_cons_succ]
              refine AnyT.take (i := 22) (oi := ⟨some 75, _, _, _, _, _⟩) (v := ?_) rfl (by kernel_rfl) (by kernel_rfl) (by kernel_rfl) (by kernel_rfl) (fun _ _ _ h => h) (Or.inl ⟨by rfl, ?_⟩) (by assumption) ?_
              rotate_left
              · (intro w hSw; (try dsimp only at hSw); go_simp; try with_reducible rfl)
              try simp only [Act.put, List.setIfInBounds_toArray, List.set_cons_zero, List.set_cons_succ]
              refine AnyT.step (i := 23) (o := ⟨none, _, _, _, _, _⟩) (by kernel_rfl) rfl (fun K hK => ?_)
              (have hcell3 := (RL.out _ hbx).blk.cell; go_simp)
              refine hK.out _ _ (fun h => absurd rfl h) (fun _ => ?_)
              clear hK K
              try simp only [Act.put, List.setIfInBounds_toArray, List.set_cons_zero, List.set_cons_succ]
              refine AnyT.done (by kernel_rfl) ?_ _
              refine NoPanic.normal ?_
              go_wp2_with fail
              all_goals go_ret
              all_goals first | exact FIN.out _ _ _ _ hbx HOWN3.out (by omega) | (have e : c = k := (by assumption); subst e; exact FIN.out _ _ _ _ hbx HOWN3.out (by omega))
            · (go_simp; obtain ⟨x2, hA⟩ : ∃ x, World.alloc x1 (.cells #[.string f, .int .u8 (q : Int)] 33) = x := ⟨_, rfl⟩; rw [hA]; have hel := cells_new2 hA; have hne := Nat.ne_of_gt (own_lt hown0 rfl).1; replace hown0 := own_al hown0 hA; replace hbx := Below.then hbx (below_al2 hA); clear hA)
              refine hK.out _ _ (fun _ => ?_) (fun hHeld => ?_)
              · exact (RL.out _ hbx).blk.cell
              replace hHeld := hHeld (by decide)
              clear hK K
              try simp only [Act.put, List.setIfInBounds_toArray, List.set_cons_zero, List.set_cons_succ]
              refine AnyT.step (i := 8) (o := ⟨some 61, _, _, _, _, _⟩) (by kernel_rfl) rfl (fun K hK => ?_)
              (refine step_append_cells rfl (.tmp 54) (.tmp 60) 28 rfl _ 33 i0 _ 2 24 Tryd.underlying28 hi hz0 hz1 hz2 rfl (by decide) _ 0 [] (by rfl) hown0 a k c HAC.out (subCells (D.take k)) (by rfl) HT.out (HTK.out _ hbx) HTO.out (by unfold maxLen; omega) (by omega) hbx.size ?_; intro v1 x3 hown1 hg1; replace hel := hel.far hg1 hne; replace hbx := Below.grown' hbx hg1 hbx.size (fun r hr => (own_lt hown0 hr).2); clear hg1 hown0)
              refine hK.out _ _ (fun _ => ?_) (fun hHeld => ?_)
              · exact (RL.out _ hbx).blk.cell
              replace hHeld := hHeld (by decide)
              clear hK K
              try simp only [Act.put, List.setIfInBounds_toArray, List.set_cons_zero, List.set_cons_succ]
              refine AnyT.step (i := 13) (o := ⟨some 66, _, _, _, _, _⟩) (by kernel_rfl) rfl (fun K hK => ?_)
              (refine step_append_cells rfl (.tmp 61) (.tmp 65) 28 rfl _ 33 i0 _ 2 24 Tryd.underlying28 hi hz0 hz1 hz2 rfl (by decide) v1 (0 + k) _ (by rfl) hown1 _ 1 1 (fun h => by cases h) [.string f, .int .u8 (q : Int)] (by rfl) rfl hel HO.out (by unfold maxLen; omega) (by omega) hbx.size ?_; intro v2 x4 hown2 hg2; replace hbx := Below.grown' hbx hg2 hbx.size (fun r hr => (own_lt hown1 hr).2); clear hg2 hown1 hel)
              refine hK.out _ _ (fun _ => ?_) (fun hHeld => ?_)
              · exact (RL.out _ hbx).blk.cell
              replace hHeld := hHeld (by decide)
              clear hK K
              try simp only [Act.put, List.setIfInBounds_toArray, List.set_cons_zero, List.set_cons_succ]
              refine AnyT.step (i := 20) (o := ⟨some 73, _, _, _, _, _⟩) (by kernel_rfl) rfl (fun K hK => ?_)
              (refine step_append_cells rfl (.tmp 66) (.tmp 72) 28 rfl _ 33 i0 _ 2 24 Tryd.underlying28 hi hz0 hz1 hz2 rfl (by decide) v2 (0 + k + 1) _ (by rfl) hown2 _ (D.length - k) (c - k) HN2.out (subCells (D.drop k)) (by rfl) HDL.out (HCUT.out _ hbx) HDO.out (by unfold maxLen; omega) (by omega) hbx.size ?_; intro v3 x5 hown3 hg3; replace hbx := Below.grown' hbx hg3 hbx.size (fun r hr => (own_lt hown2 hr).2); clear hg3 hown2; rw [Nat.zero_add] at hown3; have HOWN3 := Lib.hid hown3; obtain ⟨a3, c3, rfl, _, _⟩ := own_form hown3; clear hown3; have hfr3 := (RL.out _ hbx).blk.frozen 0)
              refine hK.out _ _ (fun _ => ?_) (fun hHeld => ?_)
              · exact (RL.out _ hbx).blk.cell
              replace hHeld := hHeld (by decide)
              clear hK K
              try simp only [Act.put, List.setIfInBounds_toArray, List.set_cons_zero, List.set_cons_succ]
              refine AnyT.step (i := 21) (o := ⟨some 74, _, _, _, _, _⟩) (by kernel_rfl) rfl (fun K hK => ?_)
              go_simp
              refine hK.out _ _ (fun _ => ?_) (fun hHeld => ?_)
              · exact (RL.out _ hbx).blk.cell
              replace hHeld := hHeld (by decide)
              clear hK K
              try simp only [Act.put, List.setIfInBounds_toArray, List.set_cons_zero, List.set_cons_succ]
              refine AnyT.take (i := 22) (oi := ⟨some 75, _, _, _, _, _⟩) (v := ?_) rfl (by kernel_rfl) (by kernel_rfl) (by kernel_rfl) (by kernel_rfl) (fun _ _ _ h => h) (Or.inl ⟨by rfl, ?_⟩) (by assumption) ?_
              rotate_left
              · (intro w hSw; (try dsimp only at hSw); go_simp; try with_reducible rfl)
              try simp only [Act.put, List.setIfInBounds_toArray, List.set_cons_zero, List.set_cons_succ]
              refine AnyT.step (i := 23) (o := ⟨none, _, _, _, _, _⟩) (by kernel_rfl) rfl (fun K hK => ?_)
              (have hcell3 := (RL.out _ hbx).blk.cell; go_simp)
              refine hK.out _ _ (fun h => absurd rfl h) (fun _ => ?_)
              clear hK K
              try simp only [Act.put, List.setIfInBounds_toArray, List.set_cons_zero, List.set_cons_succ]
              refine AnyT.done (by kernel_rfl) ?_ _
              refine NoPanic.normal ?_
              go_wp2_with fail
              all_goals go_ret
              all_goals first | exact FIN.out _ _ _ _ hbx HOWN3.out (by omega) | (have e : c = k := (by assumption); subst e; exact FIN.out _ _ _ _ hbx HOWN3.out (by omega))
          · (go_simp; obtain ⟨x1, hA⟩ : ∃ x, World.alloc wx (.cells #[.string f, .int .u8 (q : Int)] 33) = x := ⟨_, rfl⟩; rw [hA]; have hel := cells_new2 hA; have hElt := lt_al hA; replace hbx := Below.then hbx (below_al2 hA); clear hA)
            refine hK.out _ _ (fun _ => ?_) (fun hHeld => ?_)
            · exact (RL.out _ hbx).blk.cell
            replace hHeld := hHeld (by decide)
            clear hK K
            try simp only [Act.put, List.setIfInBounds_toArray, List.set_cons_zero, List.set_cons_succ]
            refine AnyT.step (i := 1) (o := ⟨some 54, _, _, _, _, _⟩) (by kernel_rfl) rfl (fun K hK => ?_)
            (go_simp; obtain ⟨x2, hA⟩ : ∃ x, World.alloc x1 (.cells #[] 33) = x := ⟨_, rfl⟩; rw [hA]; have hown0 := own_empty hA hbx.size; have hne := Nat.ne_of_lt hElt; replace hel := hel.below (below_al2 hA); replace hbx := Below.then hbx (below_al2 hA); clear hA)
            refine hK.out _ _ (fun _ => ?_) (fun hHeld => ?_)
            · exact (RL.out _ hbx).blk.cell
            replace hHeld := hHeld (by decide)
            clear hK K
            try simp only [Act.put, List.setIfInBounds_toArray, List.set_cons_zero, List.set_cons_succ]
            refine AnyT.step (i := 8) (o := ⟨some 61, _, _, _, _, _⟩) (by kernel_rfl) rfl (fun K hK => ?_)
            (refine step_append_cells rfl (.tmp 54) (.tmp 60) 28 rfl _ 33 i0 _ 2 24 Tryd.underlying28 hi hz0 hz1 hz2 rfl (by decide) _ 0 [] (by rfl) hown0 a k c HAC.out (subCells (D.take k)) (by rfl) HT.out (HTK.out _ hbx) HTO.out (by unfold maxLen; omega) (by omega) hbx.size ?_; intro v1 x3 hown1 hg1; replace hel := hel.far hg1 hne; replace hbx := Below.grown' hbx hg1 hbx.size (fun r hr => (own_lt hown0 hr).2); clear hg1 hown0)
            refine hK.out _ _ (fun _ => ?_) (fun hHeld => ?_)
            · exact (RL.out _ hbx).blk.cell
            replace hHeld := hHeld (by decide)
            clear hK K
            try simp only [Act.put, List.setIfInBounds_toArray, List.set_cons_zero, List.set_cons_succ]
            refine AnyT.step (i := 13) (o := ⟨some 66, _, _, _, _, _⟩) (by kernel_rfl) rfl (fun K hK => ?_)
            (refine step_append_cells rfl (.tmp 61) (.tmp 65) 28 rfl _ 33 i0 _ 2 24 Tryd.underlying28 hi hz0 hz1 hz2 rfl (by decide) v1 (0 + k) _ (by rfl) hown1 _ 1 1 (fun h => by cases h) [.string f, .int .u8 (q : Int)] (by rfl) rfl hel HO.out (by unfold maxLen; omega) (by omega) hbx.size ?_; intro v2 x4 hown2 hg2; replace hbx := Below.grown' hbx hg2 hbx.size (fun r hr => (own_lt hown1 hr).2); clear hg2 hown1 hel)
            refine hK.out _ _ (fun _ => ?_) (fun hHeld => ?_)
            · exact (RL.out _ hbx).blk.cell
            replace hHeld := hHeld (by decide)
            clear hK K
            try simp only [Act.put, List.setIfInBounds_toArray, List.set_cons_zero, List.set_cons_succ]
            refine AnyT.step (i := 20) (o := ⟨some 73, _, _, _, _, _⟩) (by kernel_rfl) rfl (fun K hK => ?_)
            (refine step_append_cells rfl (.tmp 66) (.tmp 72) 28 rfl _ 33 i0 _ 2 24 Tryd.underlying28 hi hz0 hz1 hz2 rfl (by decide) v2 (0 + k + 1) _ (by rfl) hown2 _ (D.length - k) (c - k) HN2.out (subCells (D.drop k)) (by rfl) HDL.out (HCUT.out _ hbx) HDO.out (by unfold maxLen; omega) (by omega) hbx.size ?_; intro v3 x5 hown3 hg3; replace hbx := Below.grown' hbx hg3 hbx.size (fun r hr => (own_lt hown2 hr).2); clear hg3 hown2; rw [Nat.zero_add] at hown3; have HOWN3 := Lib.hid hown3; obtain ⟨a3, c3, rfl, _, _⟩ := own_form hown3; clear hown3; have hfr3 := (RL.out _ hbx).blk.frozen 0)
            refine hK.out _ _ (fun _ => ?_) (fun hHeld => ?_)
            · exact (RL.out _ hbx).blk.cell
            replace hHeld := hHeld (by decide)
            clear hK K
            try simp only [Act.put, List.setIfInBounds_toArray, List.set_cons_zero, List.set_cons_succ]
            refine AnyT.step (i := 21) (o := ⟨some 74, _, _, _, _, _⟩) (by kernel_rfl) rfl (fun K hK => ?_)
            go_simp
            refine hK.out _ _ (fun _ => ?_) (fun hHeld => ?_)
            · exact (RL.out _ hbx).blk.cell
            replace hHeld := hHeld (by decide)
            clear hK K
            try simp only [Act.put, List.setIfInBounds_toArray, List.set_cons_zero, List.set_cons_succ]
            refine AnyT.take (i := 22) (oi := ⟨some 75, _, _, _, _, _⟩) (v := ?_) rfl (by kernel_rfl) (by kernel_rfl) (by kernel_rfl) (by kernel_rfl) (fun _ _ _ h => h) (Or.inl ⟨by rfl, ?_⟩) (by assumption) ?_
            rotate_left
            · (intro w hSw; (try dsimp only at hSw); go_simp; try with_reducible rfl)
            try simp only [Act.put, List.setIfInBounds_toArray, List.set_cons_zero, List.set_cons_succ]
            refine AnyT.step (i := 23) (o := ⟨none, _, _, _, _, _⟩) (by kernel_rfl) rfl (fun K hK => ?_)
            (have hcell3 := (RL.out _ hbx).blk.cell; go_simp)
            refine hK.out _ _ (fun h => absurd rfl h) (fun _ => ?_)
            clear hK K
            try simp only [Act.put, List.setIfInBounds_toArray, List.set_cons_zero, List.set_cons_succ]
            refine AnyT.done (by kernel_rfl) ?_ _
            refine NoPanic.normal ?_
            go_wp2_with fail
            all_goals go_ret
            all_goals first | exact FIN.out _ _ _ _ hbx HOWN3.out (by omega) | (have e : c = k := (by assumption); subst e; exact FIN.out _ _ _ _ hbx HOWN3.out (by omega))

end Go.Proofs.YtbhmflkhcadaeaaDoor
