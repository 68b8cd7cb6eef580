/- The walk of the reference's Try. Conditions: the list lies behind its pointer, the filters that are tried in their cells. -/
import Derived.Test.YtbhmflkhcadaeaaDoorRefSubsSet3
import Derived.Test.YtbhmflkhcadaeaaDoorSubsTry
namespace Go.Proofs.YtbhmflkhcadaeaaDoor
open Go.RowKit

/-- What lies in memory while the reference's Try runs: the copy, the answers. -/
structure RTryAt (w : World) (B gl : Nat) (vl : Value) (S' : List Sb) (p : Value) (n : Nat) (ns : List Nat) : Prop where
  li : RAt w B gl vl S'
  out : w.ownsRow B 5 1 p n (natV ns)
theorem RTryAt.below {w w' : World} {B gl : Nat} {vl : Value} {S' : List Sb} {p : Value} {n : Nat} {ns : List Nat} (h : RTryAt w B gl vl S' p n ns) (k : Below w.heap.size w w') : RTryAt w' B gl vl S' p n ns :=
  ⟨h.li.below k, own_only h.out (Only.of_below k (fun _ => False)) (fun _ _ h => h)⟩
theorem RTryAt.set {w w' : World} {B gl : Nat} {vl vl' : Value} {S' S2 : List Sb} {p : Value} {n : Nat} {ns : List Nat} (h : RTryAt w B gl vl S' p n ns) (h1 : RAt w' B gl vl' S2) (h2 : Only (Foot gl vl) w w') : RTryAt w' B gl vl' S2 p n ns :=
  ⟨h1, own_only h.out h2 (fun r hr => by
    rintro (e | e)
    · subst e
      exact OneAt.ne_own h.li.blk h.out (by decide) hr
    · exact row_ne_own h.li.own h.out (by decide) r hr e)⟩
theorem RTryAt.add {w w' : World} {B gl : Nat} {vl p p' : Value} {S' : List Sb} {n : Nat} {ns : List Nat} {m : Nat} {ms : List Nat} (h : RTryAt w B gl vl S' p n ns) (k : w.grownBy w' p.ownBlock) (h1 : w'.ownsRow B 5 1 p' m (natV ms)) : RTryAt w' B gl vl S' p' m ms :=
  ⟨h.li.only (only_grown k) (fun e => OneAt.ne_own h.li.blk h.out (by decide) e) (fun r hr e => row_ne_own h.li.own h.out (by decide) r e hr), h1⟩
theorem RTryAt.foot {w : World} {B gl : Nat} {vl : Value} {S' : List Sb} {p : Value} {n : Nat} {ns : List Nat} (h : RTryAt w B gl vl S' p n ns) (k : Nat) : Foot gl vl k → B ≤ k := by
  rintro (e | e)
  · rw [e]; exact h.li.lo
  · exact (h.li.own.lt e).2
theorem new1_al {w w' : World} {x : Value} {T : TypeId} (h : w.alloc (.cells #[x] T) = w') : CellsA w' (some ⟨w.heap.size, 0, none⟩) [x] := by
  subst h
  intro j u hu
  refine ⟨_, _, rfl, ?_⟩
  rw [Nat.zero_add, cell_of_row _ _ _ _ _ _ (heap_alloc_new w _)]
  simpa using hu

set_option maxRecDepth 100000 in
set_option maxHeartbeats 2000000 in
theorem ref15_Try (B g : Nat) (v : Value) (S : List Sb) (a : Option Addr) (c : Nat) (T : List Sb) (w : World) (hL : RAt w B g v S) (hS : Fine S) (ha : CellsA w a (subCells T)) (hT : SmallS T) (hn : T.length ≤ 60) :
    Calls Tryd.prog 16 #[.pointer (some ⟨g, 0, none⟩), .slice a T.length c] w fun e w' => e = .returned (.string (strN (tryS S T))) ∧ Below w.heap.size w w' := by
  obtain ⟨i0, hi, hz0, hz1, hz2⟩ := info_parts infoU8
  have HS := Lib.hid (ref15_Copy B g v S w hL hS.few)
  have HSET := Lib.hid (fun gl vl S' f q w1 => ref15_Set w.heap.size gl vl S' f q w1)
  have HF := Lib.hid (fun k => runS_fine (T.take k) S hS (hT.take k))
  have HT := Lib.hid hT
  clear hL hS hT
  go_enter Tryd.func16, Tryd.ntmps16
  go_wp2_with (go_at_call 33; refine Calls.mono HS.out ?_; rintro e w1 ⟨gl, vl0, rfl, hR, hb⟩)
  have HST := Lib.hid (show RTryAt w1 w.heap.size gl vl0 S (.slice none 0 0) 0 [] from ⟨hR, World.ownsRow_nil _ _ _ _⟩)
  clear hR
  go_loopw [6, 7] (fun p i wr => ∃ (k : Nat) (vl : Value), k ≤ T.length ∧ i = .int .i64 k ∧ Hid (RTryAt wr w.heap.size gl vl (runS S (T.take k)) p k (tryS S (T.take k))) ∧ Below w.heap.size w wr) (fun _ i _ => T.length - (intOf i).toNat)
  case atStart => exact ⟨0, _, by omega, rfl, HST.out, hb⟩
  case round =>
    obtain ⟨k, vl, hk, rfl, HA, hbr⟩ := hrel
    by_cases hlt : k < T.length
    · obtain ⟨x, hx⟩ : ∃ x, T[k]? = some x := ⟨_, List.getElem?_eq_getElem hlt⟩
      obtain ⟨bb, o, rfl, c1, c2⟩ := ha.sub hx
      have hxs := HT.out x (List.mem_of_getElem? hx)
      have htk : T.take (k + 1) = T.take k ++ [x] := by rw [List.take_add_one, hx]; rfl
      have H1 := Lib.hid (show runS S (T.take (k + 1)) = (setS (runS S (T.take k)) x.1 x.2).2 by rw [htk, runS_snoc])
      have H2 := Lib.hid (show tryS S (T.take (k + 1)) = tryS S (T.take k) ++ [(setS (runS S (T.take k)) x.1 x.2).1] by rw [htk, try_snoc])
      obtain ⟨f, q⟩ := x
      dsimp only at *
      clear hx htk
      go_wp2_with fail
      refine wp_region_noPanic ?_
      refine AnyT.begin (S := fun w' => w'.cell? ⟨bb, o + k * 2, none⟩ = some (.string f) ∧ w'.cell? ⟨bb, o + k * 2 + 1, none⟩ = some (.int .u8 (q : Int))) (z := 15) (by kernel_rfl) ?_ (fun hHeld => ?_)
      · exact ⟨cell_later c1 (Below.then hbr (below_add (Below.refl _ _) 1)), cell_later c2 (Below.then hbr (below_add (Below.refl _ _) 1))⟩
      have hbx0 : Below wr.heap.size wr wr.drew := below_add (Below.refl _ _) 1
      have hbx := Below.then hbr hbx0
      generalize World.drew wr = wx at hHeld hbx0 hbx ⊢
      have HAX := Lib.hid (HA.out.below hbx0)
      have HCALL := Lib.hid (HSET.out gl vl (runS S (T.take k)) f q _ HAX.out.li (HF.out k) hbx.size hxs.1 hxs.2)
      generalize setS (runS S (T.take k)) f q = sc at *
      obtain ⟨code, S2⟩ := sc
      dsimp only at *
      refine AnyT.take (i := 0) (oi := ⟨some 16, _, _, _, _, _⟩) (v := ?_) rfl (by kernel_rfl) (by kernel_rfl) (by kernel_rfl) (by kernel_rfl) (fun _ _ _ h => h) (Or.inl ⟨by rfl, ?_⟩) (by assumption) ?_
      rotate_left
      · (intro w hSw; (try dsimp only at hSw); go_simp; try with_reducible rfl)
      try simp only [Act.put, List.setIfInBounds_toArray, List.set_cons_zero, List.set_cons_succ]
      refine AnyT.take (i := 1) (oi := ⟨some 17, _, _, _, _, _⟩) (v := ?_) rfl (by kernel_rfl) (by kernel_rfl) (by kernel_rfl) (by kernel_rfl) (fun _ _ _ h => h) (Or.inl ⟨by rfl, ?_⟩) (by assumption) ?_
      rotate_left
      · (intro w hSw; (try dsimp only at hSw); go_simp; try with_reducible rfl)
      try simp only [Act.put, List.setIfInBounds_toArray, List.set_cons_zero, List.set_cons_succ]
      refine AnyT.take (i := 2) (oi := ⟨some 18, _, _, _, _, _⟩) (v := ?_) rfl (by kernel_rfl) (by kernel_rfl) (by kernel_rfl) (by kernel_rfl) (fun _ _ _ h => h) (Or.inl ⟨by rfl, ?_⟩) (by assumption) ?_
      rotate_left
      · (intro w hSw; (try dsimp only at hSw); go_simp; try with_reducible rfl)
      try simp only [Act.put, List.setIfInBounds_toArray, List.set_cons_zero, List.set_cons_succ]
      refine AnyT.take (i := 3) (oi := ⟨some 19, _, _, _, _, _⟩) (v := ?_) rfl (by kernel_rfl) (by kernel_rfl) (by kernel_rfl) (by kernel_rfl) (fun _ _ _ h => h) (Or.inl ⟨by rfl, ?_⟩) (by assumption) ?_
      rotate_left
      · (intro w hSw; (try dsimp only at hSw); go_simp; try with_reducible rfl)
      try simp only [Act.put, List.setIfInBounds_toArray, List.set_cons_zero, List.set_cons_succ]
      refine AnyT.take (i := 4) (oi := ⟨some 20, _, _, _, _, _⟩) (v := ?_) rfl (by kernel_rfl) (by kernel_rfl) (by kernel_rfl) (by kernel_rfl) (fun _ _ _ h => h) (Or.inl ⟨by rfl, ?_⟩) (by assumption) ?_
      rotate_left
      · (intro w hSw; (try dsimp only at hSw); go_simp; try with_reducible rfl)
      try simp only [Act.put, List.setIfInBounds_toArray, List.set_cons_zero, List.set_cons_succ]
      refine AnyT.take (i := 5) (oi := ⟨some 21, _, _, _, _, _⟩) (v := ?_) rfl (by kernel_rfl) (by kernel_rfl) (by kernel_rfl) (by kernel_rfl) (fun _ _ _ h => h) (Or.inl ⟨by rfl, ?_⟩) (by assumption) ?_
      rotate_left
      · (intro w hSw; (try dsimp only at hSw); go_simp; try with_reducible rfl)
      try simp only [Act.put, List.setIfInBounds_toArray, List.set_cons_zero, List.set_cons_succ]
      refine AnyT.take (i := 6) (oi := ⟨some 22, _, _, _, _, _⟩) (v := ?_) rfl (by kernel_rfl) (by kernel_rfl) (by kernel_rfl) (by kernel_rfl) (fun _ _ _ h => h) (Or.inl ⟨by rfl, ?_⟩) (by assumption) ?_
      rotate_left
      · (intro w hSw; (try dsimp only at hSw); go_simp; try with_reducible rfl)
      try simp only [Act.put, List.setIfInBounds_toArray, List.set_cons_zero, List.set_cons_succ]
      refine AnyT.take (i := 7) (oi := ⟨some 23, _, _, _, _, _⟩) (v := ?_) rfl (by kernel_rfl) (by kernel_rfl) (by kernel_rfl) (by kernel_rfl) (fun _ _ _ h => h) (Or.inl ⟨by rfl, ?_⟩) (by assumption) ?_
      rotate_left
      · (intro w hSw; (try dsimp only at hSw); go_simp; try with_reducible rfl)
      try simp only [Act.put, List.setIfInBounds_toArray, List.set_cons_zero, List.set_cons_succ]
      refine AnyT.take (i := 8) (oi := ⟨some 24, _, _, _, _, _⟩) (v := ?_) rfl (by kernel_rfl) (by kernel_rfl) (by kernel_rfl) (by kernel_rfl) (fun _ _ _ h => h) (Or.inl ⟨by rfl, ?_⟩) (by assumption) ?_
      rotate_left
      · (intro w hSw; (try dsimp only at hSw); go_simp; try with_reducible rfl)
      try simp only [Act.put, List.setIfInBounds_toArray, List.set_cons_zero, List.set_cons_succ]
      refine AnyT.take (i := 9) (oi := ⟨some 25, _, _, _, _, _⟩) (v := ?_) rfl (by kernel_rfl) (by kernel_rfl) (by kernel_rfl) (by kernel_rfl) (fun _ _ _ h => h) (Or.inl ⟨by rfl, ?_⟩) (by assumption) ?_
      rotate_left
      · (intro w hSw; (try dsimp only at hSw); go_simp; try with_reducible rfl)
      try simp only [Act.put, List.setIfInBounds_toArray, List.set_cons_zero, List.set_cons_succ]
      refine AnyT.take (i := 10) (oi := ⟨some 26, _, _, _, _, _⟩) (v := ?_) rfl (by kernel_rfl) (by kernel_rfl) (by kernel_rfl) (by kernel_rfl) (fun _ _ _ h => h) (Or.inl ⟨by rfl, ?_⟩) (by assumption) ?_
      rotate_left
      · (intro w hSw; (try dsimp only at hSw); go_simp; try with_reducible rfl)
      try simp only [Act.put, List.setIfInBounds_toArray, List.set_cons_zero, List.set_cons_succ]
      refine AnyT.take (i := 11) (oi := ⟨some 27, _, _, _, _, _⟩) (v := ?_) rfl (by kernel_rfl) (by kernel_rfl) (by kernel_rfl) (by kernel_rfl) (fun _ _ _ h => h) (Or.inl ⟨by rfl, ?_⟩) (by assumption) ?_
      rotate_left
      · (intro w hSw; (try dsimp only at hSw); go_simp; try with_reducible rfl)
      try simp only [Act.put, List.setIfInBounds_toArray, List.set_cons_zero, List.set_cons_succ]
      refine AnyT.step (i := 12) (o := ⟨some 28, _, _, _, _, _⟩) (by kernel_rfl) rfl (fun K hK => ?_)
      (go_simp; go_at_call 27; refine Calls.mono HCALL.out ?_; rintro e w2 ⟨v2, rfl, h1, h2, h3⟩; have HB2 := Lib.hid (HAX.out.set h1 h2); have hbw := hbx.trans (h2.below hbx.size HAX.out.foot); replace hbx := hbw; have hszw := hbw.size; clear h1 h2 h3; go_simp)
      refine hK.out _ _ (fun _ => ?_) (fun hHeld => ?_)
      · exact ⟨cell_later c1 hbx, cell_later c2 hbx⟩
      replace hHeld := hHeld (by decide)
      clear hK K
      try simp only [Act.put, List.setIfInBounds_toArray, List.set_cons_zero, List.set_cons_succ]
      refine AnyT.step (i := 13) (o := ⟨some 29, _, _, _, _, _⟩) (by kernel_rfl) rfl (fun K hK => ?_)
      (go_simp; obtain ⟨x2, hA⟩ : ∃ x, World.alloc w2 (.cells #[.int .u8 (code : Int)] 5) = x := ⟨_, rfl⟩; rw [hA]; have hal : Below w2.heap.size w2 x2 := hA ▸ (Below.refl _ _).alloc (Nat.le_refl _) _; have HB3 := Lib.hid (HB2.out.below hal); have hbw3 := Below.then hbw hal; replace hbx := hbw3; have hnw := Lib.hid (new1_al hA))
      refine hK.out _ _ (fun _ => ?_) (fun hHeld => ?_)
      · exact ⟨cell_later c1 hbx, cell_later c2 hbx⟩
      replace hHeld := hHeld (by decide)
      clear hK K
      try simp only [Act.put, List.setIfInBounds_toArray, List.set_cons_zero, List.set_cons_succ]
      refine AnyT.step (i := 14) (o := ⟨some 30, _, _, _, _, _⟩) (by kernel_rfl) rfl (fun K hK => ?_)
      (refine step_append_cells rfl (.tmp 16) (.tmp 29) 56 rfl _ 5 i0 _ 1 1 Tryd.underlying56 hi hz0 hz1 hz2 rfl (by decide) _ k (natV (tryS S (T.take k))) (by rfl) HB3.out.out _ 1 1 (fun h => by cases h) (natV [code]) (by rfl) rfl hnw.out (natV_one _) (by unfold maxLen; omega) (by omega) hbw3.size ?_; intro v3 x3 hown3 hg3; have hb3 := Below.grown' hbw3 hg3 hbw3.size (fun r hr => (own_lt HB3.out.out hr).2); replace hbx := hb3; have HC3 := Lib.hid (HB3.out.add hg3 (ms := tryS S (T.take k) ++ [code]) (by rw [natV_append]; exact hown3)); clear hown3 hg3)
      refine hK.out _ _ (fun _ => ?_) (fun hHeld => ?_)
      · exact ⟨cell_later c1 hbx, cell_later c2 hbx⟩
      replace hHeld := hHeld (by decide)
      clear hK K
      try simp only [Act.put, List.setIfInBounds_toArray, List.set_cons_zero, List.set_cons_succ]
      refine AnyT.step (i := 15) (o := ⟨some 6, _, _, _, _, _⟩) (by kernel_rfl) rfl (fun K hK => ?_)
      go_simp
      refine hK.out _ _ (fun h => absurd rfl h) (fun _ => ?_)
      clear hK K
      try simp only [Act.put, List.setIfInBounds_toArray, List.set_cons_zero, List.set_cons_succ]
      refine AnyT.done (by kernel_rfl) ?_ _
      refine NoPanic.normal ?_
      go_wp2_with fail
      go_roundw
      case rel => exact ⟨k + 1, v2, by omega, by first | rfl | go_num, by rw [Hid, H1.out, H2.out]; exact HC3.out, hb3⟩
      case measure => simp [intOf]; omega
    · have : k = T.length := by omega
      subst this
      have hout := HA.out.out
      rw [List.take_length] at hout
      obtain ⟨ap, cp, rfl, _, hcp⟩ := own_form hout
      have kc := conv_nats (P := Tryd.prog) wr 56 5 Tryd.underlying56 Tryd.underlying5 ap cp _ _ (try_len T S).symm hcp 9 Tryd.underlying9
      clear hout hcp
      go_wp2_with fail
      go_ret
      exact ⟨rfl, hbr⟩
end Go.Proofs.YtbhmflkhcadaeaaDoor
