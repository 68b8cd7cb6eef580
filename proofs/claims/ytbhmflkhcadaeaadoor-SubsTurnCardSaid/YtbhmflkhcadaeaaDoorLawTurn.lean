/- The walk of SubsTurn. Conditions: the acts lie in their cells; the decoder's tables lie as Go lays them. -/
import Derived.Test.YtbhmflkhcadaeaaDoorLawTries
import Derived.Test.YtbhmflkhcadaeaaDoorPlainTurn
import Derived.Test.YtbhmflkhcadaeaaDoorSubsSetSame
import Derived.IntWalk
namespace Go.Proofs.YtbhmflkhcadaeaaDoor
open Go.RowKit

/-- The list, the row that was, the row of the others, all apart. -/
structure TurnAt (w : World) (B B2 g : Nat) (v : Value) (S : List Sb) (u : Value) (p : Value) (m : Nat) (R : List Sb) : Prop where
  li : LAt w B g v S
  r1 : w.ownsRow B 33 2 u S.length (subCells S)
  r2 : w.ownsRow B2 33 2 p m (subCells R)
  f1 : ∀ r, u.ownBlock = some r → ¬ Foot g v r
  lg : ∀ k, Foot g v k → k < B2
  lu : ∀ r, u.ownBlock = some r → r < B2
  sz : B2 ≤ w.heap.size
section
variable {w w' : World} {B B2 g m : Nat} {v u p : Value} {S R : List Sb}
theorem TurnAt.below (h : TurnAt w B B2 g v S u p m R) (k : Below w.heap.size w w') : TurnAt w' B B2 g v S u p m R :=
  ⟨h.li.below k, own_only h.r1 (Only.of_below k (fun _ => False)) (fun _ _ h => h), own_only h.r2 (Only.of_below k (fun _ => False)) (fun _ _ h => h), h.f1, h.lg, h.lu, Nat.le_trans h.sz k.size⟩
theorem TurnAt.drew (h : TurnAt w B B2 g v S u p m R) : TurnAt w.drew B B2 g v S u p m R := h.below (below_draws (n := 1) rfl)
theorem TurnAt.set (h : TurnAt w B B2 g v S u p m R) (h1 : LAt w' B g v S) (k : Only (fun k => v.ownBlock = some k) w w') : TurnAt w' B B2 g v S u p m R :=
  ⟨h1, own_only h.r1 k (fun r hr e => h.f1 r hr (Or.inr e)), own_only h.r2 k (fun r hr e => by
    have := h.lg r (Or.inr e)
    have := (own_lt h.r2 hr).2
    omega), h.f1, h.lg, h.lu, Nat.le_trans h.sz k.size⟩
theorem TurnAt.set_below (h : TurnAt w B B2 g v S u p m R) (hB : B ≤ w.heap.size) (k : Only (fun k => v.ownBlock = some k) w w') : Below B w w' :=
  k.below hB (fun _ e => (h.li.own.lt e).2)
theorem TurnAt.add {p' : Value} {m' : Nat} {R' : List Sb} (h : TurnAt w B B2 g v S u p m R) (k : w.grownBy w' p.ownBlock) (h2 : w'.ownsRow B2 33 2 p' m' (subCells R')) : TurnAt w' B B2 g v S u p' m' R' :=
  ⟨h.li.only (only_grown k) (fun e => by have := h.lg g (Or.inl rfl); have := (own_lt h.r2 e).2; omega) (fun r hr e => by have := h.lg r (Or.inr hr); have := (own_lt h.r2 e).2; omega),
   own_only h.r1 (only_grown k) (fun r hr e => by have := h.lu r hr; have := (own_lt h.r2 e).2; omega), h2, h.f1, h.lg, h.lu, Nat.le_trans h.sz k.size⟩
theorem TurnAt.cells {a : Option Addr} {c : Nat} (h : TurnAt w B B2 g v S (.slice a S.length c) p m R) : CellsA w a (subCells S) := by
  obtain ⟨a', c', h1, _, h2⟩ := own_form h.r1
  injection h1 with e1 _ e2
  subst e1
  exact h2
end
theorem set_keep {B g : Nat} {v : Value} {S : List Sb} {f : ByteArray} {q : Nat} {w : World} (hE : Env w) (hL : LAt w B g v S) (hS : Fine S) (hin : (f, q) ∈ S) :
    Calls Tryd.prog 20 #[.pointer (some ⟨g, 0, none⟩), .string f, .int .u8 (q : Int)] w fun e w' => e = .returned (.int .u8 (q : Int)) ∧ LAt w' B g v S ∧ Only (fun k => v.ownBlock = some k) w w' := by
  obtain ⟨h1, h2, h3⟩ := hS.good _ hin
  obtain ⟨k1, k2⟩ := ins_self S f q hS.sort hin
  have := set_same B g v S f q w hE hL hS h3 (by have : q ≤ 2 := h2; omega) (by unfold okQ; rw [Bool.and_eq_true, decide_eq_true_eq]; exact ⟨h2, h1⟩) k2
  rw [k1] at this
  exact this

set_option maxHeartbeats 4000000 in
set_option maxRecDepth 100000 in
theorem law15_SubsTurn (a : Option Addr) (c : Nat) (L : List Ac) (more : Sb) (w : World) (hE : Env w) (hn : L.length ≤ 9223372036854775807) (hq : ∀ x ∈ L, x.q < 256) (ha : CellsA w a (acCells L)) (hmq : more.2 < 256) (hmz : more.1.size ≤ maxLen) :
    Calls Tryd.prog 8 #[.slice a L.length c, .agg #[.string more.1, .int .u8 (more.2 : Int)]] w fun e w' => e = .returned (.bool true) ∧ Below w.heap.size w w' := by
  obtain ⟨f, q⟩ := more
  dsimp only at *
  obtain ⟨i0, hi, hz0, hz1, hz2⟩ := info_parts infoSub
  obtain ⟨w1, hw1⟩ : ∃ w1, w.alloc (.cells #[.string f, .int .u8 (q : Int)] 33) = w1 := ⟨_, rfl⟩
  have hb01 : Below w.heap.size w w1 := hw1 ▸ (Below.refl _ _).alloc (Nat.le_refl _) _
  obtain ⟨X, hX⟩ : ∃ X, w.heap.size = X := ⟨_, rfl⟩
  have x1 : w1.cell? ⟨X, 0, none⟩ = some (.string f) := by rw [← hw1, ← hX, cell_of_row _ _ _ _ _ _ (heap_alloc_new w _)]; rfl
  have x2 : w1.cell? ⟨X, 1, none⟩ = some (.int .u8 (q : Int)) := by rw [← hw1, ← hX, cell_of_row _ _ _ _ _ _ (heap_alloc_new w _)]; rfl
  have HG := law15_GreatActs a c L w1 hn (ha.below hb01)
  have HAW := Lib.hid (fun (w : World) hE => law15_awake w hE)
  have hE0 := hE.below hb01
  have hE1 : ∀ w', Below w1.heap.size w1 w' → Env w' := fun w' h => hE0.below h
  have ha1 := ha.below hb01
  have HW1 := Lib.hid hw1
  have HX := Lib.hid hX
  clear ha hE hw1 hX
  cases hg : greatA L with
  | true =>
    rw [hg] at HG
    replace HG := Lib.hid HG
    clear hg
    go_enter Tryd.func8, Tryd.ntmps8
    go_wp2_with fail
    rw [HW1.out]
    go_at_call 9
    refine Calls.mono HG.out ?_
    rintro e w2 ⟨rfl, rfl⟩
    go_wp2_with (first
      | (go_at_call 10; refine Calls.mono (HAW.out _ hE0) ?_; rintro e w2 ⟨rfl, hb⟩))
    go_ret
    exact ⟨rfl, Below.then hb01 hb⟩
  | false =>
    rw [hg] at HG
    replace HG := Lib.hid HG
    obtain ⟨hn80, hsm⟩ := greatA_no hg
    have HMADE := Lib.hid (law15_made a c L w1 hE0 hn80 hsm hq ha1)
    clear hg hsm
    by_cases hf3 : (300 : Int) < (f.size : Int)
    · go_enter Tryd.func8, Tryd.ntmps8
      go_wp2_with fail
      rw [HW1.out, HX.out]
      go_at_call 9
      refine Calls.mono HG.out ?_
      rintro e w2 ⟨rfl, rfl⟩
      go_wp2_with (first
        | (go_at_call 10; refine Calls.mono (HAW.out _ hE0) ?_; rintro e w2 ⟨rfl, hb⟩))
      go_ret
      exact ⟨rfl, Below.then hb01 hb⟩
    · go_enter Tryd.func8, Tryd.ntmps8
      go_wp2_with fail
      rw [HW1.out, HX.out]
      go_at_call 9
      refine Calls.mono HG.out ?_
      rintro e w2 ⟨rfl, rfl⟩
      go_wp2_with fail
      go_at_call 24
      refine Calls.mono HMADE.out ?_
      rintro e w2 ⟨g, v, S, rfl, hL, hF, hb2⟩
      have HF := Lib.hid hF
      have hfew := hF.few
      have hfz : f.size ≤ 300 := by omega
      clear hF HG HMADE
      go_wp2_with fail
      go_at_call 14
      refine Calls.mono (subs_Subs _ _ _ S _ hL HF.out.few) ?_
      rintro e w4 ⟨v4, rfl, ho4, hb34⟩
      obtain ⟨a4, c4, rfl, _, hc4⟩ := own_form ho4
      have hb4 := Below.then hb2 hb34
      obtain ⟨B2, hB2⟩ : ∃ B2, w4.heap.size = B2 := ⟨_, rfl⟩
      have hcur : TurnAt w4 w1.heap.size B2 g v S (.slice a4 S.length c4) (.slice none 0 0) 0 [] := by
        have hlt := hb34.size
        refine ⟨hL.below hb34, own_base ho4 hb2.size, World.ownsRow_nil _ _ _ _, ?_, ?_, ?_, Nat.le_of_eq hB2.symm⟩
        · intro r hr
          have := (own_lt ho4 hr).2
          rintro (e | e)
          · have := hL.blk.lt; omega
          · have := (hL.own.lt e).1; omega
        · rintro k (e | e)
          · have := hL.blk.lt; omega
          · have := (hL.own.lt e).1; omega
        · intro r hr
          have := (own_lt ho4 hr).1
          omega
      have HC := Lib.hid hcur
      clear ho4 hc4 hL hb34 hb2 hcur
      go_wp2_with fail
      have hB21 : w1.heap.size ≤ B2 := hB2 ▸ hb4.size
      have hBB := Lib.hid hB2
      clear hB2
      go_loopw [7, 8] (fun p i wr => ∃ (k m : Nat), k ≤ S.length ∧ i = .int .i64 k ∧ m ≤ k ∧ Hid (TurnAt wr w1.heap.size B2 g v S (.slice a4 S.length c4) p m ((S.take k).filter (notB (bl f)))) ∧ Below w1.heap.size w1 wr) (fun _ i _ => S.length - (intOf i).toNat)
      case atStart => exact ⟨0, 0, by omega, rfl, by omega, HC.out, hb4⟩
      case round =>
        clear HC
        obtain ⟨k, m, hk, rfl, hm, HC, hbr⟩ := hrel
        by_cases hlt : k < S.length
        · obtain ⟨x, hx⟩ : ∃ x, S[k]? = some x := ⟨_, List.getElem?_eq_getElem hlt⟩
          have hmem := List.mem_of_getElem? hx
          have hgood := HF.out.good x hmem
          have hst := filter_take_succ S (bl f) k x hx
          obtain ⟨f1, q1⟩ := x
          dsimp only at *
          have hq3 : q1 ≤ 2 := hgood.2.1
          have hq4 : ¬ (2 : Int) < (q1 : Int) := by omega
          have hq5 : ¬ 2 < q1 := by omega
          have hq6 : decide ((2 : Int) < (q1 : Int)) = false := decide_eq_false hq4
          have hFi := fun (w : World) hE => topic_Filter f1 w hE (by have := hgood.2.2; omega)
          rw [show filterL (bl f1) = true from hgood.1] at hFi
          have HFI := Lib.hid hFi
          have HSA := Lib.hid (fun (w : World) hE hL => set_keep (B := w1.heap.size) (g := g) (v := v) (S := S) (f := f1) (q := q1) (w := w) hE hL HF.out hmem)
          obtain ⟨bb, o, rfl, _, _⟩ := HC.out.cells.sub hx
          have CS1 := Lib.hid (fun (w' : World) {p m R} (h : TurnAt w' w1.heap.size B2 g v S (.slice (some ⟨bb, o, none⟩) S.length c4) p m R) => (show w'.cell? ⟨bb, o + k * 2, none⟩ = some (.string f1) ∧ w'.cell? ⟨bb, o + k * 2 + 1, none⟩ = some (.int .u8 (q1 : Int)) from by
            obtain ⟨b', o', he, k1, k2⟩ := h.cells.sub hx
            injection he with he
            injection he with e1 e2
            subst e1 e2
            exact ⟨k1, k2⟩))
          have hcur := HC.out
          have hB := hbr.size
          by_cases hk0 : k = 0
          · have hki : ¬ (0 : Int) < (k : Int) := by omega
            have hkn : ¬ 0 < k := by omega
            have CS := CS1
            clear hx hmem hgood hFi hk0
            go_wp2_with fail
            refine wp_region_noPanic ?_
            refine wp_region_held_drew (S := fun w' => w'.cell? ⟨bb, o + k * 2, none⟩ = some (.string f1) ∧ w'.cell? ⟨bb, o + k * 2 + 1, none⟩ = some (.int .u8 (q1 : Int))) (by kernel_rfl) ?_ (fun hHeld => ?_)
            · (first | exact CS.out _ hcur | exact CS.out _ (hcur.drew) )
            refine wpAnyH_take (i := 0) (oi := ⟨some 28, _, _, _, _, _⟩) (v := ?_) rfl (by kernel_rfl) (by kernel_rfl) (by kernel_rfl) (fun _ _ _ h => h) (Or.inl ⟨by rfl, ?_⟩) (by assumption) ?_
            rotate_left
            · (intro w hSw; (try dsimp only at hSw); go_simp; try with_reducible rfl)
            try simp only [Act.put, List.setIfInBounds_toArray, List.set_cons_zero, List.set_cons_succ]
            refine wpAnyH_take (i := 1) (oi := ⟨some 29, _, _, _, _, _⟩) (v := ?_) rfl (by kernel_rfl) (by kernel_rfl) (by kernel_rfl) (fun _ _ _ h => h) (Or.inl ⟨by rfl, ?_⟩) (by assumption) ?_
            rotate_left
            · (intro w hSw; (try dsimp only at hSw); go_simp; try with_reducible rfl)
            try simp only [Act.put, List.setIfInBounds_toArray, List.set_cons_zero, List.set_cons_succ]
            refine wpAnyH_take (i := 2) (oi := ⟨some 30, _, _, _, _, _⟩) (v := ?_) rfl (by kernel_rfl) (by kernel_rfl) (by kernel_rfl) (fun _ _ _ h => h) (Or.inl ⟨by rfl, ?_⟩) (by assumption) ?_
            rotate_left
            · (intro w hSw; (try dsimp only at hSw); go_simp; try with_reducible rfl)
            try simp only [Act.put, List.setIfInBounds_toArray, List.set_cons_zero, List.set_cons_succ]
            refine wpAnyH_take (i := 3) (oi := ⟨some 31, _, _, _, _, _⟩) (v := undef) rfl (by kernel_rfl) (by kernel_rfl) (by kernel_rfl) (fun _ _ _ h => h) (Or.inr ⟨by kernel_rfl, rfl⟩) (by assumption) ?_
            try simp only [Act.put, List.setIfInBounds_toArray, List.set_cons_zero, List.set_cons_succ]
            refine wpAnyH_take (i := 4) (oi := ⟨some 32, _, _, _, _, _⟩) (v := undef) rfl (by kernel_rfl) (by kernel_rfl) (by kernel_rfl) (fun _ _ _ h => h) (Or.inr ⟨by kernel_rfl, rfl⟩) (by assumption) ?_
            try simp only [Act.put, List.setIfInBounds_toArray, List.set_cons_zero, List.set_cons_succ]
            refine wpAnyH_take (i := 5) (oi := ⟨some 33, _, _, _, _, _⟩) (v := undef) rfl (by kernel_rfl) (by kernel_rfl) (by kernel_rfl) (fun _ _ _ h => h) (Or.inr ⟨by kernel_rfl, rfl⟩) (by assumption) ?_
            try simp only [Act.put, List.setIfInBounds_toArray, List.set_cons_zero, List.set_cons_succ]
            refine wpAnyH_take (i := 6) (oi := ⟨some 34, _, _, _, _, _⟩) (v := undef) rfl (by kernel_rfl) (by kernel_rfl) (by kernel_rfl) (fun _ _ _ h => h) (Or.inr ⟨by kernel_rfl, rfl⟩) (by assumption) ?_
            try simp only [Act.put, List.setIfInBounds_toArray, List.set_cons_zero, List.set_cons_succ]
            refine wpAnyH_take (i := 7) (oi := ⟨some 35, _, _, _, _, _⟩) (v := undef) rfl (by kernel_rfl) (by kernel_rfl) (by kernel_rfl) (fun _ _ _ h => h) (Or.inr ⟨by kernel_rfl, rfl⟩) (by assumption) ?_
            try simp only [Act.put, List.setIfInBounds_toArray, List.set_cons_zero, List.set_cons_succ]
            refine wpAnyH_take (i := 8) (oi := ⟨some 36, _, _, _, _, _⟩) (v := undef) rfl (by kernel_rfl) (by kernel_rfl) (by kernel_rfl) (fun _ _ _ h => h) (Or.inr ⟨by kernel_rfl, rfl⟩) (by assumption) ?_
            try simp only [Act.put, List.setIfInBounds_toArray, List.set_cons_zero, List.set_cons_succ]
            refine wpAnyH_take (i := 9) (oi := ⟨some 37, _, _, _, _, _⟩) (v := undef) rfl (by kernel_rfl) (by kernel_rfl) (by kernel_rfl) (fun _ _ _ h => h) (Or.inr ⟨by kernel_rfl, rfl⟩) (by assumption) ?_
            try simp only [Act.put, List.setIfInBounds_toArray, List.set_cons_zero, List.set_cons_succ]
            refine wpAnyH_take (i := 10) (oi := ⟨some 38, _, _, _, _, _⟩) (v := undef) rfl (by kernel_rfl) (by kernel_rfl) (by kernel_rfl) (fun _ _ _ h => h) (Or.inr ⟨by kernel_rfl, rfl⟩) (by assumption) ?_
            try simp only [Act.put, List.setIfInBounds_toArray, List.set_cons_zero, List.set_cons_succ]
            refine wpAnyH_take (i := 11) (oi := ⟨some 39, _, _, _, _, _⟩) (v := undef) rfl (by kernel_rfl) (by kernel_rfl) (by kernel_rfl) (fun _ _ _ h => h) (Or.inr ⟨by kernel_rfl, rfl⟩) (by assumption) ?_
            try simp only [Act.put, List.setIfInBounds_toArray, List.set_cons_zero, List.set_cons_succ]
            refine wpAnyH_take (i := 12) (oi := ⟨some 40, _, _, _, _, _⟩) (v := undef) rfl (by kernel_rfl) (by kernel_rfl) (by kernel_rfl) (fun _ _ _ h => h) (Or.inr ⟨by kernel_rfl, rfl⟩) (by assumption) ?_
            try simp only [Act.put, List.setIfInBounds_toArray, List.set_cons_zero, List.set_cons_succ]
            refine wpAnyH_take (i := 13) (oi := ⟨some 41, _, _, _, _, _⟩) (v := undef) rfl (by kernel_rfl) (by kernel_rfl) (by kernel_rfl) (fun _ _ _ h => h) (Or.inr ⟨by kernel_rfl, rfl⟩) (by assumption) ?_
            try simp only [Act.put, List.setIfInBounds_toArray, List.set_cons_zero, List.set_cons_succ]
            refine wpAnyH_take (i := 14) (oi := ⟨some 42, _, _, _, _, _⟩) (v := undef) rfl (by kernel_rfl) (by kernel_rfl) (by kernel_rfl) (fun _ _ _ h => h) (Or.inr ⟨by kernel_rfl, rfl⟩) (by assumption) ?_
            try simp only [Act.put, List.setIfInBounds_toArray, List.set_cons_zero, List.set_cons_succ]
            refine wpAnyH_take (i := 15) (oi := ⟨some 43, _, _, _, _, _⟩) (v := ?_) rfl (by kernel_rfl) (by kernel_rfl) (by kernel_rfl) (fun _ _ _ h => h) (Or.inl ⟨by rfl, ?_⟩) (by assumption) ?_
            rotate_left
            · (intro w hSw; (try dsimp only at hSw); go_simp; try with_reducible rfl)
            try simp only [Act.put, List.setIfInBounds_toArray, List.set_cons_zero, List.set_cons_succ]
            refine wpAnyH_take (i := 16) (oi := ⟨some 44, _, _, _, _, _⟩) (v := ?_) rfl (by kernel_rfl) (by kernel_rfl) (by kernel_rfl) (fun _ _ _ h => h) (Or.inl ⟨by rfl, ?_⟩) (by assumption) ?_
            rotate_left
            · (intro w hSw; (try dsimp only at hSw); go_simp; try with_reducible rfl)
            try simp only [Act.put, List.setIfInBounds_toArray, List.set_cons_zero, List.set_cons_succ]
            refine wpAnyH_take (i := 17) (oi := ⟨some 45, _, _, _, _, _⟩) (v := ?_) rfl (by kernel_rfl) (by kernel_rfl) (by kernel_rfl) (fun _ _ _ h => h) (Or.inl ⟨by rfl, ?_⟩) (by assumption) ?_
            rotate_left
            · (intro w hSw; (try dsimp only at hSw); go_simp; try with_reducible rfl)
            try simp only [Act.put, List.setIfInBounds_toArray, List.set_cons_zero, List.set_cons_succ]
            refine wpAnyH_take (i := 18) (oi := ⟨some 46, _, _, _, _, _⟩) (v := ?_) rfl (by kernel_rfl) (by kernel_rfl) (by kernel_rfl) (fun _ _ _ h => h) (Or.inl ⟨by rfl, ?_⟩) (by assumption) ?_
            rotate_left
            · (intro w hSw; (try dsimp only at hSw); go_simp; try with_reducible rfl)
            try simp only [Act.put, List.setIfInBounds_toArray, List.set_cons_zero, List.set_cons_succ]
            refine wpAnyH_take (i := 19) (oi := ⟨some 47, _, _, _, _, _⟩) (v := ?_) rfl (by kernel_rfl) (by kernel_rfl) (by kernel_rfl) (fun _ _ _ h => h) (Or.inl ⟨by rfl, ?_⟩) (by assumption) ?_
            rotate_left
            · (intro w hSw; (try dsimp only at hSw); go_simp; try with_reducible rfl)
            try simp only [Act.put, List.setIfInBounds_toArray, List.set_cons_zero, List.set_cons_succ]
            refine wpAnyH_take (i := 20) (oi := ⟨some 48, _, _, _, _, _⟩) (v := ?_) rfl (by kernel_rfl) (by kernel_rfl) (by kernel_rfl) (fun _ _ _ h => h) (Or.inl ⟨by rfl, ?_⟩) (by assumption) ?_
            rotate_left
            · (intro w hSw; (try dsimp only at hSw); go_simp; try with_reducible rfl)
            try simp only [Act.put, List.setIfInBounds_toArray, List.set_cons_zero, List.set_cons_succ]
            refine wpAnyH_take (i := 21) (oi := ⟨some 49, _, _, _, _, _⟩) (v := ?_) rfl (by kernel_rfl) (by kernel_rfl) (by kernel_rfl) (fun _ _ _ h => h) (Or.inl ⟨by rfl, ?_⟩) (by assumption) ?_
            rotate_left
            · (intro w hSw; (try dsimp only at hSw); go_simp; try with_reducible rfl)
            try simp only [Act.put, List.setIfInBounds_toArray, List.set_cons_zero, List.set_cons_succ]
            refine wpAnyH_take (i := 22) (oi := ⟨some 50, _, _, _, _, _⟩) (v := ?_) rfl (by kernel_rfl) (by kernel_rfl) (by kernel_rfl) (fun _ _ _ h => h) (Or.inl ⟨by rfl, ?_⟩) (by assumption) ?_
            rotate_left
            · (intro w hSw; (try dsimp only at hSw); go_simp; try with_reducible rfl)
            try simp only [Act.put, List.setIfInBounds_toArray, List.set_cons_zero, List.set_cons_succ]
            refine wpAnyH_take (i := 23) (oi := ⟨some 51, _, _, _, _, _⟩) (v := ?_) rfl (by kernel_rfl) (by kernel_rfl) (by kernel_rfl) (fun _ _ _ h => h) (Or.inl ⟨by rfl, ?_⟩) (by assumption) ?_
            rotate_left
            · (intro w hSw; (try dsimp only at hSw); go_simp; try with_reducible rfl)
            try simp only [Act.put, List.setIfInBounds_toArray, List.set_cons_zero, List.set_cons_succ]
            refine wpAnyH_take (i := 24) (oi := ⟨some 52, _, _, _, _, _⟩) (v := ?_) rfl (by kernel_rfl) (by kernel_rfl) (by kernel_rfl) (fun _ _ _ h => h) (Or.inl ⟨by rfl, ?_⟩) (by assumption) ?_
            rotate_left
            · (intro w hSw; (try dsimp only at hSw); go_simp; try with_reducible rfl)
            try simp only [Act.put, List.setIfInBounds_toArray, List.set_cons_zero, List.set_cons_succ]
            refine wpAnyH_take (i := 25) (oi := ⟨some 53, _, _, _, _, _⟩) (v := ?_) rfl (by kernel_rfl) (by kernel_rfl) (by kernel_rfl) (fun _ _ _ h => h) (Or.inl ⟨by rfl, ?_⟩) (by assumption) ?_
            rotate_left
            · (intro w hSw; (try dsimp only at hSw); go_simp; try with_reducible rfl)
            try simp only [Act.put, List.setIfInBounds_toArray, List.set_cons_zero, List.set_cons_succ]
            refine wpAnyH_take (i := 26) (oi := ⟨some 54, _, _, _, _, _⟩) (v := ?_) rfl (by kernel_rfl) (by kernel_rfl) (by kernel_rfl) (fun _ _ _ h => h) (Or.inl ⟨by rfl, ?_⟩) (by assumption) ?_
            rotate_left
            · (intro w hSw; (try dsimp only at hSw); go_simp; try with_reducible rfl)
            try simp only [Act.put, List.setIfInBounds_toArray, List.set_cons_zero, List.set_cons_succ]
            refine wpAnyH_take (i := 27) (oi := ⟨some 55, _, _, _, _, _⟩) (v := ?_) rfl (by kernel_rfl) (by kernel_rfl) (by kernel_rfl) (fun _ _ _ h => h) (Or.inl ⟨by rfl, ?_⟩) (by assumption) ?_
            rotate_left
            · (intro w hSw; (try dsimp only at hSw); go_simp; try with_reducible rfl)
            try simp only [Act.put, List.setIfInBounds_toArray, List.set_cons_zero, List.set_cons_succ]
            refine wpAnyH_take (i := 28) (oi := ⟨some 56, _, _, _, _, _⟩) (v := ?_) rfl (by kernel_rfl) (by kernel_rfl) (by kernel_rfl) (fun _ _ _ h => h) (Or.inl ⟨by rfl, ?_⟩) (by assumption) ?_
            rotate_left
            · (intro w hSw; (try dsimp only at hSw); go_simp; try with_reducible rfl)
            try simp only [Act.put, List.setIfInBounds_toArray, List.set_cons_zero, List.set_cons_succ]
            refine wpAnyH_take (i := 29) (oi := ⟨some 57, _, _, _, _, _⟩) (v := ?_) rfl (by kernel_rfl) (by kernel_rfl) (by kernel_rfl) (fun _ _ _ h => h) (Or.inl ⟨by rfl, ?_⟩) (by assumption) ?_
            rotate_left
            · (intro w hSw; (try dsimp only at hSw); go_simp; try with_reducible rfl)
            try simp only [Act.put, List.setIfInBounds_toArray, List.set_cons_zero, List.set_cons_succ]
            refine wpAnyH_ready (rs := [30]) (by kernel_rfl) (by simp) ?_
            refine AllReadyH.cons (o := ⟨some 58, _, _, _, _, _⟩) rfl (fun K hK => ?_) AllReadyH.nil
            go_simp
            (go_at_call 26; refine Calls.mono (HFI.out _ (hE1 _ (below_add hbr 1))) ?_; rintro e w5 ⟨rfl, hb5⟩; replace hcur := hcur.drew.below hb5; replace hbr := Below.then hbr (Below.then (below_draws (n := 1) rfl) hb5); clear hb5; go_simp)
            refine hK.out _ _ ?_ (fun hHeld => ?_)
            · (first | exact CS.out _ hcur | exact CS.out _ (hcur.drew) )
            clear hK K
            try simp only [Act.put, List.setIfInBounds_toArray, List.set_cons_zero, List.set_cons_succ]
            refine wpAnyH_take (i := 31) (oi := ⟨some 59, _, _, _, _, _⟩) (v := ?_) rfl (by kernel_rfl) (by kernel_rfl) (by kernel_rfl) (fun _ _ _ h => h) (Or.inl ⟨by rfl, ?_⟩) (by assumption) ?_
            rotate_left
            · (intro w hSw; (try dsimp only at hSw); go_simp; try with_reducible rfl)
            try simp only [Act.put, List.setIfInBounds_toArray, List.set_cons_zero, List.set_cons_succ]
            refine wpAnyH_take (i := 32) (oi := ⟨some 60, _, _, _, _, _⟩) (v := ?_) rfl (by kernel_rfl) (by kernel_rfl) (by kernel_rfl) (fun _ _ _ h => h) (Or.inl ⟨by rfl, ?_⟩) (by assumption) ?_
            rotate_left
            · (intro w hSw; (try dsimp only at hSw); go_simp; try with_reducible rfl)
            try simp only [Act.put, List.setIfInBounds_toArray, List.set_cons_zero, List.set_cons_succ]
            refine wpAnyH_take (i := 33) (oi := ⟨some 61, _, _, _, _, _⟩) (v := ?_) rfl (by kernel_rfl) (by kernel_rfl) (by kernel_rfl) (fun _ _ _ h => h) (Or.inl ⟨by rfl, ?_⟩) (by assumption) ?_
            rotate_left
            · (intro w hSw; (try dsimp only at hSw); go_simp; try with_reducible rfl)
            try simp only [Act.put, List.setIfInBounds_toArray, List.set_cons_zero, List.set_cons_succ]
            refine wpAnyH_take (i := 34) (oi := ⟨some 62, _, _, _, _, _⟩) (v := ?_) rfl (by kernel_rfl) (by kernel_rfl) (by kernel_rfl) (fun _ _ _ h => h) (Or.inl ⟨by rfl, ?_⟩) (by assumption) ?_
            rotate_left
            · (intro w hSw; (try dsimp only at hSw); go_simp; try with_reducible rfl)
            try simp only [Act.put, List.setIfInBounds_toArray, List.set_cons_zero, List.set_cons_succ]
            refine wpAnyH_take (i := 35) (oi := ⟨some 63, _, _, _, _, _⟩) (v := ?_) rfl (by kernel_rfl) (by kernel_rfl) (by kernel_rfl) (fun _ _ _ h => h) (Or.inl ⟨by rfl, ?_⟩) (by assumption) ?_
            rotate_left
            · (intro w hSw; (try dsimp only at hSw); go_simp; try with_reducible rfl)
            try simp only [Act.put, List.setIfInBounds_toArray, List.set_cons_zero, List.set_cons_succ]
            refine wpAnyH_take (i := 36) (oi := ⟨some 64, _, _, _, _, _⟩) (v := ?_) rfl (by kernel_rfl) (by kernel_rfl) (by kernel_rfl) (fun _ _ _ h => h) (Or.inl ⟨by rfl, ?_⟩) (by assumption) ?_
            rotate_left
            · (intro w hSw; (try dsimp only at hSw); go_simp; try with_reducible rfl)
            try simp only [Act.put, List.setIfInBounds_toArray, List.set_cons_zero, List.set_cons_succ]
            refine wpAnyH_take (i := 37) (oi := ⟨some 65, _, _, _, _, _⟩) (v := ?_) rfl (by kernel_rfl) (by kernel_rfl) (by kernel_rfl) (fun _ _ _ h => h) (Or.inl ⟨by rfl, ?_⟩) (by assumption) ?_
            rotate_left
            · (intro w hSw; (try dsimp only at hSw); go_simp; try with_reducible rfl)
            try simp only [Act.put, List.setIfInBounds_toArray, List.set_cons_zero, List.set_cons_succ]
            refine wpAnyH_take (i := 38) (oi := ⟨some 66, _, _, _, _, _⟩) (v := ?_) rfl (by kernel_rfl) (by kernel_rfl) (by kernel_rfl) (fun _ _ _ h => h) (Or.inl ⟨by rfl, ?_⟩) (by assumption) ?_
            rotate_left
            · (intro w hSw; (try dsimp only at hSw); go_simp; try with_reducible rfl)
            try simp only [Act.put, List.setIfInBounds_toArray, List.set_cons_zero, List.set_cons_succ]
            refine wpAnyH_take (i := 39) (oi := ⟨some 67, _, _, _, _, _⟩) (v := ?_) rfl (by kernel_rfl) (by kernel_rfl) (by kernel_rfl) (fun _ _ _ h => h) (Or.inl ⟨by rfl, ?_⟩) (by assumption) ?_
            rotate_left
            · (intro w hSw; (try dsimp only at hSw); go_simp; try with_reducible rfl)
            try simp only [Act.put, List.setIfInBounds_toArray, List.set_cons_zero, List.set_cons_succ]
            refine wpAnyH_take (i := 40) (oi := ⟨some 68, _, _, _, _, _⟩) (v := ?_) rfl (by kernel_rfl) (by kernel_rfl) (by kernel_rfl) (fun _ _ _ h => h) (Or.inl ⟨by rfl, ?_⟩) (by assumption) ?_
            rotate_left
            · (intro w hSw; (try dsimp only at hSw); go_simp; try with_reducible rfl)
            try simp only [Act.put, List.setIfInBounds_toArray, List.set_cons_zero, List.set_cons_succ]
            refine wpAnyH_take (i := 41) (oi := ⟨some 69, _, _, _, _, _⟩) (v := ?_) rfl (by kernel_rfl) (by kernel_rfl) (by kernel_rfl) (fun _ _ _ h => h) (Or.inl ⟨by rfl, ?_⟩) (by assumption) ?_
            rotate_left
            · (intro w hSw; (try dsimp only at hSw); go_simp; try with_reducible rfl)
            try simp only [Act.put, List.setIfInBounds_toArray, List.set_cons_zero, List.set_cons_succ]
            refine wpAnyH_take (i := 42) (oi := ⟨some 70, _, _, _, _, _⟩) (v := ?_) rfl (by kernel_rfl) (by kernel_rfl) (by kernel_rfl) (fun _ _ _ h => h) (Or.inl ⟨by rfl, ?_⟩) (by assumption) ?_
            rotate_left
            · (intro w hSw; (try dsimp only at hSw); go_simp; try with_reducible rfl)
            try simp only [Act.put, List.setIfInBounds_toArray, List.set_cons_zero, List.set_cons_succ]
            refine wpAnyH_take (i := 43) (oi := ⟨some 71, _, _, _, _, _⟩) (v := ?_) rfl (by kernel_rfl) (by kernel_rfl) (by kernel_rfl) (fun _ _ _ h => h) (Or.inl ⟨by rfl, ?_⟩) (by assumption) ?_
            rotate_left
            · (intro w hSw; (try dsimp only at hSw); go_simp; try with_reducible rfl)
            try simp only [Act.put, List.setIfInBounds_toArray, List.set_cons_zero, List.set_cons_succ]
            refine wpAnyH_take (i := 44) (oi := ⟨some 72, _, _, _, _, _⟩) (v := ?_) rfl (by kernel_rfl) (by kernel_rfl) (by kernel_rfl) (fun _ _ _ h => h) (Or.inl ⟨by rfl, ?_⟩) (by assumption) ?_
            rotate_left
            · (intro w hSw; (try dsimp only at hSw); go_simp; try with_reducible rfl)
            try simp only [Act.put, List.setIfInBounds_toArray, List.set_cons_zero, List.set_cons_succ]
            refine wpAnyH_take (i := 46) (oi := ⟨some 74, _, _, _, _, _⟩) (v := ?_) rfl (by kernel_rfl) (by kernel_rfl) (by kernel_rfl) (fun _ _ _ h => h) (Or.inl ⟨by rfl, ?_⟩) (by assumption) ?_
            rotate_left
            · (intro w hSw; (try dsimp only at hSw); go_simp; try with_reducible rfl)
            try simp only [Act.put, List.setIfInBounds_toArray, List.set_cons_zero, List.set_cons_succ]
            refine wpAnyH_take (i := 47) (oi := ⟨some 75, _, _, _, _, _⟩) (v := ?_) rfl (by kernel_rfl) (by kernel_rfl) (by kernel_rfl) (fun _ _ _ h => h) (Or.inl ⟨by rfl, ?_⟩) (by assumption) ?_
            rotate_left
            · (intro w hSw; (try dsimp only at hSw); go_simp; try with_reducible rfl)
            try simp only [Act.put, List.setIfInBounds_toArray, List.set_cons_zero, List.set_cons_succ]
            refine wpAnyH_take (i := 48) (oi := ⟨some 76, _, _, _, _, _⟩) (v := ?_) rfl (by kernel_rfl) (by kernel_rfl) (by kernel_rfl) (fun _ _ _ h => h) (Or.inl ⟨by rfl, ?_⟩) (by assumption) ?_
            rotate_left
            · (intro w hSw; (try dsimp only at hSw); go_simp; try with_reducible rfl)
            try simp only [Act.put, List.setIfInBounds_toArray, List.set_cons_zero, List.set_cons_succ]
            refine wpAnyH_take (i := 49) (oi := ⟨some 77, _, _, _, _, _⟩) (v := ?_) rfl (by kernel_rfl) (by kernel_rfl) (by kernel_rfl) (fun _ _ _ h => h) (Or.inl ⟨by rfl, ?_⟩) (by assumption) ?_
            rotate_left
            · (intro w hSw; (try dsimp only at hSw); go_simp; try with_reducible rfl)
            try simp only [Act.put, List.setIfInBounds_toArray, List.set_cons_zero, List.set_cons_succ]
            refine wpAnyH_take (i := 50) (oi := ⟨some 78, _, _, _, _, _⟩) (v := ?_) rfl (by kernel_rfl) (by kernel_rfl) (by kernel_rfl) (fun _ _ _ h => h) (Or.inl ⟨by rfl, ?_⟩) (by assumption) ?_
            rotate_left
            · (intro w hSw; (try dsimp only at hSw); go_simp; try with_reducible rfl)
            try simp only [Act.put, List.setIfInBounds_toArray, List.set_cons_zero, List.set_cons_succ]
            refine wpAnyH_ready (rs := [45]) (by kernel_rfl) (by simp) ?_
            refine AllReadyH.cons (o := ⟨some 73, _, _, _, _, _⟩) rfl (fun K hK => ?_) AllReadyH.nil
            go_simp
            (go_at_call 20; refine Calls.mono (HSA.out _ (hE1 _ hbr) hcur.li) ?_; rintro e w6 ⟨rfl, h1, h2⟩; replace hbr := hbr.trans (hcur.set_below hbr.size h2); replace hcur := hcur.set h1 h2; clear h1 h2; go_simp)
            refine hK.out _ _ ?_ (fun hHeld => ?_)
            · (first | exact CS.out _ hcur | exact CS.out _ (hcur.drew) )
            clear hK K
            try simp only [Act.put, List.setIfInBounds_toArray, List.set_cons_zero, List.set_cons_succ]
            refine wpAnyH_take (i := 51) (oi := ⟨some 79, _, _, _, _, _⟩) (v := ?_) rfl (by kernel_rfl) (by kernel_rfl) (by kernel_rfl) (fun _ _ _ h => h) (Or.inl ⟨by rfl, ?_⟩) (by assumption) ?_
            rotate_left
            · (intro w hSw; (try dsimp only at hSw); go_simp; try with_reducible rfl)
            try simp only [Act.put, List.setIfInBounds_toArray, List.set_cons_zero, List.set_cons_succ]
            refine wpAnyH_take (i := 52) (oi := ⟨some 80, _, _, _, _, _⟩) (v := ?_) rfl (by kernel_rfl) (by kernel_rfl) (by kernel_rfl) (fun _ _ _ h => h) (Or.inl ⟨by rfl, ?_⟩) (by assumption) ?_
            rotate_left
            · (intro w hSw; (try dsimp only at hSw); go_simp; try with_reducible rfl)
            try simp only [Act.put, List.setIfInBounds_toArray, List.set_cons_zero, List.set_cons_succ]
            refine wpAnyH_done (by kernel_rfl) ?_ _
            refine NoPanic.normal ?_
            have hcur1 := hcur
            have z1 := cell_later x1 hbr
            go_wp2_with fail
            cases hne : (bl f1 == bl f) with
            | true =>
              have h1 := eqTwo f1 f _ hne
              have h2 : (f1.toList != f.toList) = false := by rw [bne, h1]; rfl
              have HST := Lib.hid (show (S.take (k + 1)).filter (notB (bl f)) = (S.take k).filter (notB (bl f)) by
                rw [hst, show notB (bl f) (f1, q1) = false by unfold notB; rw [show fB (f1, q1) = bl f1 from rfl, hne]; rfl]; simp)
              clear hne hst
              go_quiet (fail)
              generalize hw2 : World.drewN _ _ = w9
              have hq2 := below_draws hw2
              clear hw2
              go_wp2_with fail
              go_roundw
              case rel => exact ⟨k + 1, m, by omega, by first | rfl | go_num, by omega, by rw [Hid, HST.out]; exact hcur.below hq2, Below.then hbr hq2⟩
              case measure => simp [intOf]; omega
            | false =>
              have h1 := eqTwo f1 f _ hne
              have h2 : (f1.toList != f.toList) = true := by rw [bne, h1]; rfl
              have HST := Lib.hid (show (S.take (k + 1)).filter (notB (bl f)) = (S.take k).filter (notB (bl f)) ++ [(f1, q1)] by
                rw [hst, show notB (bl f) (f1, q1) = true by unfold notB; rw [show fB (f1, q1) = bl f1 from rfl, hne]; rfl]; simp)
              clear hne hst
              go_quiet (fail)
              generalize hw2 : World.drewN _ _ = w9
              have hq2 := below_draws hw2
              clear hw2
              replace hcur := hcur.below hq2
              replace hbr := Below.then hbr hq2
              obtain ⟨d1, d2⟩ := CS1.out _ hcur
              have hszr := hbr.size
              have HCU := Lib.hid hcur
              have hszB := hcur.sz
              clear hcur hcur1 z1
              go_wp2_with (first
                | (at_builtin; refine wpList_append_own _ rfl (.tmp 89) (.tmp 94) 28 rfl B2 33 i0 _ 2 24 Tryd.underlying28 hi hz0 hz1 hz2 rfl (by decide) _ m _ rfl (HCU.out.r2.alloc _) ⟨w9.heap.size, 0, none⟩ 1 1 [.string f1, .int .u8 (q1 : Int)] rfl rfl (newsN _ _ _ _ rfl) (by simp [Value.oneCell']) (by unfold maxLen; omega) (by omega) (by simp; omega) ?_; intro v2 w10 hown2 hg2 _; have HC2 := Lib.hid ((HCU.out.below ((Below.refl _ _).alloc (Nat.le_refl _) _)).add (R' := (S.take k).filter (notB (bl f)) ++ [(f1, q1)]) hg2 (by rw [subCells_append]; exact hown2)); have hb2 := Below.grown' (hbr.alloc hszr _) hg2 (by simp; omega) (fun r hr => by have := (own_lt HCU.out.r2 hr).2; omega); clear hown2 hg2))
              go_roundw
              case rel => exact ⟨k + 1, m + 1, by omega, by first | rfl | go_num, by omega, by rw [Hid, HST.out]; exact HC2.out, hb2⟩
              case measure => simp [intOf]; omega
          · obtain ⟨x0, hx0⟩ : ∃ x, S[k - 1]? = some x := ⟨_, List.getElem?_eq_getElem (by omega)⟩
            have hlss : lessB (fB x0) (bl f1) = true := by
              obtain ⟨h1, h2⟩ := List.getElem?_eq_some_iff.1 hx0
              obtain ⟨h3, h4⟩ := List.getElem?_eq_some_iff.1 hx
              have := List.pairwise_iff_getElem.1 HF.out.sort (k - 1) k h1 h3 (by omega)
              rw [h2, h4] at this
              exact this
            obtain ⟨f0, q0⟩ := x0
            have hless := lessTwo f0 f1 _ hlss
            have CS := Lib.hid (fun (w' : World) {p m R} (h : TurnAt w' w1.heap.size B2 g v S (.slice (some ⟨bb, o, none⟩) S.length c4) p m R) => (show w'.cell? ⟨bb, o + k * 2, none⟩ = some (.string f1) ∧ w'.cell? ⟨bb, o + k * 2 + 1, none⟩ = some (.int .u8 (q1 : Int)) ∧ w'.cell? ⟨bb, o + (k - 1) * 2, none⟩ = some (.string f0) from by
              obtain ⟨b', o', he, k1, k2⟩ := h.cells.sub hx0
              injection he with he
              injection he with e1 e2
              subst e1 e2
              exact ⟨(CS1.out _ h).1, (CS1.out _ h).2, k1⟩))
            have hki : (0 : Int) < (k : Int) := by omega
            have hki1 : (1 : Int) ≤ (k : Int) := by omega
            have hkn : 0 < k := by omega
            have hw0 : IntKind.i64.wrap ((k : Int) - 1) = (k : Int) - 1 := IntWalk.i64_in _ (by omega)
            have hw2 : ((k : Int) - 1).toNat = k - 1 := by omega
            have hw3 : (0 : Int) ≤ (k : Int) - 1 := by omega
            have hw4 : (k : Int) - 1 < (S.length : Int) := by omega
            clear hx hmem hgood hFi hk0 hx0 hlss
            go_wp2_with fail
            refine wp_region_noPanic ?_
            refine wp_region_held_drew (S := fun w' => w'.cell? ⟨bb, o + k * 2, none⟩ = some (.string f1) ∧ w'.cell? ⟨bb, o + k * 2 + 1, none⟩ = some (.int .u8 (q1 : Int)) ∧ w'.cell? ⟨bb, o + (k - 1) * 2, none⟩ = some (.string f0)) (by kernel_rfl) ?_ (fun hHeld => ?_)
            · (first | exact CS.out _ hcur | exact CS.out _ (hcur.drew) )
            refine wpAnyH_take (i := 0) (oi := ⟨some 28, _, _, _, _, _⟩) (v := ?_) rfl (by kernel_rfl) (by kernel_rfl) (by kernel_rfl) (fun _ _ _ h => h) (Or.inl ⟨by rfl, ?_⟩) (by assumption) ?_
            rotate_left
            · (intro w hSw; (try dsimp only at hSw); go_simp; try with_reducible rfl)
            try simp only [Act.put, List.setIfInBounds_toArray, List.set_cons_zero, List.set_cons_succ]
            refine wpAnyH_take (i := 1) (oi := ⟨some 29, _, _, _, _, _⟩) (v := ?_) rfl (by kernel_rfl) (by kernel_rfl) (by kernel_rfl) (fun _ _ _ h => h) (Or.inl ⟨by rfl, ?_⟩) (by assumption) ?_
            rotate_left
            · (intro w hSw; (try dsimp only at hSw); go_simp; try with_reducible rfl)
            try simp only [Act.put, List.setIfInBounds_toArray, List.set_cons_zero, List.set_cons_succ]
            refine wpAnyH_take (i := 2) (oi := ⟨some 30, _, _, _, _, _⟩) (v := ?_) rfl (by kernel_rfl) (by kernel_rfl) (by kernel_rfl) (fun _ _ _ h => h) (Or.inl ⟨by rfl, ?_⟩) (by assumption) ?_
            rotate_left
            · (intro w hSw; (try dsimp only at hSw); go_simp; try with_reducible rfl)
            try simp only [Act.put, List.setIfInBounds_toArray, List.set_cons_zero, List.set_cons_succ]
            refine wpAnyH_take (i := 3) (oi := ⟨some 31, _, _, _, _, _⟩) (v := ?_) rfl (by kernel_rfl) (by kernel_rfl) (by kernel_rfl) (fun _ _ _ h => h) (Or.inl ⟨by rfl, ?_⟩) (by assumption) ?_
            rotate_left
            · (intro w hSw; (try dsimp only at hSw); go_simp; try with_reducible rfl)
            try simp only [Act.put, List.setIfInBounds_toArray, List.set_cons_zero, List.set_cons_succ]
            refine wpAnyH_take (i := 4) (oi := ⟨some 32, _, _, _, _, _⟩) (v := ?_) rfl (by kernel_rfl) (by kernel_rfl) (by kernel_rfl) (fun _ _ _ h => h) (Or.inl ⟨by rfl, ?_⟩) (by assumption) ?_
            rotate_left
            · (intro w hSw; (try dsimp only at hSw); go_simp; try with_reducible rfl)
            try simp only [Act.put, List.setIfInBounds_toArray, List.set_cons_zero, List.set_cons_succ]
            refine wpAnyH_take (i := 5) (oi := ⟨some 33, _, _, _, _, _⟩) (v := ?_) rfl (by kernel_rfl) (by kernel_rfl) (by kernel_rfl) (fun _ _ _ h => h) (Or.inl ⟨by rfl, ?_⟩) (by assumption) ?_
            rotate_left
            · (intro w hSw; (try dsimp only at hSw); go_simp; try with_reducible rfl)
            try simp only [Act.put, List.setIfInBounds_toArray, List.set_cons_zero, List.set_cons_succ]
            refine wpAnyH_take (i := 6) (oi := ⟨some 34, _, _, _, _, _⟩) (v := ?_) rfl (by kernel_rfl) (by kernel_rfl) (by kernel_rfl) (fun _ _ _ h => h) (Or.inl ⟨by rfl, ?_⟩) (by assumption) ?_
            rotate_left
            · (intro w hSw; (try dsimp only at hSw); go_simp; try with_reducible rfl)
            try simp only [Act.put, List.setIfInBounds_toArray, List.set_cons_zero, List.set_cons_succ]
            refine wpAnyH_take (i := 7) (oi := ⟨some 35, _, _, _, _, _⟩) (v := ?_) rfl (by kernel_rfl) (by kernel_rfl) (by kernel_rfl) (fun _ _ _ h => h) (Or.inl ⟨by rfl, ?_⟩) (by assumption) ?_
            rotate_left
            · (intro w hSw; (try dsimp only at hSw); go_simp; try with_reducible rfl)
            try simp only [Act.put, List.setIfInBounds_toArray, List.set_cons_zero, List.set_cons_succ]
            refine wpAnyH_take (i := 8) (oi := ⟨some 36, _, _, _, _, _⟩) (v := ?_) rfl (by kernel_rfl) (by kernel_rfl) (by kernel_rfl) (fun _ _ _ h => h) (Or.inl ⟨by rfl, ?_⟩) (by assumption) ?_
            rotate_left
            · (intro w hSw; (try dsimp only at hSw); go_simp; try with_reducible rfl)
            try simp only [Act.put, List.setIfInBounds_toArray, List.set_cons_zero, List.set_cons_succ]
            refine wpAnyH_take (i := 9) (oi := ⟨some 37, _, _, _, _, _⟩) (v := ?_) rfl (by kernel_rfl) (by kernel_rfl) (by kernel_rfl) (fun _ _ _ h => h) (Or.inl ⟨by rfl, ?_⟩) (by assumption) ?_
            rotate_left
            · (intro w hSw; (try dsimp only at hSw); go_simp; try with_reducible rfl)
            try simp only [Act.put, List.setIfInBounds_toArray, List.set_cons_zero, List.set_cons_succ]
            refine wpAnyH_take (i := 10) (oi := ⟨some 38, _, _, _, _, _⟩) (v := ?_) rfl (by kernel_rfl) (by kernel_rfl) (by kernel_rfl) (fun _ _ _ h => h) (Or.inl ⟨by rfl, ?_⟩) (by assumption) ?_
            rotate_left
            · (intro w hSw; (try dsimp only at hSw); go_simp; try with_reducible rfl)
            try simp only [Act.put, List.setIfInBounds_toArray, List.set_cons_zero, List.set_cons_succ]
            refine wpAnyH_take (i := 11) (oi := ⟨some 39, _, _, _, _, _⟩) (v := ?_) rfl (by kernel_rfl) (by kernel_rfl) (by kernel_rfl) (fun _ _ _ h => h) (Or.inl ⟨by rfl, ?_⟩) (by assumption) ?_
            rotate_left
            · (intro w hSw; (try dsimp only at hSw); go_simp; try with_reducible rfl)
            try simp only [Act.put, List.setIfInBounds_toArray, List.set_cons_zero, List.set_cons_succ]
            refine wpAnyH_take (i := 12) (oi := ⟨some 40, _, _, _, _, _⟩) (v := ?_) rfl (by kernel_rfl) (by kernel_rfl) (by kernel_rfl) (fun _ _ _ h => h) (Or.inl ⟨by rfl, ?_⟩) (by assumption) ?_
            rotate_left
            · (intro w hSw; (try dsimp only at hSw); go_simp; try with_reducible rfl)
            try simp only [Act.put, List.setIfInBounds_toArray, List.set_cons_zero, List.set_cons_succ]
            refine wpAnyH_take (i := 13) (oi := ⟨some 41, _, _, _, _, _⟩) (v := ?_) rfl (by kernel_rfl) (by kernel_rfl) (by kernel_rfl) (fun _ _ _ h => h) (Or.inl ⟨by rfl, ?_⟩) (by assumption) ?_
            rotate_left
            · (intro w hSw; (try dsimp only at hSw); go_simp; try with_reducible rfl)
            try simp only [Act.put, List.setIfInBounds_toArray, List.set_cons_zero, List.set_cons_succ]
            refine wpAnyH_take (i := 14) (oi := ⟨some 42, _, _, _, _, _⟩) (v := ?_) rfl (by kernel_rfl) (by kernel_rfl) (by kernel_rfl) (fun _ _ _ h => h) (Or.inl ⟨by rfl, ?_⟩) (by assumption) ?_
            rotate_left
            · (intro w hSw; (try dsimp only at hSw); go_simp; try with_reducible rfl)
            try simp only [Act.put, List.setIfInBounds_toArray, List.set_cons_zero, List.set_cons_succ]
            refine wpAnyH_take (i := 15) (oi := ⟨some 43, _, _, _, _, _⟩) (v := ?_) rfl (by kernel_rfl) (by kernel_rfl) (by kernel_rfl) (fun _ _ _ h => h) (Or.inl ⟨by rfl, ?_⟩) (by assumption) ?_
            rotate_left
            · (intro w hSw; (try dsimp only at hSw); go_simp; try with_reducible rfl)
            try simp only [Act.put, List.setIfInBounds_toArray, List.set_cons_zero, List.set_cons_succ]
            refine wpAnyH_take (i := 16) (oi := ⟨some 44, _, _, _, _, _⟩) (v := ?_) rfl (by kernel_rfl) (by kernel_rfl) (by kernel_rfl) (fun _ _ _ h => h) (Or.inl ⟨by rfl, ?_⟩) (by assumption) ?_
            rotate_left
            · (intro w hSw; (try dsimp only at hSw); go_simp; try with_reducible rfl)
            try simp only [Act.put, List.setIfInBounds_toArray, List.set_cons_zero, List.set_cons_succ]
            refine wpAnyH_take (i := 17) (oi := ⟨some 45, _, _, _, _, _⟩) (v := ?_) rfl (by kernel_rfl) (by kernel_rfl) (by kernel_rfl) (fun _ _ _ h => h) (Or.inl ⟨by rfl, ?_⟩) (by assumption) ?_
            rotate_left
            · (intro w hSw; (try dsimp only at hSw); go_simp; try with_reducible rfl)
            try simp only [Act.put, List.setIfInBounds_toArray, List.set_cons_zero, List.set_cons_succ]
            refine wpAnyH_take (i := 18) (oi := ⟨some 46, _, _, _, _, _⟩) (v := ?_) rfl (by kernel_rfl) (by kernel_rfl) (by kernel_rfl) (fun _ _ _ h => h) (Or.inl ⟨by rfl, ?_⟩) (by assumption) ?_
            rotate_left
            · (intro w hSw; (try dsimp only at hSw); go_simp; try with_reducible rfl)
            try simp only [Act.put, List.setIfInBounds_toArray, List.set_cons_zero, List.set_cons_succ]
            refine wpAnyH_take (i := 19) (oi := ⟨some 47, _, _, _, _, _⟩) (v := ?_) rfl (by kernel_rfl) (by kernel_rfl) (by kernel_rfl) (fun _ _ _ h => h) (Or.inl ⟨by rfl, ?_⟩) (by assumption) ?_
            rotate_left
            · (intro w hSw; (try dsimp only at hSw); go_simp; try with_reducible rfl)
            try simp only [Act.put, List.setIfInBounds_toArray, List.set_cons_zero, List.set_cons_succ]
            refine wpAnyH_take (i := 20) (oi := ⟨some 48, _, _, _, _, _⟩) (v := ?_) rfl (by kernel_rfl) (by kernel_rfl) (by kernel_rfl) (fun _ _ _ h => h) (Or.inl ⟨by rfl, ?_⟩) (by assumption) ?_
            rotate_left
            · (intro w hSw; (try dsimp only at hSw); go_simp; try with_reducible rfl)
            try simp only [Act.put, List.setIfInBounds_toArray, List.set_cons_zero, List.set_cons_succ]
            refine wpAnyH_take (i := 21) (oi := ⟨some 49, _, _, _, _, _⟩) (v := ?_) rfl (by kernel_rfl) (by kernel_rfl) (by kernel_rfl) (fun _ _ _ h => h) (Or.inl ⟨by rfl, ?_⟩) (by assumption) ?_
            rotate_left
            · (intro w hSw; (try dsimp only at hSw); go_simp; try with_reducible rfl)
            try simp only [Act.put, List.setIfInBounds_toArray, List.set_cons_zero, List.set_cons_succ]
            refine wpAnyH_take (i := 22) (oi := ⟨some 50, _, _, _, _, _⟩) (v := ?_) rfl (by kernel_rfl) (by kernel_rfl) (by kernel_rfl) (fun _ _ _ h => h) (Or.inl ⟨by rfl, ?_⟩) (by assumption) ?_
            rotate_left
            · (intro w hSw; (try dsimp only at hSw); go_simp; try with_reducible rfl)
            try simp only [Act.put, List.setIfInBounds_toArray, List.set_cons_zero, List.set_cons_succ]
            refine wpAnyH_take (i := 23) (oi := ⟨some 51, _, _, _, _, _⟩) (v := ?_) rfl (by kernel_rfl) (by kernel_rfl) (by kernel_rfl) (fun _ _ _ h => h) (Or.inl ⟨by rfl, ?_⟩) (by assumption) ?_
            rotate_left
            · (intro w hSw; (try dsimp only at hSw); go_simp; try with_reducible rfl)
            try simp only [Act.put, List.setIfInBounds_toArray, List.set_cons_zero, List.set_cons_succ]
            refine wpAnyH_take (i := 24) (oi := ⟨some 52, _, _, _, _, _⟩) (v := ?_) rfl (by kernel_rfl) (by kernel_rfl) (by kernel_rfl) (fun _ _ _ h => h) (Or.inl ⟨by rfl, ?_⟩) (by assumption) ?_
            rotate_left
            · (intro w hSw; (try dsimp only at hSw); go_simp; try with_reducible rfl)
            try simp only [Act.put, List.setIfInBounds_toArray, List.set_cons_zero, List.set_cons_succ]
            refine wpAnyH_take (i := 25) (oi := ⟨some 53, _, _, _, _, _⟩) (v := ?_) rfl (by kernel_rfl) (by kernel_rfl) (by kernel_rfl) (fun _ _ _ h => h) (Or.inl ⟨by rfl, ?_⟩) (by assumption) ?_
            rotate_left
            · (intro w hSw; (try dsimp only at hSw); go_simp; try with_reducible rfl)
            try simp only [Act.put, List.setIfInBounds_toArray, List.set_cons_zero, List.set_cons_succ]
            refine wpAnyH_take (i := 26) (oi := ⟨some 54, _, _, _, _, _⟩) (v := ?_) rfl (by kernel_rfl) (by kernel_rfl) (by kernel_rfl) (fun _ _ _ h => h) (Or.inl ⟨by rfl, ?_⟩) (by assumption) ?_
            rotate_left
            · (intro w hSw; (try dsimp only at hSw); go_simp; try with_reducible rfl)
            try simp only [Act.put, List.setIfInBounds_toArray, List.set_cons_zero, List.set_cons_succ]
            refine wpAnyH_take (i := 27) (oi := ⟨some 55, _, _, _, _, _⟩) (v := ?_) rfl (by kernel_rfl) (by kernel_rfl) (by kernel_rfl) (fun _ _ _ h => h) (Or.inl ⟨by rfl, ?_⟩) (by assumption) ?_
            rotate_left
            · (intro w hSw; (try dsimp only at hSw); go_simp; try with_reducible rfl)
            try simp only [Act.put, List.setIfInBounds_toArray, List.set_cons_zero, List.set_cons_succ]
            refine wpAnyH_take (i := 28) (oi := ⟨some 56, _, _, _, _, _⟩) (v := ?_) rfl (by kernel_rfl) (by kernel_rfl) (by kernel_rfl) (fun _ _ _ h => h) (Or.inl ⟨by rfl, ?_⟩) (by assumption) ?_
            rotate_left
            · (intro w hSw; (try dsimp only at hSw); go_simp; try with_reducible rfl)
            try simp only [Act.put, List.setIfInBounds_toArray, List.set_cons_zero, List.set_cons_succ]
            refine wpAnyH_take (i := 29) (oi := ⟨some 57, _, _, _, _, _⟩) (v := ?_) rfl (by kernel_rfl) (by kernel_rfl) (by kernel_rfl) (fun _ _ _ h => h) (Or.inl ⟨by rfl, ?_⟩) (by assumption) ?_
            rotate_left
            · (intro w hSw; (try dsimp only at hSw); go_simp; try with_reducible rfl)
            try simp only [Act.put, List.setIfInBounds_toArray, List.set_cons_zero, List.set_cons_succ]
            refine wpAnyH_ready (rs := [30]) (by kernel_rfl) (by simp) ?_
            refine AllReadyH.cons (o := ⟨some 58, _, _, _, _, _⟩) rfl (fun K hK => ?_) AllReadyH.nil
            go_simp
            (go_at_call 26; refine Calls.mono (HFI.out _ (hE1 _ (below_add hbr 1))) ?_; rintro e w5 ⟨rfl, hb5⟩; replace hcur := hcur.drew.below hb5; replace hbr := Below.then hbr (Below.then (below_draws (n := 1) rfl) hb5); clear hb5; go_simp)
            refine hK.out _ _ ?_ (fun hHeld => ?_)
            · (first | exact CS.out _ hcur | exact CS.out _ (hcur.drew) )
            clear hK K
            try simp only [Act.put, List.setIfInBounds_toArray, List.set_cons_zero, List.set_cons_succ]
            refine wpAnyH_take (i := 31) (oi := ⟨some 59, _, _, _, _, _⟩) (v := ?_) rfl (by kernel_rfl) (by kernel_rfl) (by kernel_rfl) (fun _ _ _ h => h) (Or.inl ⟨by rfl, ?_⟩) (by assumption) ?_
            rotate_left
            · (intro w hSw; (try dsimp only at hSw); go_simp; try with_reducible rfl)
            try simp only [Act.put, List.setIfInBounds_toArray, List.set_cons_zero, List.set_cons_succ]
            refine wpAnyH_take (i := 32) (oi := ⟨some 60, _, _, _, _, _⟩) (v := ?_) rfl (by kernel_rfl) (by kernel_rfl) (by kernel_rfl) (fun _ _ _ h => h) (Or.inl ⟨by rfl, ?_⟩) (by assumption) ?_
            rotate_left
            · (intro w hSw; (try dsimp only at hSw); go_simp; try with_reducible rfl)
            try simp only [Act.put, List.setIfInBounds_toArray, List.set_cons_zero, List.set_cons_succ]
            refine wpAnyH_take (i := 33) (oi := ⟨some 61, _, _, _, _, _⟩) (v := ?_) rfl (by kernel_rfl) (by kernel_rfl) (by kernel_rfl) (fun _ _ _ h => h) (Or.inl ⟨by rfl, ?_⟩) (by assumption) ?_
            rotate_left
            · (intro w hSw; (try dsimp only at hSw); go_simp; try with_reducible rfl)
            try simp only [Act.put, List.setIfInBounds_toArray, List.set_cons_zero, List.set_cons_succ]
            refine wpAnyH_take (i := 34) (oi := ⟨some 62, _, _, _, _, _⟩) (v := ?_) rfl (by kernel_rfl) (by kernel_rfl) (by kernel_rfl) (fun _ _ _ h => h) (Or.inl ⟨by rfl, ?_⟩) (by assumption) ?_
            rotate_left
            · (intro w hSw; (try dsimp only at hSw); go_simp; try with_reducible rfl)
            try simp only [Act.put, List.setIfInBounds_toArray, List.set_cons_zero, List.set_cons_succ]
            refine wpAnyH_take (i := 35) (oi := ⟨some 63, _, _, _, _, _⟩) (v := ?_) rfl (by kernel_rfl) (by kernel_rfl) (by kernel_rfl) (fun _ _ _ h => h) (Or.inl ⟨by rfl, ?_⟩) (by assumption) ?_
            rotate_left
            · (intro w hSw; (try dsimp only at hSw); go_simp; try with_reducible rfl)
            try simp only [Act.put, List.setIfInBounds_toArray, List.set_cons_zero, List.set_cons_succ]
            refine wpAnyH_take (i := 36) (oi := ⟨some 64, _, _, _, _, _⟩) (v := ?_) rfl (by kernel_rfl) (by kernel_rfl) (by kernel_rfl) (fun _ _ _ h => h) (Or.inl ⟨by rfl, ?_⟩) (by assumption) ?_
            rotate_left
            · (intro w hSw; (try dsimp only at hSw); go_simp; try with_reducible rfl)
            try simp only [Act.put, List.setIfInBounds_toArray, List.set_cons_zero, List.set_cons_succ]
            refine wpAnyH_take (i := 37) (oi := ⟨some 65, _, _, _, _, _⟩) (v := ?_) rfl (by kernel_rfl) (by kernel_rfl) (by kernel_rfl) (fun _ _ _ h => h) (Or.inl ⟨by rfl, ?_⟩) (by assumption) ?_
            rotate_left
            · (intro w hSw; (try dsimp only at hSw); go_simp; try with_reducible rfl)
            try simp only [Act.put, List.setIfInBounds_toArray, List.set_cons_zero, List.set_cons_succ]
            refine wpAnyH_take (i := 38) (oi := ⟨some 66, _, _, _, _, _⟩) (v := ?_) rfl (by kernel_rfl) (by kernel_rfl) (by kernel_rfl) (fun _ _ _ h => h) (Or.inl ⟨by rfl, ?_⟩) (by assumption) ?_
            rotate_left
            · (intro w hSw; (try dsimp only at hSw); go_simp; try with_reducible rfl)
            try simp only [Act.put, List.setIfInBounds_toArray, List.set_cons_zero, List.set_cons_succ]
            refine wpAnyH_take (i := 39) (oi := ⟨some 67, _, _, _, _, _⟩) (v := ?_) rfl (by kernel_rfl) (by kernel_rfl) (by kernel_rfl) (fun _ _ _ h => h) (Or.inl ⟨by rfl, ?_⟩) (by assumption) ?_
            rotate_left
            · (intro w hSw; (try dsimp only at hSw); go_simp; try with_reducible rfl)
            try simp only [Act.put, List.setIfInBounds_toArray, List.set_cons_zero, List.set_cons_succ]
            refine wpAnyH_take (i := 40) (oi := ⟨some 68, _, _, _, _, _⟩) (v := ?_) rfl (by kernel_rfl) (by kernel_rfl) (by kernel_rfl) (fun _ _ _ h => h) (Or.inl ⟨by rfl, ?_⟩) (by assumption) ?_
            rotate_left
            · (intro w hSw; (try dsimp only at hSw); go_simp; try with_reducible rfl)
            try simp only [Act.put, List.setIfInBounds_toArray, List.set_cons_zero, List.set_cons_succ]
            refine wpAnyH_take (i := 41) (oi := ⟨some 69, _, _, _, _, _⟩) (v := ?_) rfl (by kernel_rfl) (by kernel_rfl) (by kernel_rfl) (fun _ _ _ h => h) (Or.inl ⟨by rfl, ?_⟩) (by assumption) ?_
            rotate_left
            · (intro w hSw; (try dsimp only at hSw); go_simp; try with_reducible rfl)
            try simp only [Act.put, List.setIfInBounds_toArray, List.set_cons_zero, List.set_cons_succ]
            refine wpAnyH_take (i := 42) (oi := ⟨some 70, _, _, _, _, _⟩) (v := ?_) rfl (by kernel_rfl) (by kernel_rfl) (by kernel_rfl) (fun _ _ _ h => h) (Or.inl ⟨by rfl, ?_⟩) (by assumption) ?_
            rotate_left
            · (intro w hSw; (try dsimp only at hSw); go_simp; try with_reducible rfl)
            try simp only [Act.put, List.setIfInBounds_toArray, List.set_cons_zero, List.set_cons_succ]
            refine wpAnyH_take (i := 43) (oi := ⟨some 71, _, _, _, _, _⟩) (v := ?_) rfl (by kernel_rfl) (by kernel_rfl) (by kernel_rfl) (fun _ _ _ h => h) (Or.inl ⟨by rfl, ?_⟩) (by assumption) ?_
            rotate_left
            · (intro w hSw; (try dsimp only at hSw); go_simp; try with_reducible rfl)
            try simp only [Act.put, List.setIfInBounds_toArray, List.set_cons_zero, List.set_cons_succ]
            refine wpAnyH_take (i := 44) (oi := ⟨some 72, _, _, _, _, _⟩) (v := ?_) rfl (by kernel_rfl) (by kernel_rfl) (by kernel_rfl) (fun _ _ _ h => h) (Or.inl ⟨by rfl, ?_⟩) (by assumption) ?_
            rotate_left
            · (intro w hSw; (try dsimp only at hSw); go_simp; try with_reducible rfl)
            try simp only [Act.put, List.setIfInBounds_toArray, List.set_cons_zero, List.set_cons_succ]
            refine wpAnyH_take (i := 46) (oi := ⟨some 74, _, _, _, _, _⟩) (v := ?_) rfl (by kernel_rfl) (by kernel_rfl) (by kernel_rfl) (fun _ _ _ h => h) (Or.inl ⟨by rfl, ?_⟩) (by assumption) ?_
            rotate_left
            · (intro w hSw; (try dsimp only at hSw); go_simp; try with_reducible rfl)
            try simp only [Act.put, List.setIfInBounds_toArray, List.set_cons_zero, List.set_cons_succ]
            refine wpAnyH_take (i := 47) (oi := ⟨some 75, _, _, _, _, _⟩) (v := ?_) rfl (by kernel_rfl) (by kernel_rfl) (by kernel_rfl) (fun _ _ _ h => h) (Or.inl ⟨by rfl, ?_⟩) (by assumption) ?_
            rotate_left
            · (intro w hSw; (try dsimp only at hSw); go_simp; try with_reducible rfl)
            try simp only [Act.put, List.setIfInBounds_toArray, List.set_cons_zero, List.set_cons_succ]
            refine wpAnyH_take (i := 48) (oi := ⟨some 76, _, _, _, _, _⟩) (v := ?_) rfl (by kernel_rfl) (by kernel_rfl) (by kernel_rfl) (fun _ _ _ h => h) (Or.inl ⟨by rfl, ?_⟩) (by assumption) ?_
            rotate_left
            · (intro w hSw; (try dsimp only at hSw); go_simp; try with_reducible rfl)
            try simp only [Act.put, List.setIfInBounds_toArray, List.set_cons_zero, List.set_cons_succ]
            refine wpAnyH_take (i := 49) (oi := ⟨some 77, _, _, _, _, _⟩) (v := ?_) rfl (by kernel_rfl) (by kernel_rfl) (by kernel_rfl) (fun _ _ _ h => h) (Or.inl ⟨by rfl, ?_⟩) (by assumption) ?_
            rotate_left
            · (intro w hSw; (try dsimp only at hSw); go_simp; try with_reducible rfl)
            try simp only [Act.put, List.setIfInBounds_toArray, List.set_cons_zero, List.set_cons_succ]
            refine wpAnyH_take (i := 50) (oi := ⟨some 78, _, _, _, _, _⟩) (v := ?_) rfl (by kernel_rfl) (by kernel_rfl) (by kernel_rfl) (fun _ _ _ h => h) (Or.inl ⟨by rfl, ?_⟩) (by assumption) ?_
            rotate_left
            · (intro w hSw; (try dsimp only at hSw); go_simp; try with_reducible rfl)
            try simp only [Act.put, List.setIfInBounds_toArray, List.set_cons_zero, List.set_cons_succ]
            refine wpAnyH_ready (rs := [45]) (by kernel_rfl) (by simp) ?_
            refine AllReadyH.cons (o := ⟨some 73, _, _, _, _, _⟩) rfl (fun K hK => ?_) AllReadyH.nil
            go_simp
            (go_at_call 20; refine Calls.mono (HSA.out _ (hE1 _ hbr) hcur.li) ?_; rintro e w6 ⟨rfl, h1, h2⟩; replace hbr := hbr.trans (hcur.set_below hbr.size h2); replace hcur := hcur.set h1 h2; clear h1 h2; go_simp)
            refine hK.out _ _ ?_ (fun hHeld => ?_)
            · (first | exact CS.out _ hcur | exact CS.out _ (hcur.drew) )
            clear hK K
            try simp only [Act.put, List.setIfInBounds_toArray, List.set_cons_zero, List.set_cons_succ]
            refine wpAnyH_take (i := 51) (oi := ⟨some 79, _, _, _, _, _⟩) (v := ?_) rfl (by kernel_rfl) (by kernel_rfl) (by kernel_rfl) (fun _ _ _ h => h) (Or.inl ⟨by rfl, ?_⟩) (by assumption) ?_
            rotate_left
            · (intro w hSw; (try dsimp only at hSw); go_simp; try with_reducible rfl)
            try simp only [Act.put, List.setIfInBounds_toArray, List.set_cons_zero, List.set_cons_succ]
            refine wpAnyH_take (i := 52) (oi := ⟨some 80, _, _, _, _, _⟩) (v := ?_) rfl (by kernel_rfl) (by kernel_rfl) (by kernel_rfl) (fun _ _ _ h => h) (Or.inl ⟨by rfl, ?_⟩) (by assumption) ?_
            rotate_left
            · (intro w hSw; (try dsimp only at hSw); go_simp; try with_reducible rfl)
            try simp only [Act.put, List.setIfInBounds_toArray, List.set_cons_zero, List.set_cons_succ]
            refine wpAnyH_done (by kernel_rfl) ?_ _
            refine NoPanic.normal ?_
            clear hw0 hw2 hw3 hw4
            have hcur1 := hcur
            have z1 := cell_later x1 hbr
            go_wp2_with fail
            cases hne : (bl f1 == bl f) with
            | true =>
              have h1 := eqTwo f1 f _ hne
              have h2 : (f1.toList != f.toList) = false := by rw [bne, h1]; rfl
              have HST := Lib.hid (show (S.take (k + 1)).filter (notB (bl f)) = (S.take k).filter (notB (bl f)) by
                rw [hst, show notB (bl f) (f1, q1) = false by unfold notB; rw [show fB (f1, q1) = bl f1 from rfl, hne]; rfl]; simp)
              clear hne hst
              go_quiet (fail)
              generalize hw2 : World.drewN _ _ = w9
              have hq2 := below_draws hw2
              clear hw2
              go_wp2_with fail
              go_roundw
              case rel => exact ⟨k + 1, m, by omega, by first | rfl | go_num, by omega, by rw [Hid, HST.out]; exact hcur.below hq2, Below.then hbr hq2⟩
              case measure => simp [intOf]; omega
            | false =>
              have h1 := eqTwo f1 f _ hne
              have h2 : (f1.toList != f.toList) = true := by rw [bne, h1]; rfl
              have HST := Lib.hid (show (S.take (k + 1)).filter (notB (bl f)) = (S.take k).filter (notB (bl f)) ++ [(f1, q1)] by
                rw [hst, show notB (bl f) (f1, q1) = true by unfold notB; rw [show fB (f1, q1) = bl f1 from rfl, hne]; rfl]; simp)
              clear hne hst
              go_quiet (fail)
              generalize hw2 : World.drewN _ _ = w9
              have hq2 := below_draws hw2
              clear hw2
              replace hcur := hcur.below hq2
              replace hbr := Below.then hbr hq2
              obtain ⟨d1, d2⟩ := CS1.out _ hcur
              have hszr := hbr.size
              have HCU := Lib.hid hcur
              have hszB := hcur.sz
              clear hcur hcur1 z1
              go_wp2_with (first
                | (at_builtin; refine wpList_append_own _ rfl (.tmp 89) (.tmp 94) 28 rfl B2 33 i0 _ 2 24 Tryd.underlying28 hi hz0 hz1 hz2 rfl (by decide) _ m _ rfl (HCU.out.r2.alloc _) ⟨w9.heap.size, 0, none⟩ 1 1 [.string f1, .int .u8 (q1 : Int)] rfl rfl (newsN _ _ _ _ rfl) (by simp [Value.oneCell']) (by unfold maxLen; omega) (by omega) (by simp; omega) ?_; intro v2 w10 hown2 hg2 _; have HC2 := Lib.hid ((HCU.out.below ((Below.refl _ _).alloc (Nat.le_refl _) _)).add (R' := (S.take k).filter (notB (bl f)) ++ [(f1, q1)]) hg2 (by rw [subCells_append]; exact hown2)); have hb2 := Below.grown' (hbr.alloc hszr _) hg2 (by simp; omega) (fun r hr => by have := (own_lt HCU.out.r2 hr).2; omega); clear hown2 hg2))
              go_roundw
              case rel => exact ⟨k + 1, m + 1, by omega, by first | rfl | go_num, by omega, by rw [Hid, HST.out]; exact HC2.out, hb2⟩
              case measure => simp [intOf]; omega
        · have : k = S.length := by omega
          subst this
          have hcur := HC.out
          rw [List.take_length] at hcur
          have hS3 := del_ins S f q HF.out.sort
          have hF3 := delS_fine (setS_fine HF.out f q hfz) (bl f)
          have hat3 := at_del (insS S f q) (bl f) (ins_sort S f q HF.out.sort)
          have hat2 := at_ins S f q HF.out.sort
          rw [show (fun x => !(fB x == bl f)) = notB (bl f) from rfl] at hS3
          have hm3 : m = (S.filter (notB (bl f))).length := by
            have := hcur.r2.1
            rw [subCells_len] at this
            omega
          rw [hS3] at hat3
          generalize hS3g : S.filter (notB (bl f)) = S3 at *
          subst hm3
          obtain ⟨ap, cp, rfl, _, hcp⟩ := own_form hcur.r2
          have HCU := Lib.hid hcur
          have HS3 := Lib.hid hS3
          have HAT2 := Lib.hid hat2
          have HAT3 := Lib.hid hat3
          have z1 := cell_later x1 hbr
          have z2 := cell_later x2 hbr
          have hB := hbr.size
          clear hS3g hS3 hat2 hat3 hcp hcur HC hm hk hlt
          go_wp2_with fail
          go_at_call 14
          refine Calls.mono (subs_Subs _ _ _ S _ HCU.out.li HF.out.few) ?_
          rintro e w5 ⟨v5, rfl, ho5, hb5⟩
          obtain ⟨a5, c5, rfl, _, hc5⟩ := own_form ho5
          clear ho5
          go_wp2_with fail
          go_at_call 17
          refine Calls.mono (same_self HF.out.few hc5 (HCU.out.cells.below hb5)) ?_
          rintro e w6 ⟨rfl, hb56⟩
          have hb6 := Below.then hb5 hb56
          have hbx := Below.then hbr hb6
          have HC6 := Lib.hid (HCU.out.below hb6)
          have y1 := cell_later z1 hb6
          have y2 := cell_later z2 hb6
          clear hb5 hb56 hb6 HCU hc5 z1 z2
          go_wp2_with fail
          go_at_call 20
          refine Calls.mono (subs_Set _ _ _ S f q _ (hE1 _ hbx) HC6.out.li HF.out hbx.size hfz hmq) ?_
          rintro e w7 ⟨v7, rfl, hL7, hO7, hn7⟩
          have hb67 : Below w1.heap.size w6 w7 := hO7.below hbx.size (by
            rintro k (e | e)
            · rw [e]; exact HC6.out.li.lo
            · exact (HC6.out.li.own.lt e).2)
          have hb7 := hbx.trans hb67
          have HR1 := Lib.hid (own_only HC6.out.r1 hO7 (fun r hr => HC6.out.f1 r hr))
          have HR2 := Lib.hid (own_only HC6.out.r2 hO7 (fun r hr e => by have := HC6.out.lg r e; have := (own_lt HC6.out.r2 hr).2; omega))
          have x7 := cell_later x1 hb7
          have x8 := cell_later x2 hb7
          clear y1 y2
          rcases set_code S f q with ⟨hsc, hq2⟩ | hsc
          · rw [hsc] at hL7 ⊢
            dsimp only at *
            have t1 : ((q : Int) == 128) = false := by rw [beq_eq_false_iff_ne]; omega
            rw [hsc] at hF3
            dsimp only at hF3
            rw [HS3.out] at hF3
            have hF2 := setS_fine HF.out f q hfz
            rw [hsc] at hF2
            have hfo : ∀ k, Foot g v7 k → w1.heap.size ≤ k ∧ ∀ r, (Value.slice ap S3.length cp).ownBlock = some r → r ≠ k := by
              rintro k (e | e)
              · refine ⟨by rw [e]; exact hL7.lo, fun r hr he => ?_⟩
                have := HC6.out.lg g (Or.inl rfl); have := (own_lt HC6.out.r2 hr).2; omega
              · refine ⟨(hL7.own.lt e).2, fun r hr he => ?_⟩
                rcases hn7 k e with h | h
                · have := HC6.out.lg k (Or.inr h); have := (own_lt HC6.out.r2 hr).2; omega
                · have := (own_lt HC6.out.r2 hr).1; omega
            have HFO := Lib.hid hfo
            have HL7 := Lib.hid hL7
            have HF3 := Lib.hid hF3
            have HDR := Lib.hid (subs_Drop w1.heap.size g v7 (insS S f q) f w7 hL7 hF2 hb7.size)
            clear hL7 hF3 hF2 hfo hO7 hn7 hsc
            have hdr := HDR.out
            rw [HAT2.out, HS3.out] at hdr
            replace HDR := Lib.hid hdr
            clear hdr
            go_wp2_with fail
            go_at_call 21
            refine Calls.mono HDR.out ?_
            rintro e w8 ⟨v8, rfl, hL8, hO8, _⟩
            have hb8 := hb7.trans (hO8.below hb7.size (fun k hk => (HFO.out k hk).1))
            have HR8 := Lib.hid (own_only HR2.out hO8 (fun r hr e => (HFO.out r e).2 r hr rfl))
            have HL8 := Lib.hid hL8
            have x9 := cell_later x1 hb8
            clear hL8 hO8
            go_wp2_with fail
            go_at_call 14
            refine Calls.mono (subs_Subs _ _ _ S3 _ HL8.out HF3.out.few) ?_
            rintro e w9 ⟨v9, rfl, ho9, hb9⟩
            obtain ⟨a9, c9, rfl, _, hc9⟩ := own_form ho9
            clear ho9
            obtain ⟨ap', cp', he8, _, hc8⟩ := own_form HR8.out
            injection he8 with he1 _ he2
            subst he1 he2
            go_wp2_with fail
            go_at_call 17
            refine Calls.mono (same_self HF3.out.few hc9 (hc8.below hb9)) ?_
            rintro e w10 ⟨rfl, hb10⟩
            have hb11 := Below.then hb8 (Below.then hb9 hb10)
            have HDR2 := Lib.hid (subs_Drop w1.heap.size g v8 S3 f w10 ((HL8.out.below hb9).below hb10) HF3.out hb11.size)
            have hdr := HDR2.out
            rw [HAT3.out] at hdr
            replace HDR2 := Lib.hid hdr
            have HL10 := Lib.hid ((HL8.out.below hb9).below hb10)
            have x10 := cell_later x1 hb11
            clear hdr hc8 hc9
            go_wp2_with fail
            go_at_call 21
            refine Calls.mono HDR2.out ?_
            rintro e w12 ⟨v12, rfl, hL12, hO12, _⟩
            have hb12 := hb11.trans (hO12.below hb11.size (by
              rintro k (e | e)
              · rw [e]; exact HL10.out.lo
              · exact (HL10.out.own.lt e).2))
            clear hL12 hO12
            go_wp2_with (first
              | (go_at_call 10; refine Calls.mono (HAW.out _ (hE1 _ hb12)) ?_; rintro e w13 ⟨rfl, hb13⟩))
            go_ret
            exact ⟨rfl, Below.then hb01 (Below.then hb12 hb13)⟩
          · rw [hsc] at hL7 ⊢
            dsimp only at *
            have HL7 := Lib.hid hL7
            clear hL7 hF3 hO7 hn7 hsc
            go_wp2_with fail
            go_at_call 14
            refine Calls.mono (subs_Subs _ _ _ S _ HL7.out HF.out.few) ?_
            rintro e w9 ⟨v9, rfl, ho9, hb9⟩
            obtain ⟨a9, c9, rfl, _, hc9⟩ := own_form ho9
            clear ho9
            obtain ⟨ap', cp', he8, _, hc8⟩ := own_form HR1.out
            injection he8 with he1 _ he2
            subst he1 he2
            go_wp2_with fail
            go_at_call 17
            refine Calls.mono (same_self HF.out.few hc9 (hc8.below hb9)) ?_
            rintro e w10 ⟨rfl, hb10⟩
            have hb11 := Below.then hb7 (Below.then hb9 hb10)
            clear hc8 hc9
            go_wp2_with (first
              | (go_at_call 10; refine Calls.mono (HAW.out _ (hE1 _ hb11)) ?_; rintro e w13 ⟨rfl, hb13⟩))
            go_ret
            exact ⟨rfl, Below.then hb01 (Below.then hb11 hb13)⟩
end Go.Proofs.YtbhmflkhcadaeaaDoor
