/- The walks of the reference's list: Has, Best, Drop, Clear. Conditions: the list lies behind its pointer. -/
import Derived.Test.YtbhmflkhcadaeaaDoorSubsClear
import Derived.Test.YtbhmflkhcadaeaaDoorSubsBestWalk
import Derived.Test.YtbhmflkhcadaeaaDoorRefTopic3
namespace Go.Proofs.YtbhmflkhcadaeaaDoor
open Go.RowKit

/-- The reference's list behind block g. -/
structure RAt (w : World) (B g : Nat) (v : Value) (S : List Sb) : Prop where
  blk : OneAt w g 30 v
  own : RowAt w B 33 2 v S.length (subCells S)
  lo : B ≤ g
theorem RAt.only {F : Nat → Prop} {w w' : World} {B g : Nat} {v : Value} {S : List Sb} (h : RAt w B g v S) (k : Only F w w') (h1 : ¬ F g) (h2 : ∀ r, v.ownBlock = some r → ¬ F r) : RAt w' B g v S :=
  ⟨h.blk.only k h1, h.own.only k h2, h.lo⟩
theorem RAt.below {w w' : World} {B g : Nat} {v : Value} {S : List Sb} (h : RAt w B g v S) (k : Below w.heap.size w w') : RAt w' B g v S :=
  h.only (Only.of_below k (fun _ => False)) (fun h => h) (fun _ _ h => h)

theorem hasS_drop (S : List Sb) (f : Bs) (k : Nat) (x : Sb) (hx : S[k]? = some x) : hasS (S.drop k) f = (fB x == f || hasS (S.drop (k + 1)) f) := by
  obtain ⟨h1, h2⟩ := List.getElem?_eq_some_iff.1 hx
  rw [List.drop_eq_getElem_cons h1, h2]; rfl

theorem ref15_Has (B g : Nat) (v : Value) (S : List Sb) (f : ByteArray) (w : World) (hL : RAt w B g v S) (hfew : S.length ≤ 1000) :
    Calls Tryd.prog 41 #[.pointer (some ⟨g, 0, none⟩), .string f] w fun e w' => e = .returned (.bool (hasS S (bl f))) ∧ w = w' := by
  obtain ⟨a, c, rfl, hc, hcells⟩ := hL.own.form
  have hcell := hL.blk.cell
  have FIN := Lib.hid (show ∀ (v : Bool) (w' : World), hasS S (bl f) = v → w = w' → Ending.returned (.bool v) = .returned (.bool (hasS S (bl f))) ∧ w = w' from by rintro v w' rfl rfl; exact ⟨rfl, rfl⟩)
  clear hL
  go_enter Tryd.func41, Tryd.ntmps41
  go_wp2_with fail
  go_loopw [5] (fun i wr => ∃ k : Nat, k ≤ S.length ∧ i = .int .i64 k ∧ Hid (hasS (S.drop k) (bl f) = hasS S (bl f)) ∧ w = wr) (fun i _ => S.length - (intOf i).toNat)
  case atStart => exact ⟨0, by omega, rfl, rfl, rfl⟩
  case round =>
    obtain ⟨k, hk, rfl, HP, rfl⟩ := hrel
    by_cases hlt : k < S.length
    · obtain ⟨x, hx⟩ : ∃ x, S[k]? = some x := ⟨_, List.getElem?_eq_getElem hlt⟩
      obtain ⟨b, o, rfl, c1, c2⟩ := hcells.sub hx
      have HD := Lib.hid (hasS_drop S (bl f) k x hx)
      obtain ⟨y, q⟩ := x
      dsimp only at *
      clear hx
      cases he : (bl y == bl f)
      · have h1 := eqTwo y f _ he
        have HE := Lib.hid he
        clear he
        go_wp2_with fail
        go_roundw
        case rel => exact ⟨k + 1, by omega, by first | rfl | go_num, by rw [Hid, ← HP.out, HD.out, show fB (y, q) = bl y from rfl, HE.out]; rfl, by first | rfl | trivial⟩
        case measure => simp [intOf]; omega
      · have h1 := eqTwo y f _ he
        have HE := Lib.hid he
        clear he
        go_wp2_with fail
        go_ret
        exact FIN.out _ _ (by rw [← HP.out, HD.out, show fB (y, q) = bl y from rfl, HE.out]; rfl) rfl
    · have : k = S.length := by omega
      subst this
      go_wp2_with fail
      go_ret
      exact FIN.out _ _ (by rw [← HP.out, List.drop_eq_nil_of_le (Nat.le_refl _)]; rfl) rfl

set_option maxRecDepth 100000 in
theorem ref15_Best (B g : Nat) (v : Value) (S : List Sb) (n : ByteArray) (w : World) (hL : RAt w B g v S) (hF : Fine S) (hn : n.size < 4294967281) :
    Calls Tryd.prog 30 #[.pointer (some ⟨g, 0, none⟩), .string n] w fun e w' =>
      e = .returned (.tuple #[.int .u8 ((bestS S (bl n)).1 : Nat), .bool (bestS S (bl n)).2]) ∧ Below w.heap.size w w' := by
  have hfew := hF.few
  have hM := Lib.hid (fun f w hf => ref07_Match f n w hf hn)
  have HG := Lib.hid hF.good
  have HL := Lib.hid (fun w1 (hb : Below w.heap.size w w1) => hL.below hb)
  have FIN := Lib.hid (show ∀ (b : Nat) (s : Bool) (w' : World), bestS S (bl n) = (b, s) → Below w.heap.size w w' → Ending.returned (.tuple #[.int .u8 (b : Int), .bool s]) = .returned (.tuple #[.int .u8 ((bestS S (bl n)).1 : Nat), .bool (bestS S (bl n)).2]) ∧ Below w.heap.size w w' from by
    intro b s w' h hb; rw [h]; exact ⟨rfl, hb⟩)
  obtain ⟨a, c, rfl, hc, _⟩ := hL.own.form
  clear hL hF
  go_enter Tryd.func30, Tryd.ntmps30
  go_wp2_with fail
  go_loopw [6, 7, 8] (fun p q i wr => ∃ (k b : Nat) (s : Bool), k ≤ S.length ∧ i = .int .i64 k ∧ p = .int .u8 b ∧ q = .bool s ∧ Hid ((S.drop k).foldl (bestF (bl n)) (b, s) = bestS S (bl n)) ∧ Below w.heap.size w wr) (fun _ _ i _ => S.length - (intOf i).toNat)
  case atStart => exact ⟨0, 0, false, by omega, rfl, rfl, rfl, rfl, Below.refl _ _⟩
  case round =>
    obtain ⟨k, b, s, hk, rfl, rfl, rfl, HP, hbr⟩ := hrel
    have hlr := HL.out _ hbr
    have hcell := hlr.blk.cell
    by_cases hlt : k < S.length
    · obtain ⟨x, hx⟩ : ∃ x, S[k]? = some x := ⟨_, List.getElem?_eq_getElem hlt⟩
      obtain ⟨a', c', hv, _, hcells⟩ := hlr.own.form
      injection hv with e1 _ e2
      subst e1 e2
      obtain ⟨bb, o, rfl, c1, c2⟩ := hcells.sub hx
      have hg := HG.out x (List.mem_of_getElem? hx)
      have hst := best_step S (bl n) k x hx (b, s)
      have hq := hM.out x.1
      have hxs : x.1.size < 4294967281 := by omega
      have hx2 := hg.2.1
      obtain ⟨f, q⟩ := x
      dsimp only at *
      clear hcells hlr
      cases hm : matchL (bl f) (bl n)
      · rw [hm] at hq
        have HST := Lib.hid (hst.trans (by unfold bestF; rw [show fB (f, q) = bl f from rfl, hm]; rfl : _ = (S.drop (k + 1)).foldl (bestF (bl n)) (b, s)))
        have HQ := Lib.hid hq
        clear hq hst hm hg hx
        go_wp2_with (go_at_call 42; refine Calls.mono (HQ.out _ hxs) ?_; rintro e w2 ⟨rfl, hb2⟩; have hb3 := Below.then hbr hb2)
        go_roundw
        case rel => exact ⟨k + 1, b, s, by omega, by first | rfl | go_num, by first | rfl | trivial, by first | rfl | trivial, HST.out.symm.trans HP.out, hb3⟩
        case measure => simp [intOf]; omega
      · rw [hm] at hq
        have HST := Lib.hid (hst.trans (by unfold bestF; rw [show fB (f, q) = bl f from rfl, hm]; rfl : _ = (S.drop (k + 1)).foldl (bestF (bl n)) (max b q, true)))
        have HQ := Lib.hid hq
        clear hq hst hm hg hx
        by_cases hbq : (b : Int) < (q : Int)
        · have hmx : max b q = q := by omega
          rw [hmx] at HST
          go_wp2_with (go_at_call 42; refine Calls.mono (HQ.out _ hxs) ?_; rintro e w2 ⟨rfl, hb2⟩; have hb3 := Below.then hbr hb2; have hcell2 := cell_later hcell hb2; have c12 := cell_later c1 hb2; have c22 := cell_later c2 hb2)
          go_roundw
          case rel => exact ⟨k + 1, q, true, by omega, by first | rfl | go_num, by first | rfl | trivial, by first | rfl | trivial, HST.out.symm.trans HP.out, hb3⟩
          case measure => simp [intOf]; omega
        · have hmx : max b q = b := by omega
          rw [hmx] at HST
          go_wp2_with (go_at_call 42; refine Calls.mono (HQ.out _ hxs) ?_; rintro e w2 ⟨rfl, hb2⟩; have hb3 := Below.then hbr hb2; have hcell2 := cell_later hcell hb2; have c12 := cell_later c1 hb2; have c22 := cell_later c2 hb2)
          go_roundw
          case rel => exact ⟨k + 1, b, true, by omega, by first | rfl | go_num, by first | rfl | trivial, by first | rfl | trivial, HST.out.symm.trans HP.out, hb3⟩
          case measure => simp [intOf]; omega
    · have : k = S.length := by omega
      subst this
      clear hlr
      go_wp2_with fail
      go_ret2
      exact FIN.out _ _ _ (by rw [← HP.out, List.drop_eq_nil_of_le (Nat.le_refl _)]; rfl) hbr
end Go.Proofs.YtbhmflkhcadaeaaDoor
