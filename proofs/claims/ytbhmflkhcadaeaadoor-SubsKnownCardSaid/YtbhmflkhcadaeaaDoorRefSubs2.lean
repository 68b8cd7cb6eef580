/- The walks of the reference's Drop, Clear and Copy. Conditions: the list lies behind its pointer. -/
import Derived.Test.YtbhmflkhcadaeaaDoorRefSubs
namespace Go.Proofs.YtbhmflkhcadaeaaDoor
open Go.RowKit

theorem newsN (w : World) (T : TypeId) (xs : List Value) (B : Nat) (hB : w.heap.size = B) (j : Nat) (u : Value) (h : xs[j]? = some u) : (w.alloc (.cells xs.toArray T)).cell? ((⟨B, 0, none⟩ : Addr).add j) = some u := by
  subst hB
  rw [Addr.add_lit, Nat.zero_add, cell_of_row _ _ _ _ _ _ (heap_alloc_new w _)]
  simpa using h
/-- What the reference's acts leave of its list: the new list; all else as it was; the row nil or in a new block. -/
def RAfter (B g : Nat) (v : Value) (S' : List Sb) (w w' : World) : Prop := ∃ v', RAt w' B g v' S' ∧ Only (Foot g v) w w' ∧ (∀ r, v'.ownBlock = some r → w.heap.size ≤ r)
theorem stored_rlist {w w4 : World} {B g n c : Nat} {v : Value} {S S' : List Sb} {a : Option Addr} (hL : RAt w B g v S) (hB : B ≤ w.heap.size) (hb : Below w.heap.size w w4)
    (hown : w4.ownsRow w.heap.size 33 2 (.slice a n c) n (subCells S')) (hn : n = S'.length) : RAfter B g v S' w (w4.setCell ⟨g, 0, none⟩ (.slice a n c)) := by
  subst hn
  have hl := hL.below hb
  refine ⟨_, ⟨hl.blk.set _, ?_, hL.lo⟩, (Only.of_below hb _).setCell (Or.inl (Or.inl rfl)) _, fun r hr => (own_lt hown hr).2⟩
  refine RowAt.base (B := w.heap.size) ?_ hB
  refine (RowAt.of_own hown).only ((Only.refl (fun k => k = g) _).setCell (Or.inl rfl) _) ?_
  rintro r hr rfl
  have := (own_lt hown hr).2
  have := hL.blk.lt
  omega
def notB (f : Bs) (x : Sb) : Bool := !(fB x == f)
theorem filter_take_succ (S : List Sb) (f : Bs) (k : Nat) (x : Sb) (hx : S[k]? = some x) : (S.take (k + 1)).filter (notB f) = (S.take k).filter (notB f) ++ if notB f x then [x] else [] := by
  rw [List.take_add_one, hx, List.filter_append]
  simp [List.filter_cons]

set_option maxRecDepth 100000 in
theorem ref15_Drop (B g : Nat) (v : Value) (S : List Sb) (f : ByteArray) (w : World) (hL : RAt w B g v S) (hB : B ≤ w.heap.size) (hfew : S.length ≤ 1000) :
    Calls Tryd.prog 28 #[.pointer (some ⟨g, 0, none⟩), .string f] w fun e w' => e = .returned (.bool (hasS S (bl f))) ∧ RAfter B g v (S.filter (notB (bl f))) w w' := by
  obtain ⟨i0, hi, hz0, hz1, hz2⟩ := info_parts infoSub
  have hH := Lib.hid (ref15_Has B g v S f w hL hfew)
  have HL := Lib.hid (fun w1 (hb : Below w.heap.size w w1) => hL.below hb)
  have FIN := Lib.hid (show ∀ (w4 : World) (a : Option Addr) (n c : Nat) (T : List Sb), Below w.heap.size w w4 → S.filter (notB (bl f)) = T → n = T.length → w4.ownsRow w.heap.size 33 2 (.slice a n c) n (subCells T) → RAfter B g v (S.filter (notB (bl f))) w (w4.setCell ⟨g, 0, none⟩ (.slice a n c)) from fun w4 a n c T hb hT hn hown => by
    subst hT
    exact stored_rlist hL hB hb hown hn)
  obtain ⟨a, c, hv, hc, _⟩ := hL.own.form
  subst hv
  generalize hasS S (bl f) = was at *
  clear hL
  go_enter Tryd.func28, Tryd.ntmps28
  go_wp2_with (go_at_call 41; refine Calls.mono hH.out ?_; rintro e w1 ⟨rfl, rfl⟩)
  go_loopw [6, 7] (fun p i wr => ∃ (k m : Nat), k ≤ S.length ∧ i = .int .i64 k ∧ m ≤ k ∧ Hid (m = ((S.take k).filter (notB (bl f))).length ∧ wr.ownsRow w.heap.size 33 2 p m (subCells ((S.take k).filter (notB (bl f))))) ∧ Below w.heap.size w wr) (fun _ i _ => S.length - (intOf i).toNat)
  case atStart => exact ⟨0, 0, by omega, rfl, by omega, ⟨rfl, World.ownsRow_nil _ _ _ _⟩, Below.refl _ _⟩
  case round =>
    obtain ⟨k, m, hk, rfl, hm, HROW, hbr⟩ := hrel
    have hlr := HL.out _ hbr
    have hcell := hlr.blk.cell
    by_cases hlt : k < S.length
    · obtain ⟨x, hx⟩ : ∃ x, S[k]? = some x := ⟨_, List.getElem?_eq_getElem hlt⟩
      obtain ⟨a', c', hv, _, hcells⟩ := hlr.own.form
      injection hv with e1 _ e2
      subst e1 e2
      obtain ⟨bb, o, rfl, c1, c2⟩ := hcells.sub hx
      have hst := filter_take_succ S (bl f) k x hx
      have hsz := hbr.size
      obtain ⟨y, q⟩ := x
      dsimp only at *
      clear hx hcells hlr
      cases he : (bl y == bl f)
      · have h1 := eqTwo y f _ he
        have h2 : (y.toList != f.toList) = true := by rw [bne, h1]; rfl
        rw [show notB (bl f) (y, q) = true by unfold notB; rw [show fB (y, q) = bl y from rfl, he]; rfl, if_pos rfl] at hst
        have HST := Lib.hid hst
        clear he hst
        go_wp2_with (first
          | (at_builtin; refine wpList_append_own _ rfl (.tmp 30) (.tmp 38) 28 rfl w.heap.size 33 i0 _ 2 24 Tryd.underlying28 hi hz0 hz1 hz2 rfl (by decide) _ m _ rfl (HROW.out.2.alloc _) ⟨wr.heap.size, 0, none⟩ 1 1 [.string y, .int .u8 (q : Int)] rfl rfl (newsN _ _ _ _ rfl) (by simp [Value.oneCell']) (by unfold maxLen; omega) (by omega) (by simp; omega) ?_; intro v2 w2 hown2 hg2 _; have hb2 := Below.grown' (hbr.alloc hsz _) hg2 (by simp; omega) (fun r hr => (own_lt HROW.out.2 hr).2); have HROW2 := Lib.hid hown2; clear hown2 hg2))
        go_roundw
        case rel => exact ⟨k + 1, m + 1, by omega, by first | rfl | go_num, by omega, ⟨by rw [HST.out, List.length_append, ← HROW.out.1]; rfl, by rw [HST.out, subCells_append]; exact HROW2.out⟩, hb2⟩
        case measure => simp [intOf]; omega
      · have h1 := eqTwo y f _ he
        have h2 : (y.toList != f.toList) = false := by rw [bne, h1]; rfl
        rw [show notB (bl f) (y, q) = false by unfold notB; rw [show fB (y, q) = bl y from rfl, he]; rfl] at hst
        have HST := Lib.hid (hst.trans (by simp : _ = (S.take k).filter (notB (bl f))))
        clear he hst
        go_wp2_with fail
        go_roundw
        case rel => exact ⟨k + 1, m, by omega, by first | rfl | go_num, by omega, ⟨by rw [HST.out]; exact HROW.out.1, by rw [HST.out]; exact HROW.out.2⟩, hbr⟩
        case measure => simp [intOf]; omega
    · have : k = S.length := by omega
      subst this
      have hfr := hlr.blk.frozen 0
      have HK := Lib.hid HROW.out.1
      have hrow := HROW.out.2
      rw [List.take_length] at hrow
      rw [List.take_length] at HK
      obtain ⟨a3, c3, hp3, _, _⟩ := own_form hrow
      subst hp3
      have HR := Lib.hid hrow
      clear hrow hlr
      go_wp2_with fail
      go_ret
      exact ⟨rfl, FIN.out _ _ _ _ _ hbr rfl HK.out HR.out⟩
end Go.Proofs.YtbhmflkhcadaeaaDoor
