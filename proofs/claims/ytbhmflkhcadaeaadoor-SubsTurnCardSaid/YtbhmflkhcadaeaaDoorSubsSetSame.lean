/- The walk of the list's Set where the filter stands there: its row stays where it is. Conditions: as for Set. -/
import Derived.Test.YtbhmflkhcadaeaaDoorSubsSet
namespace Go.Proofs.YtbhmflkhcadaeaaDoor
open Go.RowKit

def RetSame (B g : Nat) (v : Value) (code : Nat) (S' : List Sb) (w : World) (e : Ending) (w' : World) : Prop :=
  e = .returned (.int .u8 (code : Int)) ∧ LAt w' B g v S' ∧ Only (fun k => v.ownBlock = some k) w w'

set_option maxRecDepth 100000 in
theorem set_same (B g : Nat) (v : Value) (S : List Sb) (f : ByteArray) (q : Nat) (w : World) (hE : Env w) (hL : LAt w B g v S) (hS : Fine S) (hf : f.size ≤ 300) (hq : q < 256) (hok : okQ (bl f) q = true) (hat : atS S (bl f) = true) :
    Calls Tryd.prog 20 #[.pointer (some ⟨g, 0, none⟩), .string f, .int .u8 (q : Int)] w (RetSame B g v q (insS S f q) w) := by
  unfold okQ at hok
  rw [Bool.and_eq_true, decide_eq_true_eq] at hok
  obtain ⟨h2, hfl⟩ := hok
  have hF := topic_Filter f w hE (by omega)
  rw [hfl] at hF
  have HF := Lib.hid hF
  have HFI := Lib.hid (fun w1 (hb : Below w.heap.size w w1) => subs_find B g v S f w1 (hL.below hb) hS)
  rw [hat] at HFI
  obtain ⟨i1, i2, i3⟩ := ins_there S f q hat
  obtain ⟨rb, cap, cur, hv, hBr, hh, hnc, hcm, hsz, hxs⟩ : ∃ rb cap cur, v = .slice (some ⟨rb, 0, none⟩) S.length cap ∧ B ≤ rb ∧ w.heap[rb]? = some (.cells cur 33 (0, 0)) ∧ S.length ≤ cap ∧ cap ≤ maxLen ∧ cap * 2 ≤ cur.size ∧ cur.toList.take (S.length * 2) = subCells S := by
    rcases hL.own.2 with ⟨_, h0⟩ | h
    · omega
    · exact h
  subst hv
  have hgr : g ≠ rb := fun e => RowAt.ne hL.blk hL.own (by decide) (by rw [e]; rfl)
  obtain ⟨x, hx⟩ : ∃ x, S[posS S (bl f)]? = some x := ⟨_, List.getElem?_eq_getElem i3⟩
  have HL := Lib.hid (fun w1 (hb : Below w.heap.size w w1) => hL.below hb)
  have HC := Lib.hid (fun w1 (hb : Below w.heap.size w w1) => (show w1.cell? ⟨g, 0, none⟩ = some (.slice (some ⟨rb, 0, none⟩) S.length cap) ∧ w1.cell? ⟨rb, posS S (bl f) * 2 + 1, none⟩ = some (.int .u8 (x.2 : Int)) ∧ w1.frozen? ⟨rb, posS S (bl f) * 2 + 1, none⟩ = false from by
    have hl := hL.below hb
    refine ⟨hl.blk.cell, ?_, hl.own.frozenAt _⟩
    rw [hl.own.cellAt _ (by omega)]
    exact (subCells_at S _ x hx).2))
  have FIN := Lib.hid (show ∀ w1, Below w.heap.size w w1 → RetSame B g (.slice (some ⟨rb, 0, none⟩) S.length cap) q (insS S f q) w (.returned (.int .u8 (q : Int))) (w1.setCell ⟨rb, posS S (bl f) * 2 + 1, none⟩ (.int .u8 (q : Int))) from fun w1 hb => by
    have hl := hL.below hb
    refine ⟨rfl, ⟨?_, ?_, hL.lo⟩, (Only.of_below hb (fun k => (Value.slice (some ⟨rb, 0, none⟩) S.length cap).ownBlock = some k)).setCell (p := ⟨rb, posS S (bl f) * 2 + 1, none⟩) (Or.inl rfl) _⟩
    · exact (Below.heap_setCell w1 _ _ g hgr).trans hl.blk
    · have := hl.own.stored (posS S (bl f) * 2 + 1) (.int .u8 (q : Int))
      rw [i1, i2]
      exact this)
  generalize posS S (bl f) = p at *
  generalize insS S f q = S' at *
  have c1 : ¬ (2 : Int) < (q : Int) := by omega
  have hfew := hS.few
  clear hF hfl hL hS hat hx hh hxs hsz i1 i2
  go_enter Tryd.func20, Tryd.ntmps20
  go_wp2_with (first
    | (go_at_call 26; refine Calls.mono HF.out ?_; rintro e w1 ⟨rfl, hb⟩)
    | (go_at_call 34; refine Calls.mono (HFI.out _ hb) ?_; rintro e w2 ⟨rfl, hb2⟩; replace hb := Below.then hb hb2; obtain ⟨hc1, hc2, hc3⟩ := HC.out _ hb))
  go_ret
  exact FIN.out _ hb
end Go.Proofs.YtbhmflkhcadaeaaDoor
