import Derived.Test.YtmppkgonkkffhaaDoorSubsList
namespace Go.Proofs.YtmppkgonkkffhaaDoor
open Go.RowKit
def Foot (g : Nat) (v : Value) (k : Nat) : Prop := k = g ∨ v.ownBlock = some k
def RetSet (B g : Nat) (v : Value) (code : Nat) (S' : List Sb) (w : World) (e : Ending) (w' : World) : Prop :=
  ∃ v', e = .returned (.int .u8 (code : Int)) ∧ LAt w' B g v' S' ∧ Only (Foot g v) w w' ∧ (∀ r, v'.ownBlock = some r → v.ownBlock = some r ∨ w.heap.size ≤ r)
theorem RetSet.same {B g : Nat} {v : Value} {S : List Sb} {code : Nat} {w w' : World} (hL : LAt w B g v S) (hb : Below w.heap.size w w') : RetSet B g v code S w (.returned (.int .u8 (code : Int))) w' :=
  ⟨v, rfl, hL.below hb, Only.of_below hb _, fun r h => Or.inl h⟩
theorem set_refused (B g : Nat) (v : Value) (S : List Sb) (f : ByteArray) (q : Nat) (w : World) (hE : Env w) (hL : LAt w B g v S) (hf : f.size ≤ 300) (hq : q < 256) (hno : okQ (bl f) q = false) :
    Calls Tryd.prog 44 #[.pointer (some ⟨g, 0, none⟩), .string f, .int .u8 (q : Int)] w (RetSet B g v 128 S w) := by
  have FIN := Lib.hid (show ∀ w', Below w.heap.size w w' → RetSet B g v 128 S w (.returned (.int .u8 128)) w' from fun w' hb => RetSet.same hL hb); clear hL; unfold okQ at hno; by_cases h2 : q ≤ 2
  · have hno : filterL (bl f) = false := by simpa [h2] using hno
    have hF := topic_Filter f w hE (by omega); rw [hno] at hF; have HF := Lib.hid hF; have c1 : ¬ (2 : Int) < (q : Int) := by omega
    clear hF hno; go_enter Tryd.func44, Tryd.ntmps44
    go_wp2_with (go_at_call 62; refine Calls.mono HF.out ?_; rintro e w1 ⟨rfl, hb⟩)
    go_ret
    exact FIN.out _ hb
  · have c1 : (2 : Int) < (q : Int) := by omega
    clear hno; go_enter Tryd.func44, Tryd.ntmps44
    go_wp2_with fail
    go_ret
    exact FIN.out _ (Below.refl _ _)
theorem set_full (B g : Nat) (v : Value) (S : List Sb) (f : ByteArray) (q : Nat) (w : World) (hE : Env w) (hL : LAt w B g v S) (hS : Fine S) (hf : f.size ≤ 300) (hq : q < 256) (hok : okQ (bl f) q = true) (hat : atS S (bl f) = false) (hfull : ¬ S.length < 16) :
    Calls Tryd.prog 44 #[.pointer (some ⟨g, 0, none⟩), .string f, .int .u8 (q : Int)] w (RetSet B g v 128 S w) := by
  have FIN := Lib.hid (show ∀ w', Below w.heap.size w w' → RetSet B g v 128 S w (.returned (.int .u8 128)) w' from fun w' hb => RetSet.same hL hb); unfold okQ at hok; rw [Bool.and_eq_true, decide_eq_true_eq] at hok; obtain ⟨h2, hfl⟩ := hok; have hF := topic_Filter f w hE (by omega); rw [hfl] at hF; have HF := Lib.hid hF; have HFI := Lib.hid (fun w1 (hb : Below w.heap.size w w1) => subs_find B g v S f w1 (hL.below hb) hS); rw [hat] at HFI; obtain ⟨a, c, rfl, hc, hcells⟩ := hL.own.form; have HL := Lib.hid (fun w1 (hb : Below w.heap.size w w1) => (hL.below hb).blk.cell); have c1 : ¬ (2 : Int) < (q : Int) := by omega
  have hfew := hS.few; have c2 : ((S.length : Int) == 16) = true := by rw [beq_iff_eq]; omega
  clear hF hfl hcells hL hS hat; go_enter Tryd.func44, Tryd.ntmps44
  go_wp2_with (first
    | (go_at_call 62; refine Calls.mono HF.out ?_; rintro e w1 ⟨rfl, hb⟩)
    | (go_at_call 63; refine Calls.mono (HFI.out _ hb) ?_; rintro e w2 ⟨rfl, hb2⟩; replace hb := Below.then hb hb2; have hcell := HL.out _ hb))
  go_ret
  exact FIN.out _ hb
theorem ins_there : ∀ (S : List Sb) (f : ByteArray) (q : Nat), atS S (bl f) = true →
    (insS S f q).length = S.length ∧ subCells (insS S f q) = (subCells S).set (posS S (bl f) * 2 + 1) (.int .u8 (q : Int)) ∧ posS S (bl f) < S.length
  | [], f, q, h => by cases h
  | x :: r, f, q, h => by
    by_cases hl : lessB (fB x) (bl f) = true
    · rw [atS_cons, if_pos hl] at h
      obtain ⟨h1, h2, h3⟩ := ins_there r f q h; rw [ins_cons_lt x r f q hl, posS_cons, if_pos hl]; refine ⟨by simp [h1], ?_, by simp; omega⟩; rw [subCells_cons, subCells_cons, h2, show (posS r (bl f) + 1) * 2 + 1 = posS r (bl f) * 2 + 1 + 1 + 1 by omega]; rfl
    · rw [atS_cons, if_neg hl, beq_iff_eq] at h
      have hx : x.1 = f := bl_inj h; rw [ins_cons_eq x r f q h, posS_cons, if_neg hl]; refine ⟨rfl, ?_, by simp⟩; rw [subCells_cons, subCells_cons, hx]; rfl
set_option maxRecDepth 100000 in
theorem set_there (B g : Nat) (v : Value) (S : List Sb) (f : ByteArray) (q : Nat) (w : World) (hE : Env w) (hL : LAt w B g v S) (hS : Fine S) (hf : f.size ≤ 300) (hq : q < 256) (hok : okQ (bl f) q = true) (hat : atS S (bl f) = true) :
    Calls Tryd.prog 44 #[.pointer (some ⟨g, 0, none⟩), .string f, .int .u8 (q : Int)] w (RetSet B g v q (insS S f q) w) := by
  unfold okQ at hok; rw [Bool.and_eq_true, decide_eq_true_eq] at hok; obtain ⟨h2, hfl⟩ := hok; have hF := topic_Filter f w hE (by omega); rw [hfl] at hF; have HF := Lib.hid hF; have HFI := Lib.hid (fun w1 (hb : Below w.heap.size w w1) => subs_find B g v S f w1 (hL.below hb) hS); rw [hat] at HFI; obtain ⟨i1, i2, i3⟩ := ins_there S f q hat; obtain ⟨rb, cap, cur, hv, hBr, hh, hnc, hcm, hsz, hxs⟩ : ∃ rb cap cur, v = .slice (some ⟨rb, 0, none⟩) S.length cap ∧ B ≤ rb ∧ w.heap[rb]? = some (.cells cur 77 (0, 0)) ∧ S.length ≤ cap ∧ cap ≤ maxLen ∧ cap * 2 ≤ cur.size ∧ cur.toList.take (S.length * 2) = subCells S := by
    rcases hL.own.2 with ⟨_, h0⟩ | h
    · omega
    · exact h
  subst hv; have hgr : g ≠ rb := fun e => RowAt.ne hL.blk hL.own (by decide) (by rw [e]; rfl)
  obtain ⟨x, hx⟩ : ∃ x, S[posS S (bl f)]? = some x := ⟨_, List.getElem?_eq_getElem i3⟩
  have HL := Lib.hid (fun w1 (hb : Below w.heap.size w w1) => hL.below hb); have HC := Lib.hid (fun w1 (hb : Below w.heap.size w w1) => (show w1.cell? ⟨g, 0, none⟩ = some (.slice (some ⟨rb, 0, none⟩) S.length cap) ∧ w1.cell? ⟨rb, posS S (bl f) * 2 + 1, none⟩ = some (.int .u8 (x.2 : Int)) ∧ w1.frozen? ⟨rb, posS S (bl f) * 2 + 1, none⟩ = false from by
    have hl := hL.below hb; refine ⟨hl.blk.cell, ?_, hl.own.frozenAt _⟩; rw [hl.own.cellAt _ (by omega)]; exact (subCells_at S _ x hx).2))
  have FIN := Lib.hid (show ∀ w1, Below w.heap.size w w1 → RetSet B g (.slice (some ⟨rb, 0, none⟩) S.length cap) q (insS S f q) w (.returned (.int .u8 (q : Int))) (w1.setCell ⟨rb, posS S (bl f) * 2 + 1, none⟩ (.int .u8 (q : Int))) from fun w1 hb => by
    have hl := hL.below hb; refine ⟨_, rfl, ⟨?_, ?_, hL.lo⟩, (Only.of_below hb _).setCell (Or.inl (Or.inr rfl)) _, fun r h => Or.inl h⟩
    · exact (Below.heap_setCell w1 _ _ g hgr).trans hl.blk
    · have := hl.own.stored (posS S (bl f) * 2 + 1) (.int .u8 (q : Int))
      rw [i1, i2]; exact this)
  generalize posS S (bl f) = p at *; generalize insS S f q = S' at *; have c1 : ¬ (2 : Int) < (q : Int) := by omega
  have hfew := hS.few; clear hF hfl hL hS hat hx hh hxs hsz i1 i2; go_enter Tryd.func44, Tryd.ntmps44
  go_wp2_with (first
    | (go_at_call 62; refine Calls.mono HF.out ?_; rintro e w1 ⟨rfl, hb⟩)
    | (go_at_call 63; refine Calls.mono (HFI.out _ hb) ?_; rintro e w2 ⟨rfl, hb2⟩; replace hb := Below.then hb hb2; obtain ⟨hc1, hc2, hc3⟩ := HC.out _ hb))
  go_ret
  exact FIN.out _ hb
end Go.Proofs.YtmppkgonkkffhaaDoor
