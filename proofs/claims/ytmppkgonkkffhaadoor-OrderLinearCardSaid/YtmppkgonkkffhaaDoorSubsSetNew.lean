import Derived.Test.YtmppkgonkkffhaaDoorSubsSet
namespace Go.Proofs.YtmppkgonkkffhaaDoor
open Go.RowKit
theorem ins_cells (S : List Sb) (f : ByteArray) (q : Nat) (h : atS S (bl f) = false) : (subCells (S.take (posS S (bl f))) ++ [.string f, .int .u8 (q : Int)]) ++ subCells (S.drop (posS S (bl f))) = subCells (insS S f q) := by
  unfold insS; rw [h, subCells_append, subCells_cons, List.append_assoc]; rfl
theorem stored_list {w w4 : World} {B g base n c : Nat} {v : Value} {S S' : List Sb} {a : Option Addr} {code : Nat} (hL : LAt w B g v S) (hB : B ≤ w.heap.size) (hb : Below w.heap.size w w4) (hbase : w.heap.size ≤ base)
    (hown : w4.ownsRow base 77 2 (.slice a n c) n (subCells S')) (hn : n = S'.length) : RetSet B g v code S' w (.returned (.int .u8 (code : Int))) (w4.setCell ⟨g, 0, none⟩ (.slice a n c)) := by
  subst hn; have hl := hL.below hb; refine ⟨_, rfl, ⟨hl.blk.set _, ?_, hL.lo⟩, (Only.of_below hb _).setCell (Or.inl (Or.inl rfl)) _, fun r hr => Or.inr (Nat.le_trans hbase (own_lt hown hr).2)⟩; refine RowAt.base (B := base) ?_ (by omega); refine (RowAt.of_own hown).only ((Only.refl (fun k => k = g) _).setCell (Or.inl rfl) _) ?_; rintro r hr rfl; have := (own_lt hown hr).2; have := hL.blk.lt; omega
set_option maxHeartbeats 2000000 in
set_option maxRecDepth 100000 in
theorem set_new (B g : Nat) (v : Value) (S : List Sb) (f : ByteArray) (q : Nat) (w : World) (hE : Env w) (hL : LAt w B g v S) (hS : Fine S) (hB : B ≤ w.heap.size) (hf : f.size ≤ 300) (hq : q < 256) (hok : okQ (bl f) q = true) (hat : atS S (bl f) = false) (hroom : S.length < 16) :
    Calls Tryd.prog 44 #[.pointer (some ⟨g, 0, none⟩), .string f, .int .u8 (q : Int)] w (RetSet B g v q (insS S f q) w) := by
  unfold okQ at hok; rw [Bool.and_eq_true, decide_eq_true_eq] at hok; obtain ⟨h2, hfl⟩ := hok; obtain ⟨i0, hi, hz0, hz1, hz2⟩ := info_parts infoSub; have hF := topic_Filter f w hE (by omega); rw [hfl] at hF; have HF := Lib.hid hF; have HFI := Lib.hid (fun w1 (hb : Below w.heap.size w w1) => subs_find B g v S f w1 (hL.below hb) hS); rw [hat] at HFI; obtain ⟨a, c, rfl, hc, hcells⟩ := hL.own.form; have HL := Lib.hid (fun w1 (hb : Below w.heap.size w w1) => hL.below hb); have hp := posS_le S (bl f); have c1 : ¬ (2 : Int) < (q : Int) := by omega
  have c2 : ((S.length : Int) == 16) = false := by rw [beq_eq_false_iff_ne]; omega
  have hic := ins_cells S f q hat; have hil := ins_len S f q; rw [hat] at hil; simp only [Bool.false_eq_true, if_false] at hil; generalize posS S (bl f) = p at *; have HCUT := Lib.hid (fun w1 (hb : Below w.heap.size w w1) => cells_cut (hcells.below hb) hp hc); have HN2 := Lib.hid (show (if c = p then a else Option.map (fun x => x.add (p * 2)) a) = none → c - p = 0 from fun h => by
    rcases hL.own.2 with ⟨hv, _⟩ | ⟨_, _, _, hv, _⟩
    · injection hv with _ _ hv
      omega
    · injection hv with hv
      subst hv; split at h
      · cases h
      · cases h)
  have HDL := Lib.hid (show (subCells (S.drop p)).length = (S.length - p) * 2 by rw [subCells_len, List.length_drop]); have HDO := Lib.hid (subCells_one (S.drop p)); have FIN := Lib.hid (show ∀ (w4 : World) (base : Nat) (a2 : Option Addr) (c2 : Nat), Below w.heap.size w w4 → w.heap.size ≤ base → w4.ownsRow base 77 2 (.slice a2 (p + 1 + (S.length - p)) c2) (p + 1 + (S.length - p)) ((subCells (S.take p) ++ [.string f, .int .u8 (q : Int)]) ++ subCells (S.drop p)) →
      RetSet B g (.slice a S.length c) q (insS S f q) w (.returned (.int .u8 (q : Int))) (w4.setCell ⟨g, 0, none⟩ (.slice a2 (p + 1 + (S.length - p)) c2)) from fun w4 base a2 c2 hb hbase hown => by
    rw [hic] at hown; exact stored_list hL hB hb hbase hown (by rw [hil]; omega))
  clear hic hil; have g1 : (0 : Int) ≤ (p : Int) := by omega
  have g2 : (p : Int) ≤ (S.length : Int) := by omega
  have g3 : (p : Int) ≤ (c : Int) := by omega
  have hgl := hL.blk.lt; have HN := Lib.hid (show a = none → p = 0 ∧ p = 0 from fun h => by
    rcases hL.own.2 with ⟨_, h0⟩ | ⟨_, _, _, hv, _⟩
    · omega
    · rw [h] at hv; cases hv)
  have hlt : (subCells (S.take p)).length = p * 2 := by rw [subCells_len, List.length_take, Nat.min_eq_left hp]
  have HOLD := Lib.hid (fun w1 (hb : Below w.heap.size w w1) => (show ∀ b, a = some b → ∀ j u, (subCells (S.take p))[j]? = some u → w1.cell? (b.add j) = some u from by
    intro b hab j u hu; have hj : (subCells S)[j]? = some u := by
      rw [← List.take_append_drop p S, subCells_append, List.getElem?_append_left (List.getElem?_eq_some_iff.1 hu).1]; exact hu
    obtain ⟨b', o', h1, h2⟩ := (hcells.below hb) j u hj; rw [h1] at hab; injection hab with hab
    subst hab; rw [Addr.add_lit]; exact h2))
  have HT := Lib.hid hlt; have HO := Lib.hid (show ∀ u ∈ [Value.string f, Value.int .u8 (q : Int)], u.oneCell' = true from by simp [Value.oneCell']); clear hlt; clear hF hfl hcells hL hS hat; go_enter Tryd.func44, Tryd.ntmps44
  go_wp2_with (first
    | (go_at_call 62; refine Calls.mono HF.out ?_; rintro e w1 ⟨rfl, hb⟩)
    | (go_at_call 63; refine Calls.mono (HFI.out _ hb) ?_; rintro e w2 ⟨rfl, hb2⟩; replace hb := Below.then hb hb2; have hcell := (HL.out _ hb).blk.cell; have hgl2 : g < w2.heap.size := (HL.out _ hb).blk.lt))
  go_region_law (first
    | (refine step_append_grows rfl (.tmp 33) (.tmp 37) 31 rfl 77 i0 _ 2 24 Tryd.underlying31 hi hz0 hz1 hz2 rfl (by decide) a p p (subCells (S.take p)) (by rfl) HN.out HT.out (HOLD.out _ (Below.then hb (below_new _ _))) ⟨w2.heap.size, 0, none⟩ 1 1 [.string f, .int .u8 (q : Int)] (by rfl) rfl (news2 _ _ _ _) HO.out (by omega) (by unfold maxLen; omega) (by omega) ?_; intro v1 w3 hown1 hg1; have hb3 := Below.then (Below.then hb (below_new _ _)) (below_none hg1); have hcell3 := (HL.out _ hb3).blk.cell)
    | (refine step_append_cells rfl (.tmp 38) (.tmp 44) 31 rfl _ 77 i0 _ 2 24 Tryd.underlying31 hi hz0 hz1 hz2 rfl (by decide) v1 (p + 1) _ (by rfl) hown1 _ (S.length - p) (c - p) HN2.out (subCells (S.drop p)) (by rfl) HDL.out (HCUT.out _ hb3) HDO.out (by unfold maxLen; omega) (by omega) hg1.size ?_; intro v2 w4 hown2 hg2; have hb4 := Below.grown' hb3 hg2 hb3.size (fun r hr => Nat.le_trans (Below.then hb (below_new _ _)).size (own_lt hown1 hr).2); obtain ⟨a2, c2', rfl, _, _⟩ := own_form hown2; have hcell4 := (HL.out _ hb4).blk.cell; have hfr4 := (HL.out _ hb4).blk.frozen 0))
  all_goals go_wp2_with fail
  all_goals go_ret
  all_goals first | exact FIN.out _ _ _ _ hb4 (Below.then hb (below_new _ _)).size hown2 | (have e : c = p := (by assumption); subst e; exact FIN.out _ _ _ _ hb4 (Below.then hb (below_new _ _)).size hown2)
end Go.Proofs.YtmppkgonkkffhaaDoor
