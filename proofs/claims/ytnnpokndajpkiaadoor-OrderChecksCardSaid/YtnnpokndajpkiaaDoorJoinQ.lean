import Derived.Test.YtnnpokndajpkiaaDoorJoinA
import Derived.Test.YtnnpokndajpkiaaDoorTopic2
import Derived.Laws.EntriesVeiled
namespace Go.Proofs.YtnnpokndajpkiaaDoor
open Go.RowKit
theorem subs_find1 (f s : ByteArray) (q : Nat) (w : World) :
    Calls Tryd.prog 131 #[.agg #[.string f, .int .u8 (q : Int)], .string s] w fun e w' => e = .returned (.int .i64 (Lib.compareBytes (bl f) (bl s))) ∧ Below w.heap.size w w' := by
  have hC := Lib.hid (fun a b w => Tryd.strings_Compare a b w); go_enter Tryd.func131, Tryd.ntmps131
  go_wp2_with (go_at_call 132; refine (hC.out _ _ _).mono ?_; rintro e w1 ⟨rfl, rfl⟩)
  go_ret
  exact ⟨rfl, by go_grown⟩
set_option maxRecDepth 100000 in
theorem subs_search (a : Option Addr) (c : Nat) (S : List Sb) (f : ByteArray) (w : World) (hs : SortS S) (hn : S.length ≤ 1000000) (ha : CellsA w a (subCells S)) :
    Calls Tryd.prog 130 #[.slice a S.length c, .string f, .func (.func 131) #[] #[]] w fun e w' =>
      e = .returned (.tuple #[.int .i64 (posS S (bl f) : Nat), .bool (atS S (bl f))]) ∧ Below w.heap.size w w' := by
  have hC := Lib.hid (fun g q w => subs_find1 g f q w); have hS := Lib.hid hs; clear hs; have FIN := Lib.hid (show ∀ (n : Nat) (v : Bool) (w' : World), posS S (bl f) = n → atS S (bl f) = v → Below w.heap.size w w' → Ending.returned (.tuple #[.int .i64 (n : Int), .bool v]) = .returned (.tuple #[.int .i64 (posS S (bl f) : Nat), .bool (atS S (bl f))]) ∧ Below w.heap.size w w' from by
    rintro n v w' rfl rfl h; exact ⟨rfl, h⟩)
  go_enter Tryd.func130, Tryd.ntmps130
  go_wp2_with fail
  go_loopw [9, 10] (fun x y wr => ∃ i j : Nat, i ≤ j ∧ j ≤ S.length ∧ x = .int .i64 i ∧ y = .int .i64 j ∧ Hid (∀ t x, t < i → S[t]? = some x → lessB (fB x) (bl f) = true) ∧ Hid (∀ t x, j ≤ t → S[t]? = some x → lessB (fB x) (bl f) = false) ∧ Below w.heap.size w wr) (fun x y _ => (intOf y).toNat - (intOf x).toNat)
  case atStart => exact ⟨0, S.length, by omega, by omega, rfl, rfl, (fun t x h => by omega), (fun t x h hx => by rw [List.getElem?_eq_none h] at hx; cases hx), Below.refl _ _⟩
  case round =>
    obtain ⟨i, j, hij, hj, rfl, rfl, H1, H2, hb⟩ := hrel; by_cases hlt : i < j
    · obtain ⟨h, hh⟩ : ∃ h, (i + j) / 2 = h := ⟨_, rfl⟩
      have hh1 : i ≤ h := by omega
      have hh2 : h < j := by omega
      obtain ⟨x, hx⟩ : ∃ x, S[h]? = some x := ⟨_, List.getElem?_eq_getElem (by omega)⟩
      obtain ⟨b, o, rfl, c1, c2⟩ := (ha.below hb).sub hx; have hk := hC.out x.1 x.2; rw [cmpB] at hk; cases hl : lessB (bl x.1) (bl f)
      · have hge : ∀ t y, h ≤ t → S[t]? = some y → lessB (fB y) (bl f) = false := fun t y ht hy => by
          by_cases e : t = h
          · subst e
            rw [hx] at hy; injection hy with hy
            subst hy; exact hl
          · cases hq : lessB (fB y) (bl f) with
            | false => rfl
            | true =>
              obtain ⟨ht1, ht2⟩ := List.getElem?_eq_some_iff.1 hy; obtain ⟨hx1, hx2⟩ := List.getElem?_eq_some_iff.1 hx; have hm := List.pairwise_iff_getElem.1 hS.out h t hx1 ht1 (by omega); rw [hx2, ht2] at hm; have hm2 := lessB_trans hm hq; rw [show fB x = bl x.1 from rfl, hl] at hm2; cases hm2
        have H2' := Lib.hid hge; clear hge; obtain ⟨K, hK, hK2⟩ : ∃ K : Int, (if lessB (bl x.1) (bl f) = true then (-1 : Int) else if bl x.1 = bl f then 0 else 1) = K ∧ ¬ K < 0 := by
          refine ⟨_, rfl, ?_⟩; rw [hl]; simp only [Bool.false_eq_true, if_false]; split <;> decide
        rw [hK] at hk; have HK := Lib.hid hk; rw [← hh] at c1 c2; have HH := Lib.hid hh; clear hk hK hl hx hh; go_wp2_with (go_at_call 131; refine (HK.out _).mono ?_; rintro e w1 ⟨rfl, hb1⟩; replace hb := Below.then hb hb1)
        go_roundw
        case rel => exact ⟨i, h, by omega, by omega, by first | rfl | go_num, by rw [← HH.out]; first | rfl | go_num, H1, H2', hb⟩
        case measure => simp [intOf]; have := HH.out; omega
      · have hle : ∀ t y, t < h + 1 → S[t]? = some y → lessB (fB y) (bl f) = true := fun t y ht hy => by
          by_cases e : t = h
          · subst e
            rw [hx] at hy; injection hy with hy
            subst hy; exact hl
          · obtain ⟨ht1, ht2⟩ := List.getElem?_eq_some_iff.1 hy
            obtain ⟨hx1, hx2⟩ := List.getElem?_eq_some_iff.1 hx; have hm := List.pairwise_iff_getElem.1 hS.out t h ht1 hx1 (by omega); rw [hx2, ht2] at hm; exact lessB_trans hm hl
        have H1' := Lib.hid hle; clear hle; rw [hl, if_pos rfl] at hk; have HK := Lib.hid hk; rw [← hh] at c1 c2; have HH := Lib.hid hh; clear hk hl hx hh; go_wp2_with (go_at_call 131; refine (HK.out _).mono ?_; rintro e w1 ⟨rfl, hb1⟩; replace hb := Below.then hb hb1)
        go_roundw
        case rel => exact ⟨h + 1, j, by omega, by omega, by rw [← HH.out]; first | rfl | go_num, by first | rfl | go_num, H1', H2, hb⟩
        case measure => simp [intOf]; have := HH.out; omega
    · have : i = j := by omega
      subst this; have hp := posS_is hS.out hj H1.out H2.out; have hat := atS_at S (bl f); rw [hp] at hat; have HPS := Lib.hid hp; by_cases hlt2 : i < S.length
      · obtain ⟨x, hx⟩ : ∃ x, S[i]? = some x := ⟨_, List.getElem?_eq_getElem hlt2⟩
        obtain ⟨b, o, rfl, c1, c2⟩ := (ha.below hb).sub hx; rw [hx] at hat; have hno := H2.out i x (Nat.le_refl _) hx; have hk := hC.out x.1 x.2; rw [cmpB, show lessB (bl x.1) (bl f) = false from hno] at hk; simp only [Bool.false_eq_true, if_false] at hk; cases he : (fB x == bl f)
        · have hne : bl x.1 ≠ bl f := beq_eq_false_iff_ne.1 he
          rw [if_neg hne] at hk; have HAT := Lib.hid (hat.trans he); have HK := Lib.hid hk; clear hk hat he hne hno hp hx; go_wp2_with (go_at_call 131; refine (HK.out _).mono ?_; rintro e w1 ⟨rfl, hb1⟩; replace hb := Below.then hb hb1)
          go_ret2
          exact FIN.out _ _ _ HPS.out HAT.out hb
        · have hq : bl x.1 = bl f := beq_iff_eq.1 he
          rw [if_pos hq] at hk; have HAT := Lib.hid (hat.trans he); have HK := Lib.hid hk; clear hk hat he hq hno hp hx; go_wp2_with (go_at_call 131; refine (HK.out _).mono ?_; rintro e w1 ⟨rfl, hb1⟩; replace hb := Below.then hb hb1)
          go_ret2
          exact FIN.out _ _ _ HPS.out HAT.out hb
      · have : i = S.length := by omega
        subst this; rw [List.getElem?_eq_none (Nat.le_refl _)] at hat; have HAT := Lib.hid hat; clear hat hp; go_wp2_with fail
        go_ret2
        exact FIN.out _ _ _ HPS.out HAT.out hb
end Go.Proofs.YtnnpokndajpkiaaDoor
namespace Go.Proofs.YtnnpokndajpkiaaDoor
open Go.RowKit
structure LAt (w : World) (B g : Nat) (v : Value) (S : List Sb) : Prop where
  blk : OneAt w g 171 v
  own : RowAt w B 46 2 v S.length (subCells S)
  lo : B ≤ g
structure Fine (S : List Sb) : Prop where
  sort : SortS S
  few : S.length ≤ 16
  good : ∀ x ∈ S, filterL (fB x) = true ∧ x.2 ≤ 2 ∧ x.1.size ≤ 300
theorem LAt.only {F : Nat → Prop} {w w' : World} {B g : Nat} {v : Value} {S : List Sb} (h : LAt w B g v S) (k : Only F w w') (h1 : ¬ F g) (h2 : ∀ r, v.ownBlock = some r → ¬ F r) : LAt w' B g v S :=
  ⟨h.blk.only k h1, h.own.only k h2, h.lo⟩
theorem LAt.below {w w' : World} {B g : Nat} {v : Value} {S : List Sb} (h : LAt w B g v S) (k : Below w.heap.size w w') : LAt w' B g v S :=
  h.only (Only.of_below k (fun _ => False)) (fun h => h) (fun _ _ h => h)
theorem subs_find (B g : Nat) (v : Value) (S : List Sb) (f : ByteArray) (w : World) (hL : LAt w B g v S) (hF : Fine S) :
    Calls Tryd.prog 121 #[.pointer (some ⟨g, 0, none⟩), .string f] w fun e w' =>
      e = .returned (.tuple #[.int .i64 (posS S (bl f) : Nat), .bool (atS S (bl f))]) ∧ Below w.heap.size w w' := by
  obtain ⟨a, c, rfl, hc, hcells⟩ := hL.own.form; have hcell := hL.blk.cell; have hfew := hF.few; have hS := Lib.hid (subs_search a c S f w hF.sort (by omega) hcells); generalize posS S (bl f) = p at *; generalize atS S (bl f) = t at *; clear hF hL; go_enter Tryd.func121, Tryd.ntmps121
  go_wp2_with (go_at_call 130; refine Calls.mono hS.out ?_; rintro e w1 ⟨rfl, hb⟩)
  go_ret2
  exact ⟨rfl, hb⟩
end Go.Proofs.YtnnpokndajpkiaaDoor
namespace Go.Proofs.YtnnpokndajpkiaaDoor
open Go.RowKit
def Foot (g : Nat) (v : Value) (k : Nat) : Prop := k = g ∨ v.ownBlock = some k
def RetSet (B g : Nat) (v : Value) (code : Nat) (S' : List Sb) (w : World) (e : Ending) (w' : World) : Prop :=
  ∃ v', e = .returned (.int .u8 (code : Int)) ∧ LAt w' B g v' S' ∧ Only (Foot g v) w w' ∧ (∀ r, v'.ownBlock = some r → v.ownBlock = some r ∨ w.heap.size ≤ r)
theorem RetSet.same {B g : Nat} {v : Value} {S : List Sb} {code : Nat} {w w' : World} (hL : LAt w B g v S) (hb : Below w.heap.size w w') : RetSet B g v code S w (.returned (.int .u8 (code : Int))) w' :=
  ⟨v, rfl, hL.below hb, Only.of_below hb _, fun _r h => Or.inl h⟩
theorem set_refused (B g : Nat) (v : Value) (S : List Sb) (f : ByteArray) (q : Nat) (w : World) (hE : Env w) (hL : LAt w B g v S) (hf : f.size ≤ 300) (hq : q < 256) (hno : okQ (bl f) q = false) :
    Calls Tryd.prog 98 #[.pointer (some ⟨g, 0, none⟩), .string f, .int .u8 (q : Int)] w (RetSet B g v 128 S w) := by
  have FIN := Lib.hid (show ∀ w', Below w.heap.size w w' → RetSet B g v 128 S w (.returned (.int .u8 128)) w' from fun w' hb => RetSet.same hL hb); clear hL; unfold okQ at hno; by_cases h2 : q ≤ 2
  · have hno : filterL (bl f) = false := by simpa [h2] using hno
    have hF := topic_Filter f w hE (by omega); rw [hno] at hF; have HF := Lib.hid hF; have c1 : ¬ (2 : Int) < (q : Int) := by omega
    clear hF hno; go_enter Tryd.func98, Tryd.ntmps98
    go_wp2_with (go_at_call 120; refine Calls.mono HF.out ?_; rintro e w1 ⟨rfl, hb⟩)
    go_ret
    exact FIN.out _ hb
  · have c1 : (2 : Int) < (q : Int) := by omega
    clear hno; go_enter Tryd.func98, Tryd.ntmps98
    go_wp2_with fail
    go_ret
    exact FIN.out _ (Below.refl _ _)
theorem set_full (B g : Nat) (v : Value) (S : List Sb) (f : ByteArray) (q : Nat) (w : World) (hE : Env w) (hL : LAt w B g v S) (hS : Fine S) (hf : f.size ≤ 300) (hq : q < 256) (hok : okQ (bl f) q = true) (hat : atS S (bl f) = false) (hfull : ¬ S.length < 16) :
    Calls Tryd.prog 98 #[.pointer (some ⟨g, 0, none⟩), .string f, .int .u8 (q : Int)] w (RetSet B g v 128 S w) := by
  have FIN := Lib.hid (show ∀ w', Below w.heap.size w w' → RetSet B g v 128 S w (.returned (.int .u8 128)) w' from fun w' hb => RetSet.same hL hb); unfold okQ at hok; rw [Bool.and_eq_true, decide_eq_true_eq] at hok; obtain ⟨h2, hfl⟩ := hok; have hF := topic_Filter f w hE (by omega); rw [hfl] at hF; have HF := Lib.hid hF; have HFI := Lib.hid (fun w1 (hb : Below w.heap.size w w1) => subs_find B g v S f w1 (hL.below hb) hS); rw [hat] at HFI; obtain ⟨a, c, rfl, hc, hcells⟩ := hL.own.form; have HL := Lib.hid (fun w1 (hb : Below w.heap.size w w1) => (hL.below hb).blk.cell); have c1 : ¬ (2 : Int) < (q : Int) := by omega
  have hfew := hS.few; have c2 : ((S.length : Int) == 16) = true := by rw [beq_iff_eq]; omega
  clear hF hfl hcells hL hS hat; go_enter Tryd.func98, Tryd.ntmps98
  go_wp2_with (first
    | (go_at_call 120; refine Calls.mono HF.out ?_; rintro e w1 ⟨rfl, hb⟩)
    | (go_at_call 121; refine Calls.mono (HFI.out _ hb) ?_; rintro e w2 ⟨rfl, hb2⟩; replace hb := Below.then hb hb2; have hcell := HL.out _ hb))
  go_ret
  exact FIN.out _ hb
theorem ins_there : ∀ (S : List Sb) (f : ByteArray) (q : Nat), atS S (bl f) = true →
    (insS S f q).length = S.length ∧ subCells (insS S f q) = (subCells S).set (posS S (bl f) * 2 + 1) (.int .u8 (q : Int)) ∧ posS S (bl f) < S.length
  | [], f, q, h => by cases h
  | x :: r, f, q, h => by
    by_cases hl : lessB (fB x) (bl f) = true
    · rw [atS_cons, if_pos hl] at h
      obtain ⟨h1, h2, h3⟩ := ins_there r f q h; rw [ins_cons_lt x r f q hl, posS_cons, if_pos hl]; refine ⟨by simp [h1], ?_, by simp; omega⟩; rw [subCells_cons, subCells_cons, h2, show (posS r (bl f) + 1) * 2 + 1 = posS r (bl f) * 2 + 1 + 1 + 1 by omega]; rfl
    · rw [atS_cons, if_neg hl, beq_iff_eq] at h
      have hx : x.1 = f := bl_inj h; rw [ins_cons_eq x r f q h, posS_cons, if_neg hl]; refine ⟨rfl, ?_, by simp⟩; rw [subCells_cons, subCells_cons, hx]; rfl
set_option maxRecDepth 100000 in
theorem set_there (B g : Nat) (v : Value) (S : List Sb) (f : ByteArray) (q : Nat) (w : World) (hE : Env w) (hL : LAt w B g v S) (hS : Fine S) (hf : f.size ≤ 300) (hq : q < 256) (hok : okQ (bl f) q = true) (hat : atS S (bl f) = true) :
    Calls Tryd.prog 98 #[.pointer (some ⟨g, 0, none⟩), .string f, .int .u8 (q : Int)] w (RetSet B g v q (insS S f q) w) := by
  unfold okQ at hok; rw [Bool.and_eq_true, decide_eq_true_eq] at hok; obtain ⟨h2, hfl⟩ := hok; have hF := topic_Filter f w hE (by omega); rw [hfl] at hF; have HF := Lib.hid hF; have HFI := Lib.hid (fun w1 (hb : Below w.heap.size w w1) => subs_find B g v S f w1 (hL.below hb) hS); rw [hat] at HFI; obtain ⟨i1, i2, i3⟩ := ins_there S f q hat; obtain ⟨rb, cap, cur, hv, hBr, hh, hnc, hcm, hsz, hxs⟩ : ∃ rb cap cur, v = .slice (some ⟨rb, 0, none⟩) S.length cap ∧ B ≤ rb ∧ w.heap[rb]? = some (.cells cur 46 (0, 0)) ∧ S.length ≤ cap ∧ cap ≤ maxLen ∧ cap * 2 ≤ cur.size ∧ cur.toList.take (S.length * 2) = subCells S := by
    rcases hL.own.2 with ⟨_, h0⟩ | h
    · omega
    · exact h
  subst hv; have hgr : g ≠ rb := fun e => RowAt.ne hL.blk hL.own (by decide) (by rw [e]; rfl)
  obtain ⟨x, hx⟩ : ∃ x, S[posS S (bl f)]? = some x := ⟨_, List.getElem?_eq_getElem i3⟩
  have HL := Lib.hid (fun w1 (hb : Below w.heap.size w w1) => hL.below hb); have HC := Lib.hid (fun w1 (hb : Below w.heap.size w w1) => (show w1.cell? ⟨g, 0, none⟩ = some (.slice (some ⟨rb, 0, none⟩) S.length cap) ∧ w1.cell? ⟨rb, posS S (bl f) * 2 + 1, none⟩ = some (.int .u8 (x.2 : Int)) ∧ w1.frozen? ⟨rb, posS S (bl f) * 2 + 1, none⟩ = false from by
    have hl := hL.below hb; refine ⟨hl.blk.cell, ?_, hl.own.frozenAt _⟩; rw [hl.own.cellAt _ (by omega)]; exact (subCells_at S _ x hx).2))
  have FIN := Lib.hid (show ∀ w1, Below w.heap.size w w1 → RetSet B g (.slice (some ⟨rb, 0, none⟩) S.length cap) q (insS S f q) w (.returned (.int .u8 (q : Int))) (w1.setCell ⟨rb, posS S (bl f) * 2 + 1, none⟩ (.int .u8 (q : Int))) from fun w1 hb => by
    have hl := hL.below hb; refine ⟨_, rfl, ⟨?_, ?_, hL.lo⟩, (Only.of_below hb _).setCell (Or.inl (Or.inr rfl)) _, fun r h => Or.inl h⟩
    · exact (Below.heap_setCell w1 _ _ g hgr).trans hl.blk
    · have := hl.own.stored (posS S (bl f) * 2 + 1) (.int .u8 (q : Int))
      rw [i1, i2]; exact this)
  generalize posS S (bl f) = p at *; generalize insS S f q = S' at *; have c1 : ¬ (2 : Int) < (q : Int) := by omega
  have hfew := hS.few; clear hF hfl hL hS hat hx hh hxs hsz i1 i2; go_enter Tryd.func98, Tryd.ntmps98
  go_wp2_with (first
    | (go_at_call 120; refine Calls.mono HF.out ?_; rintro e w1 ⟨rfl, hb⟩)
    | (go_at_call 121; refine Calls.mono (HFI.out _ hb) ?_; rintro e w2 ⟨rfl, hb2⟩; replace hb := Below.then hb hb2; obtain ⟨hc1, hc2, hc3⟩ := HC.out _ hb))
  go_ret
  exact FIN.out _ hb
end Go.Proofs.YtnnpokndajpkiaaDoor
namespace Go.Proofs.YtnnpokndajpkiaaDoor
open Go.RowKit
theorem ins_cells (S : List Sb) (f : ByteArray) (q : Nat) (h : atS S (bl f) = false) : (subCells (S.take (posS S (bl f))) ++ [.string f, .int .u8 (q : Int)]) ++ subCells (S.drop (posS S (bl f))) = subCells (insS S f q) := by
  unfold insS; rw [h, subCells_append, subCells_cons, List.append_assoc]; rfl
theorem stored_list {w w4 : World} {B g base n c : Nat} {v : Value} {S S' : List Sb} {a : Option Addr} {code : Nat} (hL : LAt w B g v S) (hB : B ≤ w.heap.size) (hb : Below w.heap.size w w4) (hbase : w.heap.size ≤ base)
    (hown : w4.ownsRow base 46 2 (.slice a n c) n (subCells S')) (hn : n = S'.length) : RetSet B g v code S' w (.returned (.int .u8 (code : Int))) (w4.setCell ⟨g, 0, none⟩ (.slice a n c)) := by
  subst hn; have hl := hL.below hb; refine ⟨_, rfl, ⟨hl.blk.set _, ?_, hL.lo⟩, (Only.of_below hb _).setCell (Or.inl (Or.inl rfl)) _, fun r hr => Or.inr (Nat.le_trans hbase (own_lt hown hr).2)⟩; refine RowAt.base (B := base) ?_ (by omega); refine (RowAt.of_own hown).only ((Only.refl (fun k => k = g) _).setCell (Or.inl rfl) _) ?_; rintro r hr rfl; have := (own_lt hown hr).2; have := hL.blk.lt; omega
set_option maxHeartbeats 2000000 in
set_option maxRecDepth 100000 in
theorem set_new (B g : Nat) (v : Value) (S : List Sb) (f : ByteArray) (q : Nat) (w : World) (hE : Env w) (hL : LAt w B g v S) (hS : Fine S) (hB : B ≤ w.heap.size) (hf : f.size ≤ 300) (hq : q < 256) (hok : okQ (bl f) q = true) (hat : atS S (bl f) = false) (hroom : S.length < 16) :
    Calls Tryd.prog 98 #[.pointer (some ⟨g, 0, none⟩), .string f, .int .u8 (q : Int)] w (RetSet B g v q (insS S f q) w) := by
  unfold okQ at hok; rw [Bool.and_eq_true, decide_eq_true_eq] at hok; obtain ⟨h2, hfl⟩ := hok; obtain ⟨i0, hi, hz0, hz1, hz2⟩ := info_parts infoSub; have hF := topic_Filter f w hE (by omega); rw [hfl] at hF; have HF := Lib.hid hF; have HFI := Lib.hid (fun w1 (hb : Below w.heap.size w w1) => subs_find B g v S f w1 (hL.below hb) hS); rw [hat] at HFI; obtain ⟨a, c, rfl, hc, hcells⟩ := hL.own.form; have HL := Lib.hid (fun w1 (hb : Below w.heap.size w w1) => hL.below hb); have hp := posS_le S (bl f); have c1 : ¬ (2 : Int) < (q : Int) := by omega
  have c2 : ((S.length : Int) == 16) = false := by rw [beq_eq_false_iff_ne]; omega
  have hic := ins_cells S f q hat; have hil := ins_len S f q; rw [hat] at hil; simp only [Bool.false_eq_true, if_false] at hil; generalize posS S (bl f) = p at *; have HCUT := Lib.hid (fun w1 (hb : Below w.heap.size w w1) => cells_cut (hcells.below hb) hp hc); have HN2 := Lib.hid (show (if c = p then a else Option.map (fun x => x.add (p * 2)) a) = none → c - p = 0 from fun h => by
    rcases hL.own.2 with ⟨hv, _⟩ | ⟨_, _, _, hv, _⟩
    · injection hv with _ _ hv
      omega
    · injection hv with hv
      subst hv; split at h
      · cases h
      · cases h)
  have HDL := Lib.hid (show (subCells (S.drop p)).length = (S.length - p) * 2 by rw [subCells_len, List.length_drop]); have HDO := Lib.hid (subCells_one (S.drop p)); have FIN := Lib.hid (show ∀ (w4 : World) (base : Nat) (a2 : Option Addr) (c2 : Nat), Below w.heap.size w w4 → w.heap.size ≤ base → w4.ownsRow base 46 2 (.slice a2 (p + 1 + (S.length - p)) c2) (p + 1 + (S.length - p)) ((subCells (S.take p) ++ [.string f, .int .u8 (q : Int)]) ++ subCells (S.drop p)) →
      RetSet B g (.slice a S.length c) q (insS S f q) w (.returned (.int .u8 (q : Int))) (w4.setCell ⟨g, 0, none⟩ (.slice a2 (p + 1 + (S.length - p)) c2)) from fun w4 base a2 c2 hb hbase hown => by
    rw [hic] at hown; exact stored_list hL hB hb hbase hown (by rw [hil]; omega))
  clear hic hil; have g1 : (0 : Int) ≤ (p : Int) := by omega
  have g2 : (p : Int) ≤ (S.length : Int) := by omega
  have g3 : (p : Int) ≤ (c : Int) := by omega
  have hgl := hL.blk.lt; have HN := Lib.hid (show a = none → p = 0 ∧ p = 0 from fun h => by
    rcases hL.own.2 with ⟨_, h0⟩ | ⟨_, _, _, hv, _⟩
    · omega
    · rw [h] at hv; cases hv)
  have hlt : (subCells (S.take p)).length = p * 2 := by rw [subCells_len, List.length_take, Nat.min_eq_left hp]
  have HOLD := Lib.hid (fun w1 (hb : Below w.heap.size w w1) => (show ∀ b, a = some b → ∀ j u, (subCells (S.take p))[j]? = some u → w1.cell? (b.add j) = some u from by
    intro b hab j u hu; have hj : (subCells S)[j]? = some u := by
      rw [← List.take_append_drop p S, subCells_append, List.getElem?_append_left (List.getElem?_eq_some_iff.1 hu).1]; exact hu
    obtain ⟨b', o', h1, h2⟩ := (hcells.below hb) j u hj; rw [h1] at hab; injection hab with hab
    subst hab; rw [Addr.add_lit]; exact h2))
  have HT := Lib.hid hlt; have HO := Lib.hid (show ∀ u ∈ [Value.string f, Value.int .u8 (q : Int)], u.oneCell' = true from by simp [Value.oneCell']); clear hlt; clear hF hfl hcells hL hS hat; go_enter Tryd.func98, Tryd.ntmps98
  go_wp2_with (first
    | (go_at_call 120; refine Calls.mono HF.out ?_; rintro e w1 ⟨rfl, hb⟩)
    | (go_at_call 121; refine Calls.mono (HFI.out _ hb) ?_; rintro e w2 ⟨rfl, hb2⟩; replace hb := Below.then hb hb2; have hcell := (HL.out _ hb).blk.cell; have hgl2 : g < w2.heap.size := (HL.out _ hb).blk.lt))
  go_region_law (first
    | (refine step_append_grows rfl (.tmp 33) (.tmp 37) 38 rfl 46 i0 _ 2 24 Tryd.underlying38 hi hz0 hz1 hz2 rfl (by decide) a p p (subCells (S.take p)) (by rfl) HN.out HT.out (HOLD.out _ (Below.then hb (below_new _ _))) ⟨w2.heap.size, 0, none⟩ 1 1 [.string f, .int .u8 (q : Int)] (by rfl) rfl (news2 _ _ _ _) HO.out (by omega) (by unfold maxLen; omega) (by omega) ?_; intro v1 w3 hown1 hg1; have hb3 := Below.then (Below.then hb (below_new _ _)) (below_none hg1); have hcell3 := (HL.out _ hb3).blk.cell)
    | (refine step_append_cells rfl (.tmp 38) (.tmp 44) 38 rfl _ 46 i0 _ 2 24 Tryd.underlying38 hi hz0 hz1 hz2 rfl (by decide) v1 (p + 1) _ (by rfl) hown1 _ (S.length - p) (c - p) HN2.out (subCells (S.drop p)) (by rfl) HDL.out (HCUT.out _ hb3) HDO.out (by unfold maxLen; omega) (by omega) hg1.size ?_; intro v2 w4 hown2 hg2; have hb4 := Below.grown' hb3 hg2 hb3.size (fun r hr => Nat.le_trans (Below.then hb (below_new _ _)).size (own_lt hown1 hr).2); obtain ⟨a2, c2', rfl, _, _⟩ := own_form hown2; have hcell4 := (HL.out _ hb4).blk.cell; have hfr4 := (HL.out _ hb4).blk.frozen 0))
  all_goals go_wp2_with fail
  all_goals go_ret
  all_goals first | exact FIN.out _ _ _ _ hb4 (Below.then hb (below_new _ _)).size hown2 | (have e : c = p := (by assumption); subst e; exact FIN.out _ _ _ _ hb4 (Below.then hb (below_new _ _)).size hown2)
end Go.Proofs.YtnnpokndajpkiaaDoor
namespace Go.Proofs.YtnnpokndajpkiaaDoor
open Go.RowKit
theorem subs_Set (B g : Nat) (v : Value) (S : List Sb) (f : ByteArray) (q : Nat) (w : World) (hE : Env w) (hL : LAt w B g v S) (hS : Fine S) (hB : B ≤ w.heap.size) (hf : f.size ≤ 300) (hq : q < 256) :
    Calls Tryd.prog 98 #[.pointer (some ⟨g, 0, none⟩), .string f, .int .u8 (q : Int)] w (RetSet B g v (setS S f q).1 (setS S f q).2 w) := by
  unfold setS; cases hok : okQ (bl f) q with
  | false =>
    simp only [Bool.false_and, Bool.false_eq_true, if_false]; exact set_refused B g v S f q w hE hL hf hq hok
  | true =>
    cases hat : atS S (bl f) with
    | true =>
      simp only [Bool.true_and, Bool.true_or, if_true]; exact set_there B g v S f q w hE hL hS hf hq hok hat
    | false =>
      by_cases hroom : S.length < 16
      · simp only [Bool.true_and, Bool.false_or, hroom, decide_true, if_true]
        exact set_new B g v S f q w hE hL hS hB hf hq hok hat hroom
      · simp only [Bool.true_and, Bool.false_or, hroom, decide_false, Bool.false_eq_true, if_false]
        exact set_full B g v S f q w hE hL hS hf hq hok hat hroom
theorem setS_fine {S : List Sb} (hS : Fine S) (f : ByteArray) (q : Nat) (hf : f.size ≤ 300) : Fine (setS S f q).2 := by
  unfold setS; split
  · rename_i h
    rw [Bool.and_eq_true, Bool.or_eq_true, decide_eq_true_eq] at h; unfold okQ at h; rw [Bool.and_eq_true, decide_eq_true_eq] at h; refine ⟨ins_sort S f q hS.sort, ?_, fun x hx => ?_⟩
    · have hl := ins_len S f q
      have hfw := hS.few; dsimp only
      rw [hl]; cases hat : atS S (bl f) with
      | false =>
        rw [hat] at h; have : S.length < 16 := by simpa using h.2
        simp only [Bool.false_eq_true, if_false]; omega
      | true => simp only [if_true]; exact hfw
    · rcases ins_mem S f q x hx with rfl | hx
      · exact ⟨h.1.2, h.1.1, hf⟩
      · exact hS.good x hx
  · exact hS
theorem delS_mem {S : List Sb} {f : Bs} {x : Sb} (h : x ∈ delS S f) : x ∈ S := by
  unfold delS at h; split at h
  · rcases List.mem_append.1 h with h | h
    · exact List.mem_of_mem_take h
    · exact List.mem_of_mem_drop h
  · exact h
theorem delS_fine {S : List Sb} (hS : Fine S) (f : Bs) : Fine (delS S f) := by
  refine ⟨del_sort S f hS.sort, ?_, fun x hx => hS.good x (delS_mem hx)⟩; have h := hS.few; have e := del_filter S f hS.sort; rw [← e]; exact Nat.le_trans (List.length_filter_le _ _) h
def RetDrop (B g : Nat) (v : Value) (there : Bool) (S' : List Sb) (w : World) (e : Ending) (w' : World) : Prop :=
  ∃ v', e = .returned (.bool there) ∧ LAt w' B g v' S' ∧ Only (Foot g v) w w' ∧ (∀ r, v'.ownBlock = some r → v.ownBlock = some r ∨ w.heap.size ≤ r)
theorem drop_none (B g : Nat) (v : Value) (S : List Sb) (f : ByteArray) (w : World) (hL : LAt w B g v S) (hS : Fine S) (hat : atS S (bl f) = false) :
    Calls Tryd.prog 99 #[.pointer (some ⟨g, 0, none⟩), .string f] w (RetDrop B g v false S w) := by
  have FIN := Lib.hid (show ∀ w', Below w.heap.size w w' → RetDrop B g v false S w (.returned (.bool false)) w' from fun w' hb => ⟨v, rfl, hL.below hb, Only.of_below hb _, fun r h => Or.inl h⟩); have HFI := subs_find B g v S f w hL hS; rw [hat] at HFI; have HFI := Lib.hid HFI; clear hL hS hat; go_enter Tryd.func99, Tryd.ntmps99
  go_wp2_with (first
    | (go_at_call 121; refine Calls.mono HFI.out ?_; rintro e w2 ⟨rfl, hb⟩))
  go_ret
  exact FIN.out _ hb
theorem run_append_nothing {P : Program} (w : World) (t ty e : TypeId) (i : TypeInfo) (ht : P.underlying t = some (.slice e)) (hi : P.info? e = some i) (A X : Option Addr) (n c m cx : Nat) (hm : m = 0) (hnc : n ≤ c) :
    (Builtin.append_ #[t, t] ty #[.slice A n c, .slice X m cx]).run P w = .ok (.slice A n c) w := by
  subst hm; cases X with
  | none => cases A with
    | none => simp [Builtin.append_, run_underlying ht, sizeOf, typeInfo, hi, Builtin.lenOf, Builtin.firstCells, hnc]
    | some a => simp [Builtin.append_, run_underlying ht, sizeOf, typeInfo, hi, Builtin.lenOf, Builtin.firstCells, hnc, storeCells]
  | some x => cases A with
    | none => simp [Builtin.append_, run_underlying ht, sizeOf, typeInfo, hi, Builtin.lenOf, Builtin.firstCells, hnc, loadCells, loadCellsFrom]
    | some a => simp [Builtin.append_, run_underlying ht, sizeOf, typeInfo, hi, Builtin.lenOf, Builtin.firstCells, hnc, storeCells, loadCells, loadCellsFrom]
theorem step_append_nothing {P : Program} {ops : Array Oper} {o : Oper} {a : Act} {w : World} {K : Act → World → Prop} {Q : Exit → Act → World → Prop} {E : Prop} (hgd : o.guard = none) (s x : Operand) (t : TypeId)
    (ho : o.op = .call { callee := .builtin .append, args := #[s, x], argTypes := #[t, t] }) (e : TypeId) (i : TypeInfo) (ht : P.underlying t = some (.slice e)) (hi : P.info? e = some i)
    (A X : Option Addr) (n c m cx : Nat) (hs : a.eval s = .slice A n c) (hx : a.eval x = .slice X m cx) (hm : m = 0) (hnc : n ≤ c)
    (h : K (a.put o.dst (.slice A n c)) w) : if Region.wanted o (yielded ops a.tmps) = true then Oper.wp P o a w K Q else E := by
  have hw : Region.wanted o (yielded ops a.tmps) = true := by simp [Region.wanted, hgd]
  rw [if_pos hw]; have hrun := run_append_nothing (P := P) w t o.type e i ht hi A X n c m cx hm hnc; unfold Oper.wp execOp; simp only [ho, resolve, invoke, builtin, Sem.run_bind, Sem.run_pure, Result.andThen_ok, List.map_toArray, List.map_cons, List.map_nil, hs, hx, hrun]; exact h
theorem del_cells (S : List Sb) (f : Bs) (h : atS S f = true) : subCells (S.take (posS S f)) ++ subCells (S.drop (posS S f + 1)) = subCells (delS S f) ∧ (delS S f).length + 1 = S.length ∧ posS S f < S.length := by
  have hp := posS_le S f; have hat := atS_at S f; rw [h] at hat; have hlt : posS S f < S.length := by
    rcases Nat.lt_or_ge (posS S f) S.length with h | h
    · exact h
    · rw [List.getElem?_eq_none h] at hat; cases hat
  unfold delS; rw [if_pos h, subCells_append]; refine ⟨rfl, ?_, hlt⟩; rw [List.length_append, List.length_take, List.length_drop]; omega
theorem stored_drop {w w4 : World} {B g base n c : Nat} {v : Value} {S S' : List Sb} {a : Option Addr} (hL : LAt w B g v S) (hB : B ≤ w.heap.size) (hb : Below w.heap.size w w4) (hbase : w.heap.size ≤ base)
    (hown : w4.ownsRow base 46 2 (.slice a n c) n (subCells S')) (hn : n = S'.length) : RetDrop B g v true S' w (.returned (.bool true)) (w4.setCell ⟨g, 0, none⟩ (.slice a n c)) := by
  obtain ⟨v', _, h2, h3, h4⟩ := stored_list (code := 0) hL hB hb hbase hown hn; subst hn; have hl := hL.below hb; refine ⟨_, rfl, ⟨hl.blk.set _, ?_, hL.lo⟩, h3, fun r hr => Or.inr (Nat.le_trans hbase (own_lt hown hr).2)⟩; refine RowAt.base (B := base) ?_ (by omega); refine (RowAt.of_own hown).only ((Only.refl (fun k => k = g) _).setCell (Or.inl rfl) _) ?_; rintro r hr rfl; have := (own_lt hown hr).2; have := hL.blk.lt; omega
set_option maxHeartbeats 2000000 in
set_option maxRecDepth 100000 in
theorem drop_there (B g : Nat) (v : Value) (S : List Sb) (f : ByteArray) (w : World) (hL : LAt w B g v S) (hS : Fine S) (hB : B ≤ w.heap.size) (hat : atS S (bl f) = true) :
    Calls Tryd.prog 99 #[.pointer (some ⟨g, 0, none⟩), .string f] w (RetDrop B g v true (delS S (bl f)) w) := by
  obtain ⟨i0, hi, hz0, hz1, hz2⟩ := info_parts infoSub; have HFI := subs_find B g v S f w hL hS; rw [hat] at HFI; have HFI := Lib.hid HFI; obtain ⟨hdc, hdl, hp⟩ := del_cells S (bl f) hat; have hfew := hS.few; obtain ⟨rb, c, cur, hv, hBr, hh, hnc, hcm, hsz, hxs⟩ : ∃ rb cap cur, v = .slice (some ⟨rb, 0, none⟩) S.length cap ∧ B ≤ rb ∧ w.heap[rb]? = some (.cells cur 46 (0, 0)) ∧ S.length ≤ cap ∧ cap ≤ maxLen ∧ cap * 2 ≤ cur.size ∧ cur.toList.take (S.length * 2) = subCells S := by
    rcases hL.own.2 with ⟨_, h0⟩ | h
    · omega
    · exact h
  subst hv; have HL := Lib.hid (fun w1 (hb : Below w.heap.size w w1) => hL.below hb); have hgr : g ≠ rb := fun e => RowAt.ne hL.blk hL.own (by decide) (by rw [e]; rfl)
  generalize posS S (bl f) = p at *; have g1 : (0 : Int) ≤ (p : Int) := by omega
  have g2 : (p : Int) ≤ (S.length : Int) := by omega
  have g3 : (p : Int) ≤ (c : Int) := by omega
  have g4 : (p : Int) + 1 ≤ (S.length : Int) := by omega
  have g5 : ((p : Int) + 1).toNat = p + 1 := by omega
  have g6 : (0 : Int) ≤ (p : Int) + 1 := by omega
  have g7 : IntKind.i64.wrap ((p : Int) + 1) = (p : Int) + 1 := by rw [IntKind.wrap_i64]; omega
  by_cases hlast : S.length = p + 1
  · have FIN := Lib.hid (show ∀ w1, Below w.heap.size w w1 → RetDrop B g (.slice (some ⟨rb, 0, none⟩) S.length c) true (delS S (bl f)) w (.returned (.bool true)) (w1.setCell ⟨g, 0, none⟩ (.slice (some ⟨rb, 0, none⟩) p p)) from fun w1 hb => by
      have hl := hL.below hb; have hn : (delS S (bl f)).length = p := by omega
      refine ⟨_, rfl, ⟨hl.blk.set _, ?_, hL.lo⟩, (Only.of_below hb _).setCell (Or.inl (Or.inl rfl)) _, fun r hr => Or.inl hr⟩; have h1 := hl.own.cut p (by omega); have h2 : (subCells S).take (p * 2) = subCells (delS S (bl f)) := by
        rw [← hdc, List.drop_eq_nil_of_le (by omega)]; show _ = _ ++ []
        rw [List.append_nil]; have hl : (subCells (S.take p)).length = p * 2 := by rw [subCells_len, List.length_take, Nat.min_eq_left (by omega)]
        conv => lhs; rw [← List.take_append_drop p S, subCells_append]
        rw [← hl, List.take_left']; rfl
      rw [h2] at h1; rw [hn]; exact h1.only ((Only.refl (fun k => k = g) _).setCell (Or.inl rfl) _) (by
        rintro r hr rfl; injection hr with hr
        exact hgr hr.symm))
    have hm0 : S.length - (p + 1) = 0 := by omega
    clear hdc hdl hh hxs hsz hL hS hat; go_enter Tryd.func99, Tryd.ntmps99
    go_wp2_with (first
      | (go_at_call 121; refine Calls.mono HFI.out ?_; rintro e w2 ⟨rfl, hb⟩; have hcell := (HL.out _ hb).blk.cell; have hfr := (HL.out _ hb).blk.frozen 0))
    go_region_law (first
      | (refine step_append_nothing rfl (.tmp 23) (.tmp 30) 38 rfl 46 i0 Tryd.underlying38 hi _ _ p p _ _ (by rfl) (by rfl) (by omega) (Nat.le_refl _) ?_))
    all_goals go_wp2_with fail
    all_goals go_ret
    all_goals first | exact FIN.out _ hb | exact FIN.out _ (below_add hb 1)
  · have hmore : p + 1 < S.length := by omega
    have hcp : ¬ c = p + 1 := by omega
    have FIN := Lib.hid (show ∀ (w4 : World) (base : Nat) (a2 : Option Addr) (c2 : Nat), Below w.heap.size w w4 → w.heap.size ≤ base → w4.ownsRow base 46 2 (.slice a2 (p + (S.length - (p + 1))) c2) (p + (S.length - (p + 1))) (subCells (S.take p) ++ subCells (S.drop (p + 1))) →
        RetDrop B g (.slice (some ⟨rb, 0, none⟩) S.length c) true (delS S (bl f)) w (.returned (.bool true)) (w4.setCell ⟨g, 0, none⟩ (.slice a2 (p + (S.length - (p + 1))) c2)) from fun w4 base a2 c2 hb hbase hown => by
      rw [hdc] at hown; exact stored_drop hL hB hb hbase hown (by omega))
    have HT := Lib.hid (show (subCells (S.take p)).length = p * 2 by rw [subCells_len, List.length_take, Nat.min_eq_left (by omega)]); have HDL := Lib.hid (show (subCells (S.drop (p + 1))).length = (S.length - (p + 1)) * 2 by rw [subCells_len, List.length_drop]); have HDO := Lib.hid (subCells_one (S.drop (p + 1))); have hcl : ∀ w1, Below w.heap.size w w1 → ∀ j u, (subCells S)[j]? = some u → w1.cell? ((⟨rb, 0, none⟩ : Addr).add j) = some u := fun w1 hb j u hu => by
      have hl := (hL.below hb).own; rw [Addr.add_lit, Nat.zero_add, hl.cellAt j (by have := (List.getElem?_eq_some_iff.1 hu).1; rw [subCells_len] at this; exact this)]; exact hu
    have HOLD := Lib.hid (fun w1 (hb : Below w.heap.size w w1) => (show ∀ b, some (⟨rb, 0, none⟩ : Addr) = some b → ∀ j u, (subCells (S.take p))[j]? = some u → w1.cell? (b.add j) = some u from by
      intro b hab j u hu; injection hab with hab
      subst hab; refine hcl w1 hb j u ?_; rw [← List.take_append_drop p S, subCells_append, List.getElem?_append_left (List.getElem?_eq_some_iff.1 hu).1]; exact hu))
    have HSRC := Lib.hid (fun w1 (hb : Below w.heap.size w w1) => (show ∀ j u, (subCells (S.drop (p + 1)))[j]? = some u → w1.cell? ((⟨rb, (p + 1) * 2, none⟩ : Addr).add j) = some u from by
      intro j u hu; have hl : (subCells (S.take (p + 1))).length = (p + 1) * 2 := by rw [subCells_len, List.length_take, Nat.min_eq_left (by omega)]
      have h1 := hcl w1 hb ((p + 1) * 2 + j) u (by
        conv => lhs; rw [← List.take_append_drop (p + 1) S, subCells_append]
        rw [List.getElem?_append_right (by omega), hl, Nat.add_sub_cancel_left]; exact hu)
      rw [Addr.add_lit] at h1 ⊢; rw [Nat.zero_add] at h1; exact h1))
    clear hdc hdl hh hxs hsz hL hS hat hcl; go_enter Tryd.func99, Tryd.ntmps99
    go_wp2_with (first
      | (go_at_call 121; refine Calls.mono HFI.out ?_; rintro e w2 ⟨rfl, hb⟩; have hcell := (HL.out _ hb).blk.cell))
    go_region_law (first
      | (refine step_append_grows rfl (.tmp 23) (.tmp 30) 38 rfl 46 i0 _ 2 24 Tryd.underlying38 hi hz0 hz1 hz2 rfl (by decide) (some ⟨rb, 0, none⟩) p p (subCells (S.take p)) (by rfl) (fun h => by cases h) HT.out (HOLD.out _ (below_add hb 1)) ⟨rb, (p + 1) * 2, none⟩ (S.length - (p + 1)) (c - (p + 1)) (subCells (S.drop (p + 1))) (by rfl) HDL.out (HSRC.out _ (below_add hb 1)) HDO.out (by omega) (by unfold maxLen; omega) (by omega) ?_; intro v1 w3 hown1 hg1; have hb3 := Below.then (below_add hb 1) (below_none hg1); have hcell3 := (HL.out _ hb3).blk.cell; have hfr3 := (HL.out _ hb3).blk.frozen 0; obtain ⟨a2, c2', rfl, _, _⟩ := own_form hown1))
    all_goals go_wp2_with fail
    all_goals go_ret
    all_goals exact FIN.out _ _ _ _ hb3 (below_add hb 1).size hown1
end Go.Proofs.YtnnpokndajpkiaaDoor
namespace Go.Proofs.YtnnpokndajpkiaaDoor
open Go.RowKit
theorem subs_Drop (B g : Nat) (v : Value) (S : List Sb) (f : ByteArray) (w : World) (hL : LAt w B g v S) (hS : Fine S) (hB : B ≤ w.heap.size) :
    Calls Tryd.prog 99 #[.pointer (some ⟨g, 0, none⟩), .string f] w (RetDrop B g v (atS S (bl f)) (delS S (bl f)) w) := by
  cases hat : atS S (bl f) with
  | true => exact drop_there B g v S f w hL hS hB hat
  | false =>
    have h : delS S (bl f) = S := by unfold delS; rw [hat]; rfl
    rw [h]; exact drop_none B g v S f w hL hS hat
theorem subs_New (w : World) : Calls Tryd.prog 119 #[] w fun e w' => e = .returned (.pointer (some ⟨w.heap.size, 0, none⟩)) ∧ LAt w' w.heap.size w.heap.size (.slice none 0 0) [] ∧ Below w.heap.size w w' := by
  go_enter Tryd.func119, Tryd.ntmps119
  go_wp2_with fail
  go_ret
  exact ⟨rfl, ⟨OneAt.new _ _ _, RowAt.of_own (World.ownsRow_nil _ _ _ _), Nat.le_refl _⟩, by go_grown⟩
end Go.Proofs.YtnnpokndajpkiaaDoor
