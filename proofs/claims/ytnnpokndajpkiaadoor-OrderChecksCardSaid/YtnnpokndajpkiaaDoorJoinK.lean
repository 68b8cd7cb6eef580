import Derived.Test.YtnnpokndajpkiaaDoorJoinQ
import Derived.Test.YtnnpokndajpkiaaDoorJoinL
import Derived.Test.YtnnpokndajpkiaaDoorJoinF
namespace Go.Proofs.YtnnpokndajpkiaaDoor
open Go.RowKit
structure RAt (w : World) (B g : Nat) (v : Value) (S : List Sb) : Prop where
  blk : OneAt w g 114 v
  own : RowAt w B 46 2 v S.length (subCells S)
  lo : B ≤ g
theorem RAt.only {F : Nat → Prop} {w w' : World} {B g : Nat} {v : Value} {S : List Sb} (h : RAt w B g v S) (k : Only F w w') (h1 : ¬ F g) (h2 : ∀ r, v.ownBlock = some r → ¬ F r) : RAt w' B g v S :=
  ⟨h.blk.only k h1, h.own.only k h2, h.lo⟩
theorem RAt.below {w w' : World} {B g : Nat} {v : Value} {S : List Sb} (h : RAt w B g v S) (k : Below w.heap.size w w') : RAt w' B g v S :=
  h.only (Only.of_below k (fun _ => False)) (fun h => h) (fun _ _ h => h)
theorem hasS_drop (S : List Sb) (f : Bs) (k : Nat) (x : Sb) (hx : S[k]? = some x) : hasS (S.drop k) f = (fB x == f || hasS (S.drop (k + 1)) f) := by
  obtain ⟨h1, h2⟩ := List.getElem?_eq_some_iff.1 hx; rw [List.drop_eq_getElem_cons h1, h2]; rfl
theorem ref15_Has (B g : Nat) (v : Value) (S : List Sb) (f : ByteArray) (w : World) (hL : RAt w B g v S) (hfew : S.length ≤ 1000) :
    Calls Tryd.prog 73 #[.pointer (some ⟨g, 0, none⟩), .string f] w fun e w' => e = .returned (.bool (hasS S (bl f))) ∧ w = w' := by
  obtain ⟨a, c, rfl, hc, hcells⟩ := hL.own.form; have hcell := hL.blk.cell; have FIN := Lib.hid (show ∀ (v : Bool) (w' : World), hasS S (bl f) = v → w = w' → Ending.returned (.bool v) = .returned (.bool (hasS S (bl f))) ∧ w = w' from by rintro v w' rfl rfl; exact ⟨rfl, rfl⟩); clear hL; go_enter Tryd.func73, Tryd.ntmps73
  go_wp2_with fail
  go_loopw [5] (fun i wr => ∃ k : Nat, k ≤ S.length ∧ i = .int .i64 k ∧ Hid (hasS (S.drop k) (bl f) = hasS S (bl f)) ∧ w = wr) (fun i _ => S.length - (intOf i).toNat)
  case atStart => exact ⟨0, by omega, rfl, rfl, rfl⟩
  case round =>
    obtain ⟨k, hk, rfl, HP, rfl⟩ := hrel; by_cases hlt : k < S.length
    · obtain ⟨x, hx⟩ : ∃ x, S[k]? = some x := ⟨_, List.getElem?_eq_getElem hlt⟩
      obtain ⟨b, o, rfl, c1, c2⟩ := hcells.sub hx; have HD := Lib.hid (hasS_drop S (bl f) k x hx); obtain ⟨y, q⟩ := x; dsimp only at *
      clear hx; cases he : (bl y == bl f)
      · have h1 := eqTwo y f _ he
        have HE := Lib.hid he; clear he; go_wp2_with fail
        go_roundw
        case rel => exact ⟨k + 1, by omega, by first | rfl | go_num, by rw [Hid, ← HP.out, HD.out, show fB (y, q) = bl y from rfl, HE.out]; rfl, by first | rfl | trivial⟩
        case measure => simp [intOf]; omega
      · have h1 := eqTwo y f _ he
        have HE := Lib.hid he; clear he; go_wp2_with fail
        go_ret
        exact FIN.out _ _ (by rw [← HP.out, HD.out, show fB (y, q) = bl y from rfl, HE.out]; rfl) rfl
    · have : k = S.length := by omega
      subst this; go_wp2_with fail
      go_ret
      exact FIN.out _ _ (by rw [← HP.out, List.drop_eq_nil_of_le (Nat.le_refl _)]; rfl) rfl
end Go.Proofs.YtnnpokndajpkiaaDoor
namespace Go.Proofs.YtnnpokndajpkiaaDoor
open Go.RowKit
def RAfter (B g : Nat) (v : Value) (S' : List Sb) (w w' : World) : Prop := ∃ v', RAt w' B g v' S' ∧ Only (Foot g v) w w' ∧ (∀ r, v'.ownBlock = some r → w.heap.size ≤ r)
theorem stored_rlist {w w4 : World} {B g n c : Nat} {v : Value} {S S' : List Sb} {a : Option Addr} (hL : RAt w B g v S) (hB : B ≤ w.heap.size) (hb : Below w.heap.size w w4)
    (hown : w4.ownsRow w.heap.size 46 2 (.slice a n c) n (subCells S')) (hn : n = S'.length) : RAfter B g v S' w (w4.setCell ⟨g, 0, none⟩ (.slice a n c)) := by
  subst hn; have hl := hL.below hb; refine ⟨_, ⟨hl.blk.set _, ?_, hL.lo⟩, (Only.of_below hb _).setCell (Or.inl (Or.inl rfl)) _, fun r hr => (own_lt hown hr).2⟩; refine RowAt.base (B := w.heap.size) ?_ hB; refine (RowAt.of_own hown).only ((Only.refl (fun k => k = g) _).setCell (Or.inl rfl) _) ?_; rintro r hr rfl; have := (own_lt hown hr).2; have := hL.blk.lt; omega
def notB (f : Bs) (x : Sb) : Bool := !(fB x == f)
theorem filter_take_succ (S : List Sb) (f : Bs) (k : Nat) (x : Sb) (hx : S[k]? = some x) : (S.take (k + 1)).filter (notB f) = (S.take k).filter (notB f) ++ if notB f x then [x] else [] := by
  rw [List.take_add_one, hx, List.filter_append]; simp [List.filter_cons]
set_option maxRecDepth 100000 in
theorem ref15_Drop (B g : Nat) (v : Value) (S : List Sb) (f : ByteArray) (w : World) (hL : RAt w B g v S) (hB : B ≤ w.heap.size) (hfew : S.length ≤ 1000) :
    Calls Tryd.prog 59 #[.pointer (some ⟨g, 0, none⟩), .string f] w fun e w' => e = .returned (.bool (hasS S (bl f))) ∧ RAfter B g v (S.filter (notB (bl f))) w w' := by
  obtain ⟨i0, hi, hz0, hz1, hz2⟩ := info_parts infoSub; have hH := Lib.hid (ref15_Has B g v S f w hL hfew); have HL := Lib.hid (fun w1 (hb : Below w.heap.size w w1) => hL.below hb); have FIN := Lib.hid (show ∀ (w4 : World) (a : Option Addr) (n c : Nat) (T : List Sb), Below w.heap.size w w4 → S.filter (notB (bl f)) = T → n = T.length → w4.ownsRow w.heap.size 46 2 (.slice a n c) n (subCells T) → RAfter B g v (S.filter (notB (bl f))) w (w4.setCell ⟨g, 0, none⟩ (.slice a n c)) from fun w4 a n c T hb hT hn hown => by
    subst hT; exact stored_rlist hL hB hb hown hn)
  obtain ⟨a, c, hv, hc, _⟩ := hL.own.form; subst hv; generalize hasS S (bl f) = was at *; clear hL; go_enter Tryd.func59, Tryd.ntmps59
  go_wp2_with (go_at_call 73; refine Calls.mono hH.out ?_; rintro e w1 ⟨rfl, rfl⟩)
  go_loopw [6, 7] (fun p i wr => ∃ (k m : Nat), k ≤ S.length ∧ i = .int .i64 k ∧ m ≤ k ∧ Hid (m = ((S.take k).filter (notB (bl f))).length ∧ wr.ownsRow w.heap.size 46 2 p m (subCells ((S.take k).filter (notB (bl f))))) ∧ Below w.heap.size w wr) (fun _ i _ => S.length - (intOf i).toNat)
  case atStart => exact ⟨0, 0, by omega, rfl, by omega, ⟨rfl, World.ownsRow_nil _ _ _ _⟩, Below.refl _ _⟩
  case round =>
    obtain ⟨k, m, hk, rfl, hm, HROW, hbr⟩ := hrel; have hlr := HL.out _ hbr; have hcell := hlr.blk.cell; by_cases hlt : k < S.length
    · obtain ⟨x, hx⟩ : ∃ x, S[k]? = some x := ⟨_, List.getElem?_eq_getElem hlt⟩
      obtain ⟨a', c', hv, _, hcells⟩ := hlr.own.form; injection hv with e1 _ e2
      subst e1 e2; obtain ⟨bb, o, rfl, c1, c2⟩ := hcells.sub hx; have hst := filter_take_succ S (bl f) k x hx; have hsz := hbr.size; obtain ⟨y, q⟩ := x; dsimp only at *
      clear hx hcells hlr; cases he : (bl y == bl f)
      · have h1 := eqTwo y f _ he
        have h2 : (y.toList != f.toList) = true := by rw [bne, h1]; rfl
        rw [show notB (bl f) (y, q) = true by unfold notB; rw [show fB (y, q) = bl y from rfl, he]; rfl, if_pos rfl] at hst; have HST := Lib.hid hst; clear he hst; go_wp2_with (first
          | (at_builtin; refine wpList_append_own _ rfl (.tmp 30) (.tmp 38) 38 rfl w.heap.size 46 i0 _ 2 24 Tryd.underlying38 hi hz0 hz1 hz2 rfl (by decide) _ m _ rfl (HROW.out.2.alloc _) ⟨wr.heap.size, 0, none⟩ 1 1 [.string y, .int .u8 (q : Int)] rfl rfl (newsN _ _ _ _ rfl) (by simp [Value.oneCell']) (by unfold maxLen; omega) (by omega) (by simp; omega) ?_; intro v2 w2 hown2 hg2 _; have hb2 := Below.grown' (hbr.alloc hsz _) hg2 (by simp; omega) (fun r hr => (own_lt HROW.out.2 hr).2); have HROW2 := Lib.hid hown2; clear hown2 hg2))
        go_roundw
        case rel => exact ⟨k + 1, m + 1, by omega, by first | rfl | go_num, by omega, ⟨by rw [HST.out, List.length_append, ← HROW.out.1]; rfl, by rw [HST.out, subCells_append]; exact HROW2.out⟩, hb2⟩
        case measure => simp [intOf]; omega
      · have h1 := eqTwo y f _ he
        have h2 : (y.toList != f.toList) = false := by rw [bne, h1]; rfl
        rw [show notB (bl f) (y, q) = false by unfold notB; rw [show fB (y, q) = bl y from rfl, he]; rfl] at hst; have HST := Lib.hid (hst.trans (by simp : _ = (S.take k).filter (notB (bl f)))); clear he hst; go_wp2_with fail
        go_roundw
        case rel => exact ⟨k + 1, m, by omega, by first | rfl | go_num, by omega, ⟨by rw [HST.out]; exact HROW.out.1, by rw [HST.out]; exact HROW.out.2⟩, hbr⟩
        case measure => simp [intOf]; omega
    · have : k = S.length := by omega
      subst this; have hfr := hlr.blk.frozen 0; have HK := Lib.hid HROW.out.1; have hrow := HROW.out.2; rw [List.take_length] at hrow; rw [List.take_length] at HK; obtain ⟨a3, c3, hp3, _, _⟩ := own_form hrow; subst hp3; have HR := Lib.hid hrow; clear hrow hlr; go_wp2_with fail
      go_ret
      exact ⟨rfl, FIN.out _ _ _ _ _ hbr rfl HK.out HR.out⟩
end Go.Proofs.YtnnpokndajpkiaaDoor
namespace Go.Proofs.YtnnpokndajpkiaaDoor
open Go.RowKit
end Go.Proofs.YtnnpokndajpkiaaDoor
namespace Go.Proofs.YtnnpokndajpkiaaDoor
open Go.RowKit
def RetRSet (B g : Nat) (v : Value) (code : Nat) (S' : List Sb) (w : World) (e : Ending) (w' : World) : Prop :=
  ∃ v', e = .returned (.int .u8 (code : Int)) ∧ RAt w' B g v' S' ∧ Only (Foot g v) w w' ∧ (∀ r, v'.ownBlock = some r → v.ownBlock = some r ∨ w.heap.size ≤ r)
theorem RetRSet.same {B g : Nat} {v : Value} {S : List Sb} {code : Nat} {w w' : World} (hL : RAt w B g v S) (hb : Below w.heap.size w w') : RetRSet B g v code S w (.returned (.int .u8 (code : Int))) w' :=
  ⟨v, rfl, hL.below hb, Only.of_below hb _, fun r h => Or.inl h⟩
theorem rset_refused (B g : Nat) (v : Value) (S : List Sb) (f : ByteArray) (q : Nat) (w : World) (hL : RAt w B g v S) (hf : f.size ≤ 300) (hq : q < 256) (hno : okQ (bl f) q = false) :
    Calls Tryd.prog 58 #[.pointer (some ⟨g, 0, none⟩), .string f, .int .u8 (q : Int)] w (RetRSet B g v 128 S w) := by
  have FIN := Lib.hid (show ∀ w', Below w.heap.size w w' → RetRSet B g v 128 S w (.returned (.int .u8 128)) w' from fun w' hb => RetRSet.same hL hb); clear hL; unfold okQ at hno; by_cases h2 : q ≤ 2
  · have hno : filterL (bl f) = false := by simpa [h2] using hno
    have hF := ref07_Filter f w (by omega); rw [hno] at hF; have HF := Lib.hid hF; have c1 : ¬ (2 : Int) < (q : Int) := by omega
    clear hF hno; go_enter Tryd.func58, Tryd.ntmps58
    go_wp2_with (go_at_call 72; refine Calls.mono HF.out ?_; rintro e w1 ⟨rfl, hb⟩)
    go_ret
    exact FIN.out _ hb
  · have c1 : (2 : Int) < (q : Int) := by omega
    clear hno; go_enter Tryd.func58, Tryd.ntmps58
    go_wp2_with fail
    go_ret
    exact FIN.out _ (Below.refl _ _)
theorem rset_full (B g : Nat) (v : Value) (S : List Sb) (f : ByteArray) (q : Nat) (w : World) (hL : RAt w B g v S) (hS : Fine S) (hf : f.size ≤ 300) (hq : q < 256) (hok : okQ (bl f) q = true) (hat : atS S (bl f) = false) (hfull : ¬ S.length < 16) :
    Calls Tryd.prog 58 #[.pointer (some ⟨g, 0, none⟩), .string f, .int .u8 (q : Int)] w (RetRSet B g v 128 S w) := by
  have FIN := Lib.hid (show ∀ w', Below w.heap.size w w' → RetRSet B g v 128 S w (.returned (.int .u8 128)) w' from fun w' hb => RetRSet.same hL hb); unfold okQ at hok; rw [Bool.and_eq_true, decide_eq_true_eq] at hok; obtain ⟨h2, hfl⟩ := hok; have hF := ref07_Filter f w (by omega); rw [hfl] at hF; have HF := Lib.hid hF; have hfew := hS.few; have HH := Lib.hid (fun w1 (hb : Below w.heap.size w w1) => ref15_Has B g v S f w1 (hL.below hb) (by omega)); rw [hasS_at S (bl f) hS.sort, hat] at HH; obtain ⟨a, c, rfl, hc, hcells⟩ := hL.own.form; have HL := Lib.hid (fun w1 (hb : Below w.heap.size w w1) => (hL.below hb).blk.cell); have c1 : ¬ (2 : Int) < (q : Int) := by omega
  have c2 : (16 : Int) ≤ (S.length : Int) := by omega
  clear hF hfl hcells hL hS hat; go_enter Tryd.func58, Tryd.ntmps58
  go_wp2_with (first
    | (go_at_call 72; refine Calls.mono HF.out ?_; rintro e w1 ⟨rfl, hb⟩)
    | (go_at_call 73; refine Calls.mono (HH.out _ hb) ?_; rintro e w2 ⟨rfl, rfl⟩; have hcell := HL.out _ hb))
  go_ret
  exact FIN.out _ hb
end Go.Proofs.YtnnpokndajpkiaaDoor
namespace Go.Proofs.YtnnpokndajpkiaaDoor
open Go.RowKit
theorem own_empty {w w' : World} {B : Nat} {T : TypeId} (h : w.alloc (.cells #[] T) = w') (hB : B ≤ w.heap.size) : w'.ownsRow B T 2 (.slice (some ⟨w.heap.size, 0, none⟩) 0 0) 0 [] := by
  subst h; exact ⟨rfl, Or.inr ⟨w.heap.size, 0, #[], rfl, hB, heap_alloc_new w _, Nat.le_refl _, by unfold maxLen; omega, rfl, rfl⟩⟩
theorem own_al {w w' : World} {B n size : Nat} {e : TypeId} {v : Value} {xs : List Value} {o : Obj} (h : w.ownsRow B e size v n xs) (hA : w.alloc o = w') : w'.ownsRow B e size v n xs := by subst hA; exact h.alloc _
theorem below_al2 {w w' : World} {o : Obj} (h : w.alloc o = w') : Below w.heap.size w w' := by subst h; exact (Below.refl _ _).alloc (Nat.le_refl _) _
theorem lt_al {w w' : World} {o : Obj} (h : w.alloc o = w') : w.heap.size < w'.heap.size := by subst h; simp
theorem cells_new2 {w w' : World} {x y : Value} {T : TypeId} (h : w.alloc (.cells #[x, y] T) = w') : CellsA w' (some ⟨w.heap.size, 0, none⟩) [x, y] := by
  subst h; intro j u hu; refine ⟨_, _, rfl, ?_⟩; rw [Nat.zero_add, cell_of_row _ _ _ _ _ _ (heap_alloc_new w _)]; simpa using hu
theorem CellsA.far {w w' : World} {H X n c : Nat} {xs : List Value} (h : CellsA w (some ⟨H, 0, none⟩) xs) (k : w.grownBy w' (Value.ownBlock (.slice (some ⟨X, 0, none⟩) n c))) (hne : H ≠ X) : CellsA w' (some ⟨H, 0, none⟩) xs := fun j v hv => by
  obtain ⟨b, o, ha, hc⟩ := h j v hv; injection ha with ha
  injection ha with e1 e2
  subst e1 e2; exact ⟨H, 0, rfl, (World.cell?_of_block (k.block H (World.block_lt_of_cell? _ _ hc) (by simp only [Value.ownBlock]; intro e; injection e with e; exact hne e))).trans hc⟩
theorem cells_take {w : World} {a : Option Addr} {S : List Sb} {p : Nat} (h : CellsA w a (subCells S)) : CellsA w a (subCells (S.take p)) := fun j u hu => by
  refine h j u ?_; rw [← List.take_append_drop p S, subCells_append, List.getElem?_append_left (List.getElem?_eq_some_iff.1 hu).1]; exact hu
theorem lessTwo (x y : ByteArray) (v : Bool) (h : lessB (bl x) (bl y) = v) : Op.bytesLess x.toList y.toList = v := by rw [Lib.toList_data, Lib.toList_data]; exact h
set_option maxHeartbeats 8000000 in
set_option maxRecDepth 100000 in
theorem rset_ok (B g : Nat) (v : Value) (S : List Sb) (f : ByteArray) (q : Nat) (w : World) (hL : RAt w B g v S) (hS : Fine S) (hB : B ≤ w.heap.size) (hf : f.size ≤ 300) (hq : q < 256) (hok : okQ (bl f) q = true) (hroom : atS S (bl f) = true ∨ S.length < 16) :
    Calls Tryd.prog 58 #[.pointer (some ⟨g, 0, none⟩), .string f, .int .u8 (q : Int)] w (RetRSet B g v q (insS S f q) w) := by
  unfold okQ at hok; rw [Bool.and_eq_true, decide_eq_true_eq] at hok; obtain ⟨h2, hfl⟩ := hok; obtain ⟨i0, hi, hz0, hz1, hz2⟩ := info_parts infoSub; have hF := ref07_Filter f w (by omega); rw [hfl] at hF; have HF := Lib.hid hF; have hfew := hS.few; have HH := Lib.hid (fun w1 (hb : Below w.heap.size w w1) => ref15_Has B g v S f w1 (hL.below hb) (by omega)); rw [hasS_at S (bl f) hS.sort] at HH; have HD := Lib.hid (fun w1 (hb : Below w.heap.size w w1) => ref15_Drop B g v S f w1 (hL.below hb) (Nat.le_trans hB hb.size) (by omega)); have hdf := del_filter S (bl f) hS.sort; rw [show S.filter (notB (bl f)) = delS S (bl f) from hdf] at HD; have hsd := del_sort S (bl f) hS.sort; have hid := ins_del S f q hS.sort; have hdl : (delS S (bl f)).length ≤ 16 := (delS_fine hS (bl f)).few; have hil := ins_len S f q; obtain ⟨a0, c0, hv, hc0, _⟩ := hL.own.form; have HL := Lib.hid (fun w1 (hb : Below w.heap.size w w1) => hv ▸ (hL.below hb).blk.cell); generalize delS S (bl f) = D at *; have c1 : ¬ (2 : Int) < (q : Int) := by omega
  have hglt := hL.blk.lt; clear hF hfl hdf hL hS; obtain ⟨t, ht⟩ : ∃ t, atS S (bl f) = t := ⟨_, rfl⟩
  rw [ht] at HH hil hroom; have HV := Lib.hid hv; have HID := Lib.hid hid; have HIL := Lib.hid hil; have HSD := Lib.hid hsd; have c4 : t = true ∨ (t = false ∧ ¬ (16 : Int) ≤ (S.length : Int)) := by
    cases t
    · right
      refine ⟨rfl, ?_⟩; rcases hroom with h | h
      · cases h
      · omega
    · left; rfl
  clear hv hid hil hsd hroom ht; rcases c4 with rfl | ⟨rfl, c3⟩
  all_goals
    go_enter Tryd.func58, Tryd.ntmps58
    go_wp2_with (first
      | (go_at_call 72; refine Calls.mono HF.out ?_; rintro e w1 ⟨rfl, hb⟩)
      | (go_at_call 73; refine Calls.mono (HH.out _ hb) ?_; rintro e w1' ⟨rfl, rfl⟩; have hcell := HL.out _ hb)
      | (go_at_call 59; refine Calls.mono (HD.out _ hb) ?_; rintro e w2 ⟨rfl, v2, hR2, ho2, hn2⟩; obtain ⟨a, c, rfl, hc, hcells⟩ := hR2.own.form; have hcell2 := hR2.blk.cell))
    have RL := Lib.hid (fun w3 (hb3 : Below w2.heap.size w2 w3) => hR2.below hb3); have HAC := Lib.hid (show a = none → c = 0 from fun h => by
      rcases hR2.own.2 with ⟨hv, _⟩ | ⟨_, _, _, hv, _⟩
      · injection hv
      · rw [h] at hv; cases hv)
    have HCELLS := Lib.hid (fun w3 (hb3 : Below w2.heap.size w2 w3) => hcells.below hb3); have FIN0 := Lib.hid (show ∀ (k : Nat), posS D (bl f) = k → ∀ (w4 : World) (a3 : Option Addr) (n c3 : Nat), Below w2.heap.size w2 w4 → w4.ownsRow w2.heap.size 46 2 (.slice a3 n c3) n ((([] ++ subCells (D.take k)) ++ [.string f, .int .u8 (q : Int)]) ++ subCells (D.drop k)) → n = k + 1 + (D.length - k) →
        RetRSet B g v q (insS S f q) w (.returned (.int .u8 (q : Int))) (w4.setCell ⟨g, 0, none⟩ (.slice a3 n c3)) from by
      intro k hk w4 a3 n c3 hb4 hown hn; have hkl := posS_le D (bl f); have e1 : ([] ++ subCells (D.take k)) ++ [Value.string f, .int .u8 (q : Int)] ++ subCells (D.drop k) = subCells (insS S f q) := by
        rw [← HID.out, hk, subCells_append, subCells_cons, List.nil_append, List.append_assoc]; rfl
      rw [e1] at hown; have e2 : n = (insS S f q).length := by
        rw [← HID.out, hk, List.length_append, List.length_cons, List.length_take, List.length_drop]; omega
      obtain ⟨v5, h5, h6, h7⟩ := stored_rlist hR2 (Nat.le_trans (Nat.le_trans hB hb.size) ho2.size) hb4 hown e2; refine ⟨v5, rfl, h5, ((Only.of_below hb (Foot g v)).trans (ho2) (fun j _ h => h)).trans h6 ?_, fun r hr => Or.inr (Nat.le_trans (Nat.le_trans hb.size ho2.size) (h7 r hr))⟩; intro j hj hF; rcases hF with h | h
      · exact Or.inl h
      · have := hn2 j h
        have := hb.size; omega)
    clear hR2 ho2 hn2 hcells HD HH HF HL; go_loopw [7] (fun i wr => ∃ k : Nat, k ≤ D.length ∧ i = .int .i64 k ∧ Hid (∀ t x, t < k → D[t]? = some x → lessB (fB x) (bl f) = true) ∧ w2 = wr) (fun i _ => D.length - (intOf i).toNat)
    case atStart => exact ⟨0, by omega, rfl, (fun t x h => by omega), rfl⟩
    case round =>
      obtain ⟨k, hk, rfl, HP, rfl⟩ := hrel; by_cases hgo : ∃ x, D[k]? = some x ∧ lessB (fB x) (bl f) = true
      · obtain ⟨x, hx, hl⟩ := hgo
        have hlt : k < D.length := (List.getElem?_eq_some_iff.1 hx).1; obtain ⟨bb, o, rfl, c11, c12⟩ := (HCELLS.out _ (Below.refl _ _)).sub hx; have hs1 := lessTwo x.1 f _ hl; have HP2 := Lib.hid (show ∀ t y, t < k + 1 → D[t]? = some y → lessB (fB y) (bl f) = true from fun t y ht hy => by
          by_cases e : t = k
          · subst e
            rw [hx] at hy; injection hy with hy
            subst hy; exact hl
          · exact HP.out t y (by omega) hy)
        obtain ⟨y, q2⟩ := x; dsimp only at *
        clear hx hl; go_wp2_with fail
        go_roundw
        case rel => exact ⟨k + 1, by omega, by first | rfl | go_num, HP2.out, by first | rfl | trivial⟩
        case measure => simp [intOf]; omega
      · have hpos : posS D (bl f) = k := posS_is HSD.out hk HP.out (fun t y ht hy => by
          cases hq2 : lessB (fB y) (bl f) with
          | false => rfl
          | true =>
            have h1 := (List.getElem?_eq_some_iff.1 hy).1; obtain ⟨z, hz⟩ : ∃ z, D[k]? = some z := ⟨_, List.getElem?_eq_getElem (by omega)⟩
            by_cases e : k = t
            · subst e
              exact absurd ⟨y, hy, hq2⟩ hgo
            · obtain ⟨hz1, hz2⟩ := List.getElem?_eq_some_iff.1 hz
              obtain ⟨hy1, hy2⟩ := List.getElem?_eq_some_iff.1 hy; have hm := List.pairwise_iff_getElem.1 HSD.out k t hz1 hy1 (by omega); rw [hz2, hy2] at hm; exact absurd ⟨z, hz, lessB_trans hm hq2⟩ hgo)
        have FIN := Lib.hid (FIN0.out k hpos); have HT := Lib.hid (show (subCells (D.take k)).length = k * 2 by rw [subCells_len, List.length_take, Nat.min_eq_left hk]); have HTO := Lib.hid (subCells_one (D.take k)); have HTK := Lib.hid (fun w3 (hb3 : Below w2.heap.size w2 w3) => cells_take (p := k) (HCELLS.out w3 hb3)); have HCUT := Lib.hid (fun w3 (hb3 : Below w2.heap.size w2 w3) => cells_cut (HCELLS.out w3 hb3) hk hc); have HN2 := Lib.hid (show (if c = k then a else Option.map (fun x => x.add (k * 2)) a) = none → c - k = 0 from fun h => by
          have h1 := HAC.out; cases a with
          | none => have := h1 rfl; omega
          | some b => split at h <;> cases h)
        have HDL := Lib.hid (show (subCells (D.drop k)).length = (D.length - k) * 2 by rw [subCells_len, List.length_drop]); have HDO := Lib.hid (subCells_one (D.drop k)); have HO := Lib.hid (show ∀ u ∈ [Value.string f, Value.int .u8 (q : Int)], u.oneCell' = true from by simp [Value.oneCell']); have g1 : (0 : Int) ≤ (k : Int) := by omega
        have g2 : (k : Int) ≤ (D.length : Int) := by omega
        have g3 : (k : Int) ≤ (c : Int) := by omega
        clear hpos FIN0; have hways : (∃ x, D[k]? = some x ∧ lessB (fB x) (bl f) = false) ∨ k = D.length := by
          rcases Nat.lt_or_ge k D.length with h | h
          · left
            refine ⟨_, List.getElem?_eq_getElem h, ?_⟩; cases hq2 : lessB (fB D[k]) (bl f) with
            | false => rfl
            | true => exact absurd ⟨_, List.getElem?_eq_getElem h, hq2⟩ hgo
          · right; omega
        clear hgo HP HSD HID HIL HV; have HW := Lib.hid hways; clear hways; rcases HW.out with ⟨x, hx, hl⟩ | hkD
        · have hlt : k < D.length := (List.getElem?_eq_some_iff.1 hx).1
          obtain ⟨bb, o, rfl, c11, c12⟩ := (HCELLS.out _ (Below.refl _ _)).sub hx; have hs1 := lessTwo x.1 f _ hl; obtain ⟨y, q2⟩ := x; dsimp only at *
          have hck : ¬ c = k := by omega
          have HCUT2 := Lib.hid (fun w3 (hb3 : Below w2.heap.size w2 w3) => (show CellsA w3 (some ⟨bb, o + k * 2, none⟩) (subCells (D.drop k)) from by
            have h := HCUT.out w3 hb3; rw [if_neg hck] at h; have e : Option.map (fun x => Addr.add x (k * 2)) (some ⟨bb, o, none⟩) = some ⟨bb, o + k * 2, none⟩ := by
              show some (Addr.add ⟨bb, o, none⟩ (k * 2)) = _; rw [Addr.add_lit]
            rw [e] at h; exact h))
          clear hx hl; go_wp2_with fail
          refine wp_region_noPanic ?_; refine AnyT.begin (S := fun w' => w'.cell? ⟨g, 0, none⟩ = some (.slice (some ⟨bb, o, none⟩) D.length c)) (z := 23) (by kernel_rfl) ?_ (fun hHeld => ?_)
          · exact (RL.out _ (below_add (Below.refl _ _) 1)).blk.cell
          have hbx : Below w2.heap.size w2 w2.drew := below_add (Below.refl _ _) 1; generalize World.drew w2 = wx at hHeld hbx ⊢; refine AnyT.take (i := 0) (oi := ⟨some 53, _, _, _, _, _⟩) (v := ?_) rfl (by kernel_rfl) (by kernel_rfl) (by kernel_rfl) (by kernel_rfl) (fun _ _ _ h => h) (Or.inl ⟨by rfl, ?_⟩) (by assumption) ?_; rotate_left
          · (intro w hSw; (try dsimp only at hSw); go_simp; try with_reducible rfl)
          try simp only [Act.put, List.setIfInBounds_toArray, List.set_cons_zero, List.set_cons_succ]
          refine AnyT.take (i := 2) (oi := ⟨some 55, _, _, _, _, _⟩) (v := ?_) rfl (by kernel_rfl) (by kernel_rfl) (by kernel_rfl) (by kernel_rfl) (fun _ _ _ h => h) (Or.inl ⟨by rfl, ?_⟩) (by assumption) ?_; rotate_left
          · (intro w hSw; (try dsimp only at hSw); go_simp; try with_reducible rfl)
          try simp only [Act.put, List.setIfInBounds_toArray, List.set_cons_zero, List.set_cons_succ]
          refine AnyT.take (i := 3) (oi := ⟨some 56, _, _, _, _, _⟩) (v := ?_) rfl (by kernel_rfl) (by kernel_rfl) (by kernel_rfl) (by kernel_rfl) (fun _ _ _ h => h) (Or.inl ⟨by rfl, ?_⟩) (by assumption) ?_; rotate_left
          · (intro w hSw; (try dsimp only at hSw); go_simp; try with_reducible rfl)
          try simp only [Act.put, List.setIfInBounds_toArray, List.set_cons_zero, List.set_cons_succ]
          refine AnyT.take (i := 4) (oi := ⟨some 57, _, _, _, _, _⟩) (v := ?_) rfl (by kernel_rfl) (by kernel_rfl) (by kernel_rfl) (by kernel_rfl) (fun _ _ _ h => h) (Or.inl ⟨by rfl, ?_⟩) (by assumption) ?_; rotate_left
          · (intro w hSw; (try dsimp only at hSw); go_simp; try with_reducible rfl)
          try simp only [Act.put, List.setIfInBounds_toArray, List.set_cons_zero, List.set_cons_succ]
          refine AnyT.take (i := 5) (oi := ⟨some 58, _, _, _, _, _⟩) (v := ?_) rfl (by kernel_rfl) (by kernel_rfl) (by kernel_rfl) (by kernel_rfl) (fun _ _ _ h => h) (Or.inl ⟨by rfl, ?_⟩) (by assumption) ?_; rotate_left
          · (intro w hSw; (try dsimp only at hSw); go_simp; try with_reducible rfl)
          try simp only [Act.put, List.setIfInBounds_toArray, List.set_cons_zero, List.set_cons_succ]
          refine AnyT.take (i := 6) (oi := ⟨some 59, _, _, _, _, _⟩) (v := ?_) rfl (by kernel_rfl) (by kernel_rfl) (by kernel_rfl) (by kernel_rfl) (fun _ _ _ h => h) (Or.inl ⟨by rfl, ?_⟩) (by assumption) ?_; rotate_left
          · (intro w hSw; (try dsimp only at hSw); go_simp; try with_reducible rfl)
          try simp only [Act.put, List.setIfInBounds_toArray, List.set_cons_zero, List.set_cons_succ]
          refine AnyT.take (i := 7) (oi := ⟨some 60, _, _, _, _, _⟩) (v := ?_) rfl (by kernel_rfl) (by kernel_rfl) (by kernel_rfl) (by kernel_rfl) (fun _ _ _ h => h) (Or.inl ⟨by rfl, ?_⟩) (by assumption) ?_; rotate_left
          · (intro w hSw; (try dsimp only at hSw); go_simp; try with_reducible rfl)
          try simp only [Act.put, List.setIfInBounds_toArray, List.set_cons_zero, List.set_cons_succ]
          refine AnyT.take (i := 9) (oi := ⟨some 62, _, _, _, _, _⟩) (v := ?_) rfl (by kernel_rfl) (by kernel_rfl) (by kernel_rfl) (by kernel_rfl) (fun _ _ _ h => h) (Or.inl ⟨by rfl, ?_⟩) (by assumption) ?_; rotate_left
          · (intro w hSw; (try dsimp only at hSw); go_simp; try with_reducible rfl)
          try simp only [Act.put, List.setIfInBounds_toArray, List.set_cons_zero, List.set_cons_succ]
          refine AnyT.take (i := 10) (oi := ⟨some 63, _, _, _, _, _⟩) (v := ?_) rfl (by kernel_rfl) (by kernel_rfl) (by kernel_rfl) (by kernel_rfl) (fun _ _ _ h => h) (Or.inl ⟨by rfl, ?_⟩) (by assumption) ?_; rotate_left
          · (intro w hSw; (try dsimp only at hSw); go_simp; try with_reducible rfl)
          try simp only [Act.put, List.setIfInBounds_toArray, List.set_cons_zero, List.set_cons_succ]
          refine AnyT.take (i := 11) (oi := ⟨some 64, _, _, _, _, _⟩) (v := ?_) rfl (by kernel_rfl) (by kernel_rfl) (by kernel_rfl) (by kernel_rfl) (fun _ _ _ h => h) (Or.inl ⟨by rfl, ?_⟩) (by assumption) ?_; rotate_left
          · (intro w hSw; (try dsimp only at hSw); go_simp; try with_reducible rfl)
          try simp only [Act.put, List.setIfInBounds_toArray, List.set_cons_zero, List.set_cons_succ]
          refine AnyT.take (i := 14) (oi := ⟨some 67, _, _, _, _, _⟩) (v := ?_) rfl (by kernel_rfl) (by kernel_rfl) (by kernel_rfl) (by kernel_rfl) (fun _ _ _ h => h) (Or.inl ⟨by rfl, ?_⟩) (by assumption) ?_; rotate_left
          · (intro w hSw; (try dsimp only at hSw); go_simp; try with_reducible rfl)
          try simp only [Act.put, List.setIfInBounds_toArray, List.set_cons_zero, List.set_cons_succ]
          refine AnyT.take (i := 15) (oi := ⟨some 68, _, _, _, _, _⟩) (v := ?_) rfl (by kernel_rfl) (by kernel_rfl) (by kernel_rfl) (by kernel_rfl) (fun _ _ _ h => h) (Or.inl ⟨by rfl, ?_⟩) (by assumption) ?_; rotate_left
          · (intro w hSw; (try dsimp only at hSw); go_simp; try with_reducible rfl)
          try simp only [Act.put, List.setIfInBounds_toArray, List.set_cons_zero, List.set_cons_succ]
          refine AnyT.take (i := 16) (oi := ⟨some 69, _, _, _, _, _⟩) (v := ?_) rfl (by kernel_rfl) (by kernel_rfl) (by kernel_rfl) (by kernel_rfl) (fun _ _ _ h => h) (Or.inl ⟨by rfl, ?_⟩) (by assumption) ?_; rotate_left
          · (intro w hSw; (try dsimp only at hSw); go_simp; try with_reducible rfl)
          try simp only [Act.put, List.setIfInBounds_toArray, List.set_cons_zero, List.set_cons_succ]
          refine AnyT.take (i := 17) (oi := ⟨some 70, _, _, _, _, _⟩) (v := ?_) rfl (by kernel_rfl) (by kernel_rfl) (by kernel_rfl) (by kernel_rfl) (fun _ _ _ h => h) (Or.inl ⟨by rfl, ?_⟩) (by assumption) ?_; rotate_left
          · (intro w hSw; (try dsimp only at hSw); go_simp; try with_reducible rfl)
          try simp only [Act.put, List.setIfInBounds_toArray, List.set_cons_zero, List.set_cons_succ]
          refine AnyT.take (i := 18) (oi := ⟨some 71, _, _, _, _, _⟩) (v := ?_) rfl (by kernel_rfl) (by kernel_rfl) (by kernel_rfl) (by kernel_rfl) (fun _ _ _ h => h) (Or.inl ⟨by rfl, ?_⟩) (by assumption) ?_; rotate_left
          · (intro w hSw; (try dsimp only at hSw); go_simp; try with_reducible rfl)
          try simp only [Act.put, List.setIfInBounds_toArray, List.set_cons_zero, List.set_cons_succ]
          refine AnyT.take (i := 19) (oi := ⟨some 72, _, _, _, _, _⟩) (v := ?_) rfl (by kernel_rfl) (by kernel_rfl) (by kernel_rfl) (by kernel_rfl) (fun _ _ _ h => h) (Or.inl ⟨by rfl, ?_⟩) (by assumption) ?_; rotate_left
          · (intro w hSw; (try dsimp only at hSw); go_simp; try with_reducible rfl)
          try simp only [Act.put, List.setIfInBounds_toArray, List.set_cons_zero, List.set_cons_succ]
          refine AnyT.step2 (i := 1) (j := 12) (o := ⟨some 54, _, _, _, _, _⟩) (o2 := ⟨some 65, _, _, _, _, _⟩) (by kernel_rfl) rfl rfl (fun K hK => ?_) (fun K hK => ?_)
          · (go_simp; obtain ⟨x1, hA⟩ : ∃ x, World.alloc wx (.cells #[] 46) = x := ⟨_, rfl⟩; rw [hA]; have hown0 := own_empty hA hbx.size; replace hbx := Below.then hbx (below_al2 hA); clear hA)
            refine hK.out _ _ (fun _ => ?_) (fun hHeld => ?_)
            · exact (RL.out _ hbx).blk.cell
            replace hHeld := hHeld (by decide); clear hK K; try simp only [Act.put, List.setIfInBounds_toArray, List.set_cons_zero, List.set_cons_succ]
            refine AnyT.step2 (i := 8) (j := 12) (o := ⟨some 61, _, _, _, _, _⟩) (o2 := ⟨some 65, _, _, _, _, _⟩) (by kernel_rfl) rfl rfl (fun K hK => ?_) (fun K hK => ?_)
            · (refine step_append_cells rfl (.tmp 54) (.tmp 60) 38 rfl _ 46 i0 _ 2 24 Tryd.underlying38 hi hz0 hz1 hz2 rfl (by decide) _ 0 [] (by rfl) hown0 (some ⟨bb, o, none⟩) k c HAC.out (subCells (D.take k)) (by rfl) HT.out (HTK.out _ hbx) HTO.out (by unfold maxLen; omega) (by omega) hbx.size ?_; intro v1 x2 hown1 hg1; replace hbx := Below.grown' hbx hg1 hbx.size (fun r hr => (own_lt hown0 hr).2); clear hg1 hown0)
              refine hK.out _ _ (fun _ => ?_) (fun hHeld => ?_)
              · exact (RL.out _ hbx).blk.cell
              replace hHeld := hHeld (by decide); clear hK K; try simp only [Act.put, List.setIfInBounds_toArray, List.set_cons_zero, List.set_cons_succ]
              refine AnyT.step (i := 12) (o := ⟨some 65, _, _, _, _, _⟩) (by kernel_rfl) rfl (fun K hK => ?_)
              (go_simp; obtain ⟨x3, hA⟩ : ∃ x, World.alloc x2 (.cells #[.string f, .int .u8 (q : Int)] 46) = x := ⟨_, rfl⟩; rw [hA]; have hel := cells_new2 hA; replace hown1 := own_al hown1 hA; replace hbx := Below.then hbx (below_al2 hA); clear hA)
              refine hK.out _ _ (fun _ => ?_) (fun hHeld => ?_)
              · exact (RL.out _ hbx).blk.cell
              replace hHeld := hHeld (by decide); clear hK K; try simp only [Act.put, List.setIfInBounds_toArray, List.set_cons_zero, List.set_cons_succ]
              refine AnyT.step (i := 13) (o := ⟨some 66, _, _, _, _, _⟩) (by kernel_rfl) rfl (fun K hK => ?_)
              (refine step_append_cells rfl (.tmp 61) (.tmp 65) 38 rfl _ 46 i0 _ 2 24 Tryd.underlying38 hi hz0 hz1 hz2 rfl (by decide) v1 (0 + k) _ (by rfl) hown1 _ 1 1 (fun h => by cases h) [.string f, .int .u8 (q : Int)] (by rfl) rfl hel HO.out (by unfold maxLen; omega) (by omega) hbx.size ?_; intro v2 x4 hown2 hg2; replace hbx := Below.grown' hbx hg2 hbx.size (fun r hr => (own_lt hown1 hr).2); clear hg2 hown1 hel)
              refine hK.out _ _ (fun _ => ?_) (fun hHeld => ?_)
              · exact (RL.out _ hbx).blk.cell
              replace hHeld := hHeld (by decide); clear hK K; try simp only [Act.put, List.setIfInBounds_toArray, List.set_cons_zero, List.set_cons_succ]
              refine AnyT.step (i := 20) (o := ⟨some 73, _, _, _, _, _⟩) (by kernel_rfl) rfl (fun K hK => ?_)
              (refine step_append_cells rfl (.tmp 66) (.tmp 72) 38 rfl _ 46 i0 _ 2 24 Tryd.underlying38 hi hz0 hz1 hz2 rfl (by decide) v2 (0 + k + 1) _ (by rfl) hown2 _ (D.length - k) (c - k) (fun h => by cases h) (subCells (D.drop k)) (by rfl) HDL.out (HCUT2.out _ hbx) HDO.out (by unfold maxLen; omega) (by omega) hbx.size ?_; intro v3 x5 hown3 hg3; replace hbx := Below.grown' hbx hg3 hbx.size (fun r hr => (own_lt hown2 hr).2); clear hg3 hown2; rw [Nat.zero_add] at hown3; have HOWN3 := Lib.hid hown3; obtain ⟨a3, c3, rfl, _, _⟩ := own_form hown3; clear hown3; have hfr3 := (RL.out _ hbx).blk.frozen 0)
              refine hK.out _ _ (fun _ => ?_) (fun hHeld => ?_)
              · exact (RL.out _ hbx).blk.cell
              replace hHeld := hHeld (by decide); clear hK K; try simp only [Act.put, List.setIfInBounds_toArray, List.set_cons_zero, List.set_cons_succ]
              refine AnyT.step (i := 21) (o := ⟨some 74, _, _, _, _, _⟩) (by kernel_rfl) rfl (fun K hK => ?_); go_simp; refine hK.out _ _ (fun _ => ?_) (fun hHeld => ?_)
              · exact (RL.out _ hbx).blk.cell
              replace hHeld := hHeld (by decide); clear hK K; try simp only [Act.put, List.setIfInBounds_toArray, List.set_cons_zero, List.set_cons_succ]
              refine AnyT.take (i := 22) (oi := ⟨some 75, _, _, _, _, _⟩) (v := ?_) rfl (by kernel_rfl) (by kernel_rfl) (by kernel_rfl) (by kernel_rfl) (fun _ _ _ h => h) (Or.inl ⟨by rfl, ?_⟩) (by assumption) ?_; rotate_left
              · (intro w hSw; (try dsimp only at hSw); go_simp; try with_reducible rfl)
              try simp only [Act.put, List.setIfInBounds_toArray, List.set_cons_zero, List.set_cons_succ]
              refine AnyT.step (i := 23) (o := ⟨none, _, _, _, _, _⟩) (by kernel_rfl) rfl (fun K hK => ?_)
              (have hcell3 := (RL.out _ hbx).blk.cell; go_simp)
              refine hK.out _ _ (fun h => absurd rfl h) (fun _ => ?_); clear hK K; try simp only [Act.put, List.setIfInBounds_toArray, List.set_cons_zero, List.set_cons_succ]
              refine AnyT.done (by kernel_rfl) ?_ _; refine NoPanic.normal ?_; go_wp2_with fail
              all_goals go_ret
              all_goals first | exact FIN.out _ _ _ _ hbx HOWN3.out (by omega) | (have e : c = k := (by assumption); subst e; exact FIN.out _ _ _ _ hbx HOWN3.out (by omega))
            · (go_simp; obtain ⟨x2, hA⟩ : ∃ x, World.alloc x1 (.cells #[.string f, .int .u8 (q : Int)] 46) = x := ⟨_, rfl⟩; rw [hA]; have hel := cells_new2 hA; have hne := Nat.ne_of_gt (own_lt hown0 rfl).1; replace hown0 := own_al hown0 hA; replace hbx := Below.then hbx (below_al2 hA); clear hA)
              refine hK.out _ _ (fun _ => ?_) (fun hHeld => ?_)
              · exact (RL.out _ hbx).blk.cell
              replace hHeld := hHeld (by decide); clear hK K; try simp only [Act.put, List.setIfInBounds_toArray, List.set_cons_zero, List.set_cons_succ]
              refine AnyT.step (i := 8) (o := ⟨some 61, _, _, _, _, _⟩) (by kernel_rfl) rfl (fun K hK => ?_)
              (refine step_append_cells rfl (.tmp 54) (.tmp 60) 38 rfl _ 46 i0 _ 2 24 Tryd.underlying38 hi hz0 hz1 hz2 rfl (by decide) _ 0 [] (by rfl) hown0 (some ⟨bb, o, none⟩) k c HAC.out (subCells (D.take k)) (by rfl) HT.out (HTK.out _ hbx) HTO.out (by unfold maxLen; omega) (by omega) hbx.size ?_; intro v1 x3 hown1 hg1; replace hel := hel.far hg1 hne; replace hbx := Below.grown' hbx hg1 hbx.size (fun r hr => (own_lt hown0 hr).2); clear hg1 hown0)
              refine hK.out _ _ (fun _ => ?_) (fun hHeld => ?_)
              · exact (RL.out _ hbx).blk.cell
              replace hHeld := hHeld (by decide); clear hK K; try simp only [Act.put, List.setIfInBounds_toArray, List.set_cons_zero, List.set_cons_succ]
              refine AnyT.step (i := 13) (o := ⟨some 66, _, _, _, _, _⟩) (by kernel_rfl) rfl (fun K hK => ?_)
              (refine step_append_cells rfl (.tmp 61) (.tmp 65) 38 rfl _ 46 i0 _ 2 24 Tryd.underlying38 hi hz0 hz1 hz2 rfl (by decide) v1 (0 + k) _ (by rfl) hown1 _ 1 1 (fun h => by cases h) [.string f, .int .u8 (q : Int)] (by rfl) rfl hel HO.out (by unfold maxLen; omega) (by omega) hbx.size ?_; intro v2 x4 hown2 hg2; replace hbx := Below.grown' hbx hg2 hbx.size (fun r hr => (own_lt hown1 hr).2); clear hg2 hown1 hel)
              refine hK.out _ _ (fun _ => ?_) (fun hHeld => ?_)
              · exact (RL.out _ hbx).blk.cell
              replace hHeld := hHeld (by decide); clear hK K; try simp only [Act.put, List.setIfInBounds_toArray, List.set_cons_zero, List.set_cons_succ]
              refine AnyT.step (i := 20) (o := ⟨some 73, _, _, _, _, _⟩) (by kernel_rfl) rfl (fun K hK => ?_)
              (refine step_append_cells rfl (.tmp 66) (.tmp 72) 38 rfl _ 46 i0 _ 2 24 Tryd.underlying38 hi hz0 hz1 hz2 rfl (by decide) v2 (0 + k + 1) _ (by rfl) hown2 _ (D.length - k) (c - k) (fun h => by cases h) (subCells (D.drop k)) (by rfl) HDL.out (HCUT2.out _ hbx) HDO.out (by unfold maxLen; omega) (by omega) hbx.size ?_; intro v3 x5 hown3 hg3; replace hbx := Below.grown' hbx hg3 hbx.size (fun r hr => (own_lt hown2 hr).2); clear hg3 hown2; rw [Nat.zero_add] at hown3; have HOWN3 := Lib.hid hown3; obtain ⟨a3, c3, rfl, _, _⟩ := own_form hown3; clear hown3; have hfr3 := (RL.out _ hbx).blk.frozen 0)
              refine hK.out _ _ (fun _ => ?_) (fun hHeld => ?_)
              · exact (RL.out _ hbx).blk.cell
              replace hHeld := hHeld (by decide); clear hK K; try simp only [Act.put, List.setIfInBounds_toArray, List.set_cons_zero, List.set_cons_succ]
              refine AnyT.step (i := 21) (o := ⟨some 74, _, _, _, _, _⟩) (by kernel_rfl) rfl (fun K hK => ?_); go_simp; refine hK.out _ _ (fun _ => ?_) (fun hHeld => ?_)
              · exact (RL.out _ hbx).blk.cell
              replace hHeld := hHeld (by decide); clear hK K; try simp only [Act.put, List.setIfInBounds_toArray, List.set_cons_zero, List.set_cons_succ]
              refine AnyT.take (i := 22) (oi := ⟨some 75, _, _, _, _, _⟩) (v := ?_) rfl (by kernel_rfl) (by kernel_rfl) (by kernel_rfl) (by kernel_rfl) (fun _ _ _ h => h) (Or.inl ⟨by rfl, ?_⟩) (by assumption) ?_; rotate_left
              · (intro w hSw; (try dsimp only at hSw); go_simp; try with_reducible rfl)
              try simp only [Act.put, List.setIfInBounds_toArray, List.set_cons_zero, List.set_cons_succ]
              refine AnyT.step (i := 23) (o := ⟨none, _, _, _, _, _⟩) (by kernel_rfl) rfl (fun K hK => ?_)
              (have hcell3 := (RL.out _ hbx).blk.cell; go_simp)
              refine hK.out _ _ (fun h => absurd rfl h) (fun _ => ?_); clear hK K; try simp only [Act.put, List.setIfInBounds_toArray, List.set_cons_zero, List.set_cons_succ]
              refine AnyT.done (by kernel_rfl) ?_ _; refine NoPanic.normal ?_; go_wp2_with fail
              all_goals go_ret
              all_goals first | exact FIN.out _ _ _ _ hbx HOWN3.out (by omega) | (have e : c = k := (by assumption); subst e; exact FIN.out _ _ _ _ hbx HOWN3.out (by omega))
          · (go_simp; obtain ⟨x1, hA⟩ : ∃ x, World.alloc wx (.cells #[.string f, .int .u8 (q : Int)] 46) = x := ⟨_, rfl⟩; rw [hA]; have hel := cells_new2 hA; have hElt := lt_al hA; replace hbx := Below.then hbx (below_al2 hA); clear hA)
            refine hK.out _ _ (fun _ => ?_) (fun hHeld => ?_)
            · exact (RL.out _ hbx).blk.cell
            replace hHeld := hHeld (by decide); clear hK K; try simp only [Act.put, List.setIfInBounds_toArray, List.set_cons_zero, List.set_cons_succ]
            refine AnyT.step (i := 1) (o := ⟨some 54, _, _, _, _, _⟩) (by kernel_rfl) rfl (fun K hK => ?_)
            (go_simp; obtain ⟨x2, hA⟩ : ∃ x, World.alloc x1 (.cells #[] 46) = x := ⟨_, rfl⟩; rw [hA]; have hown0 := own_empty hA hbx.size; have hne := Nat.ne_of_lt hElt; replace hel := hel.below (below_al2 hA); replace hbx := Below.then hbx (below_al2 hA); clear hA)
            refine hK.out _ _ (fun _ => ?_) (fun hHeld => ?_)
            · exact (RL.out _ hbx).blk.cell
            replace hHeld := hHeld (by decide); clear hK K; try simp only [Act.put, List.setIfInBounds_toArray, List.set_cons_zero, List.set_cons_succ]
            refine AnyT.step (i := 8) (o := ⟨some 61, _, _, _, _, _⟩) (by kernel_rfl) rfl (fun K hK => ?_)
            (refine step_append_cells rfl (.tmp 54) (.tmp 60) 38 rfl _ 46 i0 _ 2 24 Tryd.underlying38 hi hz0 hz1 hz2 rfl (by decide) _ 0 [] (by rfl) hown0 (some ⟨bb, o, none⟩) k c HAC.out (subCells (D.take k)) (by rfl) HT.out (HTK.out _ hbx) HTO.out (by unfold maxLen; omega) (by omega) hbx.size ?_; intro v1 x3 hown1 hg1; replace hel := hel.far hg1 hne; replace hbx := Below.grown' hbx hg1 hbx.size (fun r hr => (own_lt hown0 hr).2); clear hg1 hown0)
            refine hK.out _ _ (fun _ => ?_) (fun hHeld => ?_)
            · exact (RL.out _ hbx).blk.cell
            replace hHeld := hHeld (by decide); clear hK K; try simp only [Act.put, List.setIfInBounds_toArray, List.set_cons_zero, List.set_cons_succ]
            refine AnyT.step (i := 13) (o := ⟨some 66, _, _, _, _, _⟩) (by kernel_rfl) rfl (fun K hK => ?_)
            (refine step_append_cells rfl (.tmp 61) (.tmp 65) 38 rfl _ 46 i0 _ 2 24 Tryd.underlying38 hi hz0 hz1 hz2 rfl (by decide) v1 (0 + k) _ (by rfl) hown1 _ 1 1 (fun h => by cases h) [.string f, .int .u8 (q : Int)] (by rfl) rfl hel HO.out (by unfold maxLen; omega) (by omega) hbx.size ?_; intro v2 x4 hown2 hg2; replace hbx := Below.grown' hbx hg2 hbx.size (fun r hr => (own_lt hown1 hr).2); clear hg2 hown1 hel)
            refine hK.out _ _ (fun _ => ?_) (fun hHeld => ?_)
            · exact (RL.out _ hbx).blk.cell
            replace hHeld := hHeld (by decide); clear hK K; try simp only [Act.put, List.setIfInBounds_toArray, List.set_cons_zero, List.set_cons_succ]
            refine AnyT.step (i := 20) (o := ⟨some 73, _, _, _, _, _⟩) (by kernel_rfl) rfl (fun K hK => ?_)
            (refine step_append_cells rfl (.tmp 66) (.tmp 72) 38 rfl _ 46 i0 _ 2 24 Tryd.underlying38 hi hz0 hz1 hz2 rfl (by decide) v2 (0 + k + 1) _ (by rfl) hown2 _ (D.length - k) (c - k) (fun h => by cases h) (subCells (D.drop k)) (by rfl) HDL.out (HCUT2.out _ hbx) HDO.out (by unfold maxLen; omega) (by omega) hbx.size ?_; intro v3 x5 hown3 hg3; replace hbx := Below.grown' hbx hg3 hbx.size (fun r hr => (own_lt hown2 hr).2); clear hg3 hown2; rw [Nat.zero_add] at hown3; have HOWN3 := Lib.hid hown3; obtain ⟨a3, c3, rfl, _, _⟩ := own_form hown3; clear hown3; have hfr3 := (RL.out _ hbx).blk.frozen 0)
            refine hK.out _ _ (fun _ => ?_) (fun hHeld => ?_)
            · exact (RL.out _ hbx).blk.cell
            replace hHeld := hHeld (by decide); clear hK K; try simp only [Act.put, List.setIfInBounds_toArray, List.set_cons_zero, List.set_cons_succ]
            refine AnyT.step (i := 21) (o := ⟨some 74, _, _, _, _, _⟩) (by kernel_rfl) rfl (fun K hK => ?_); go_simp; refine hK.out _ _ (fun _ => ?_) (fun hHeld => ?_)
            · exact (RL.out _ hbx).blk.cell
            replace hHeld := hHeld (by decide); clear hK K; try simp only [Act.put, List.setIfInBounds_toArray, List.set_cons_zero, List.set_cons_succ]
            refine AnyT.take (i := 22) (oi := ⟨some 75, _, _, _, _, _⟩) (v := ?_) rfl (by kernel_rfl) (by kernel_rfl) (by kernel_rfl) (by kernel_rfl) (fun _ _ _ h => h) (Or.inl ⟨by rfl, ?_⟩) (by assumption) ?_; rotate_left
            · (intro w hSw; (try dsimp only at hSw); go_simp; try with_reducible rfl)
            try simp only [Act.put, List.setIfInBounds_toArray, List.set_cons_zero, List.set_cons_succ]
            refine AnyT.step (i := 23) (o := ⟨none, _, _, _, _, _⟩) (by kernel_rfl) rfl (fun K hK => ?_)
            (have hcell3 := (RL.out _ hbx).blk.cell; go_simp)
            refine hK.out _ _ (fun h => absurd rfl h) (fun _ => ?_); clear hK K; try simp only [Act.put, List.setIfInBounds_toArray, List.set_cons_zero, List.set_cons_succ]
            refine AnyT.done (by kernel_rfl) ?_ _; refine NoPanic.normal ?_; go_wp2_with fail
            all_goals go_ret
            all_goals first | exact FIN.out _ _ _ _ hbx HOWN3.out (by omega) | (have e : c = k := (by assumption); subst e; exact FIN.out _ _ _ _ hbx HOWN3.out (by omega))
        · have hkn : ¬ (k : Int) < (D.length : Int) := by omega
          clear hkD; go_wp2_with fail
          refine wp_region_noPanic ?_; refine AnyT.begin (S := fun w' => w'.cell? ⟨g, 0, none⟩ = some (.slice a D.length c)) (z := 23) (by kernel_rfl) ?_ (fun hHeld => ?_)
          · exact (RL.out _ (below_add (Below.refl _ _) 1)).blk.cell
          have hbx : Below w2.heap.size w2 w2.drew := below_add (Below.refl _ _) 1; generalize World.drew w2 = wx at hHeld hbx ⊢; refine AnyT.take (i := 0) (oi := ⟨some 53, _, _, _, _, _⟩) (v := ?_) rfl (by kernel_rfl) (by kernel_rfl) (by kernel_rfl) (by kernel_rfl) (fun _ _ _ h => h) (Or.inl ⟨by rfl, ?_⟩) (by assumption) ?_; rotate_left
          · (intro w hSw; (try dsimp only at hSw); go_simp; try with_reducible rfl)
          try simp only [Act.put, List.setIfInBounds_toArray, List.set_cons_zero, List.set_cons_succ]
          refine AnyT.take (i := 2) (oi := ⟨some 55, _, _, _, _, _⟩) (v := ?_) rfl (by kernel_rfl) (by kernel_rfl) (by kernel_rfl) (by kernel_rfl) (fun _ _ _ h => h) (Or.inl ⟨by rfl, ?_⟩) (by assumption) ?_; rotate_left
          · (intro w hSw; (try dsimp only at hSw); go_simp; try with_reducible rfl)
          try simp only [Act.put, List.setIfInBounds_toArray, List.set_cons_zero, List.set_cons_succ]
          refine AnyT.take (i := 3) (oi := ⟨some 56, _, _, _, _, _⟩) (v := ?_) rfl (by kernel_rfl) (by kernel_rfl) (by kernel_rfl) (by kernel_rfl) (fun _ _ _ h => h) (Or.inl ⟨by rfl, ?_⟩) (by assumption) ?_; rotate_left
          · (intro w hSw; (try dsimp only at hSw); go_simp; try with_reducible rfl)
          try simp only [Act.put, List.setIfInBounds_toArray, List.set_cons_zero, List.set_cons_succ]
          refine AnyT.take (i := 4) (oi := ⟨some 57, _, _, _, _, _⟩) (v := ?_) rfl (by kernel_rfl) (by kernel_rfl) (by kernel_rfl) (by kernel_rfl) (fun _ _ _ h => h) (Or.inl ⟨by rfl, ?_⟩) (by assumption) ?_; rotate_left
          · (intro w hSw; (try dsimp only at hSw); go_simp; try with_reducible rfl)
          try simp only [Act.put, List.setIfInBounds_toArray, List.set_cons_zero, List.set_cons_succ]
          refine AnyT.take (i := 5) (oi := ⟨some 58, _, _, _, _, _⟩) (v := ?_) rfl (by kernel_rfl) (by kernel_rfl) (by kernel_rfl) (by kernel_rfl) (fun _ _ _ h => h) (Or.inl ⟨by rfl, ?_⟩) (by assumption) ?_; rotate_left
          · (intro w hSw; (try dsimp only at hSw); go_simp; try with_reducible rfl)
          try simp only [Act.put, List.setIfInBounds_toArray, List.set_cons_zero, List.set_cons_succ]
          refine AnyT.take (i := 6) (oi := ⟨some 59, _, _, _, _, _⟩) (v := ?_) rfl (by kernel_rfl) (by kernel_rfl) (by kernel_rfl) (by kernel_rfl) (fun _ _ _ h => h) (Or.inl ⟨by rfl, ?_⟩) (by assumption) ?_; rotate_left
          · (intro w hSw; (try dsimp only at hSw); go_simp; try with_reducible rfl)
          try simp only [Act.put, List.setIfInBounds_toArray, List.set_cons_zero, List.set_cons_succ]
          refine AnyT.take (i := 7) (oi := ⟨some 60, _, _, _, _, _⟩) (v := ?_) rfl (by kernel_rfl) (by kernel_rfl) (by kernel_rfl) (by kernel_rfl) (fun _ _ _ h => h) (Or.inl ⟨by rfl, ?_⟩) (by assumption) ?_; rotate_left
          · (intro w hSw; (try dsimp only at hSw); go_simp; try with_reducible rfl)
          try simp only [Act.put, List.setIfInBounds_toArray, List.set_cons_zero, List.set_cons_succ]
          refine AnyT.take (i := 9) (oi := ⟨some 62, _, _, _, _, _⟩) (v := ?_) rfl (by kernel_rfl) (by kernel_rfl) (by kernel_rfl) (by kernel_rfl) (fun _ _ _ h => h) (Or.inl ⟨by rfl, ?_⟩) (by assumption) ?_; rotate_left
          · (intro w hSw; (try dsimp only at hSw); go_simp; try with_reducible rfl)
          try simp only [Act.put, List.setIfInBounds_toArray, List.set_cons_zero, List.set_cons_succ]
          refine AnyT.take (i := 10) (oi := ⟨some 63, _, _, _, _, _⟩) (v := ?_) rfl (by kernel_rfl) (by kernel_rfl) (by kernel_rfl) (by kernel_rfl) (fun _ _ _ h => h) (Or.inl ⟨by rfl, ?_⟩) (by assumption) ?_; rotate_left
          · (intro w hSw; (try dsimp only at hSw); go_simp; try with_reducible rfl)
          try simp only [Act.put, List.setIfInBounds_toArray, List.set_cons_zero, List.set_cons_succ]
          refine AnyT.take (i := 11) (oi := ⟨some 64, _, _, _, _, _⟩) (v := ?_) rfl (by kernel_rfl) (by kernel_rfl) (by kernel_rfl) (by kernel_rfl) (fun _ _ _ h => h) (Or.inl ⟨by rfl, ?_⟩) (by assumption) ?_; rotate_left
          · (intro w hSw; (try dsimp only at hSw); go_simp; try with_reducible rfl)
          try simp only [Act.put, List.setIfInBounds_toArray, List.set_cons_zero, List.set_cons_succ]
          refine AnyT.take (i := 14) (oi := ⟨some 67, _, _, _, _, _⟩) (v := ?_) rfl (by kernel_rfl) (by kernel_rfl) (by kernel_rfl) (by kernel_rfl) (fun _ _ _ h => h) (Or.inl ⟨by rfl, ?_⟩) (by assumption) ?_; rotate_left
          · (intro w hSw; (try dsimp only at hSw); go_simp; try with_reducible rfl)
          try simp only [Act.put, List.setIfInBounds_toArray, List.set_cons_zero, List.set_cons_succ]
          refine AnyT.take (i := 15) (oi := ⟨some 68, _, _, _, _, _⟩) (v := ?_) rfl (by kernel_rfl) (by kernel_rfl) (by kernel_rfl) (by kernel_rfl) (fun _ _ _ h => h) (Or.inl ⟨by rfl, ?_⟩) (by assumption) ?_; rotate_left
          · (intro w hSw; (try dsimp only at hSw); go_simp; try with_reducible rfl)
          try simp only [Act.put, List.setIfInBounds_toArray, List.set_cons_zero, List.set_cons_succ]
          refine AnyT.take (i := 16) (oi := ⟨some 69, _, _, _, _, _⟩) (v := ?_) rfl (by kernel_rfl) (by kernel_rfl) (by kernel_rfl) (by kernel_rfl) (fun _ _ _ h => h) (Or.inl ⟨by rfl, ?_⟩) (by assumption) ?_; rotate_left
          · (intro w hSw; (try dsimp only at hSw); go_simp; try with_reducible rfl)
          try simp only [Act.put, List.setIfInBounds_toArray, List.set_cons_zero, List.set_cons_succ]
          refine AnyT.take (i := 17) (oi := ⟨some 70, _, _, _, _, _⟩) (v := ?_) rfl (by kernel_rfl) (by kernel_rfl) (by kernel_rfl) (by kernel_rfl) (fun _ _ _ h => h) (Or.inl ⟨by rfl, ?_⟩) (by assumption) ?_; rotate_left
          · (intro w hSw; (try dsimp only at hSw); go_simp; try with_reducible rfl)
          try simp only [Act.put, List.setIfInBounds_toArray, List.set_cons_zero, List.set_cons_succ]
          refine AnyT.take (i := 18) (oi := ⟨some 71, _, _, _, _, _⟩) (v := ?_) rfl (by kernel_rfl) (by kernel_rfl) (by kernel_rfl) (by kernel_rfl) (fun _ _ _ h => h) (Or.inl ⟨by rfl, ?_⟩) (by assumption) ?_; rotate_left
          · (intro w hSw; (try dsimp only at hSw); go_simp; try with_reducible rfl)
          try simp only [Act.put, List.setIfInBounds_toArray, List.set_cons_zero, List.set_cons_succ]
          refine AnyT.take (i := 19) (oi := ⟨some 72, _, _, _, _, _⟩) (v := ?_) rfl (by kernel_rfl) (by kernel_rfl) (by kernel_rfl) (by kernel_rfl) (fun _ _ _ h => h) (Or.inl ⟨by rfl, ?_⟩) (by assumption) ?_; rotate_left
          · (intro w hSw; (try dsimp only at hSw); go_simp; try with_reducible rfl)
          try simp only [Act.put, List.setIfInBounds_toArray, List.set_cons_zero, List.set_cons_succ]
          refine AnyT.step2 (i := 1) (j := 12) (o := ⟨some 54, _, _, _, _, _⟩) (o2 := ⟨some 65, _, _, _, _, _⟩) (by kernel_rfl) rfl rfl (fun K hK => ?_) (fun K hK => ?_)
          · (go_simp; obtain ⟨x1, hA⟩ : ∃ x, World.alloc wx (.cells #[] 46) = x := ⟨_, rfl⟩; rw [hA]; have hown0 := own_empty hA hbx.size; replace hbx := Below.then hbx (below_al2 hA); clear hA)
            refine hK.out _ _ (fun _ => ?_) (fun hHeld => ?_)
            · exact (RL.out _ hbx).blk.cell
            replace hHeld := hHeld (by decide); clear hK K; try simp only [Act.put, List.setIfInBounds_toArray, List.set_cons_zero, List.set_cons_succ]
            refine AnyT.step2 (i := 8) (j := 12) (o := ⟨some 61, _, _, _, _, _⟩) (o2 := ⟨some 65, _, _, _, _, _⟩) (by kernel_rfl) rfl rfl (fun K hK => ?_) (fun K hK => ?_)
            · (refine step_append_cells rfl (.tmp 54) (.tmp 60) 38 rfl _ 46 i0 _ 2 24 Tryd.underlying38 hi hz0 hz1 hz2 rfl (by decide) _ 0 [] (by rfl) hown0 a k c HAC.out (subCells (D.take k)) (by rfl) HT.out (HTK.out _ hbx) HTO.out (by unfold maxLen; omega) (by omega) hbx.size ?_; intro v1 x2 hown1 hg1; replace hbx := Below.grown' hbx hg1 hbx.size (fun r hr => (own_lt hown0 hr).2); clear hg1 hown0)
              refine hK.out _ _ (fun _ => ?_) (fun hHeld => ?_)
              · exact (RL.out _ hbx).blk.cell
              replace hHeld := hHeld (by decide); clear hK K; try simp only [Act.put, List.setIfInBounds_toArray, List.set_cons_zero, List.set_cons_succ]
              refine AnyT.step (i := 12) (o := ⟨some 65, _, _, _, _, _⟩) (by kernel_rfl) rfl (fun K hK => ?_)
              (go_simp; obtain ⟨x3, hA⟩ : ∃ x, World.alloc x2 (.cells #[.string f, .int .u8 (q : Int)] 46) = x := ⟨_, rfl⟩; rw [hA]; have hel := cells_new2 hA; replace hown1 := own_al hown1 hA; replace hbx := Below.then hbx (below_al2 hA); clear hA)
              refine hK.out _ _ (fun _ => ?_) (fun hHeld => ?_)
              · exact (RL.out _ hbx).blk.cell
              replace hHeld := hHeld (by decide); clear hK K; try simp only [Act.put, List.setIfInBounds_toArray, List.set_cons_zero, List.set_cons_succ]
              refine AnyT.step (i := 13) (o := ⟨some 66, _, _, _, _, _⟩) (by kernel_rfl) rfl (fun K hK => ?_)
              (refine step_append_cells rfl (.tmp 61) (.tmp 65) 38 rfl _ 46 i0 _ 2 24 Tryd.underlying38 hi hz0 hz1 hz2 rfl (by decide) v1 (0 + k) _ (by rfl) hown1 _ 1 1 (fun h => by cases h) [.string f, .int .u8 (q : Int)] (by rfl) rfl hel HO.out (by unfold maxLen; omega) (by omega) hbx.size ?_; intro v2 x4 hown2 hg2; replace hbx := Below.grown' hbx hg2 hbx.size (fun r hr => (own_lt hown1 hr).2); clear hg2 hown1 hel)
              refine hK.out _ _ (fun _ => ?_) (fun hHeld => ?_)
              · exact (RL.out _ hbx).blk.cell
              replace hHeld := hHeld (by decide); clear hK K; try simp only [Act.put, List.setIfInBounds_toArray, List.set_cons_zero, List.set_cons_succ]
              refine AnyT.step (i := 20) (o := ⟨some 73, _, _, _, _, _⟩) (by kernel_rfl) rfl (fun K hK => ?_)
              (refine step_append_cells rfl (.tmp 66) (.tmp 72) 38 rfl _ 46 i0 _ 2 24 Tryd.underlying38 hi hz0 hz1 hz2 rfl (by decide) v2 (0 + k + 1) _ (by rfl) hown2 _ (D.length - k) (c - k) HN2.out (subCells (D.drop k)) (by rfl) HDL.out (HCUT.out _ hbx) HDO.out (by unfold maxLen; omega) (by omega) hbx.size ?_; intro v3 x5 hown3 hg3; replace hbx := Below.grown' hbx hg3 hbx.size (fun r hr => (own_lt hown2 hr).2); clear hg3 hown2; rw [Nat.zero_add] at hown3; have HOWN3 := Lib.hid hown3; obtain ⟨a3, c3, rfl, _, _⟩ := own_form hown3; clear hown3; have hfr3 := (RL.out _ hbx).blk.frozen 0)
              refine hK.out _ _ (fun _ => ?_) (fun hHeld => ?_)
              · exact (RL.out _ hbx).blk.cell
              replace hHeld := hHeld (by decide); clear hK K; try simp only [Act.put, List.setIfInBounds_toArray, List.set_cons_zero, List.set_cons_succ]
              refine AnyT.step (i := 21) (o := ⟨some 74, _, _, _, _, _⟩) (by kernel_rfl) rfl (fun K hK => ?_); go_simp; refine hK.out _ _ (fun _ => ?_) (fun hHeld => ?_)
              · exact (RL.out _ hbx).blk.cell
              replace hHeld := hHeld (by decide); clear hK K; try simp only [Act.put, List.setIfInBounds_toArray, List.set_cons_zero, List.set_cons_succ]
              refine AnyT.take (i := 22) (oi := ⟨some 75, _, _, _, _, _⟩) (v := ?_) rfl (by kernel_rfl) (by kernel_rfl) (by kernel_rfl) (by kernel_rfl) (fun _ _ _ h => h) (Or.inl ⟨by rfl, ?_⟩) (by assumption) ?_; rotate_left
              · (intro w hSw; (try dsimp only at hSw); go_simp; try with_reducible rfl)
              try simp only [Act.put, List.setIfInBounds_toArray, List.set_cons_zero, List.set_cons_succ]
              refine AnyT.step (i := 23) (o := ⟨none, _, _, _, _, _⟩) (by kernel_rfl) rfl (fun K hK => ?_)
              (have hcell3 := (RL.out _ hbx).blk.cell; go_simp)
              refine hK.out _ _ (fun h => absurd rfl h) (fun _ => ?_); clear hK K; try simp only [Act.put, List.setIfInBounds_toArray, List.set_cons_zero, List.set_cons_succ]
              refine AnyT.done (by kernel_rfl) ?_ _; refine NoPanic.normal ?_; go_wp2_with fail
              all_goals go_ret
              all_goals first | exact FIN.out _ _ _ _ hbx HOWN3.out (by omega) | (have e : c = k := (by assumption); subst e; exact FIN.out _ _ _ _ hbx HOWN3.out (by omega))
            · (go_simp; obtain ⟨x2, hA⟩ : ∃ x, World.alloc x1 (.cells #[.string f, .int .u8 (q : Int)] 46) = x := ⟨_, rfl⟩; rw [hA]; have hel := cells_new2 hA; have hne := Nat.ne_of_gt (own_lt hown0 rfl).1; replace hown0 := own_al hown0 hA; replace hbx := Below.then hbx (below_al2 hA); clear hA)
              refine hK.out _ _ (fun _ => ?_) (fun hHeld => ?_)
              · exact (RL.out _ hbx).blk.cell
              replace hHeld := hHeld (by decide); clear hK K; try simp only [Act.put, List.setIfInBounds_toArray, List.set_cons_zero, List.set_cons_succ]
              refine AnyT.step (i := 8) (o := ⟨some 61, _, _, _, _, _⟩) (by kernel_rfl) rfl (fun K hK => ?_)
              (refine step_append_cells rfl (.tmp 54) (.tmp 60) 38 rfl _ 46 i0 _ 2 24 Tryd.underlying38 hi hz0 hz1 hz2 rfl (by decide) _ 0 [] (by rfl) hown0 a k c HAC.out (subCells (D.take k)) (by rfl) HT.out (HTK.out _ hbx) HTO.out (by unfold maxLen; omega) (by omega) hbx.size ?_; intro v1 x3 hown1 hg1; replace hel := hel.far hg1 hne; replace hbx := Below.grown' hbx hg1 hbx.size (fun r hr => (own_lt hown0 hr).2); clear hg1 hown0)
              refine hK.out _ _ (fun _ => ?_) (fun hHeld => ?_)
              · exact (RL.out _ hbx).blk.cell
              replace hHeld := hHeld (by decide); clear hK K; try simp only [Act.put, List.setIfInBounds_toArray, List.set_cons_zero, List.set_cons_succ]
              refine AnyT.step (i := 13) (o := ⟨some 66, _, _, _, _, _⟩) (by kernel_rfl) rfl (fun K hK => ?_)
              (refine step_append_cells rfl (.tmp 61) (.tmp 65) 38 rfl _ 46 i0 _ 2 24 Tryd.underlying38 hi hz0 hz1 hz2 rfl (by decide) v1 (0 + k) _ (by rfl) hown1 _ 1 1 (fun h => by cases h) [.string f, .int .u8 (q : Int)] (by rfl) rfl hel HO.out (by unfold maxLen; omega) (by omega) hbx.size ?_; intro v2 x4 hown2 hg2; replace hbx := Below.grown' hbx hg2 hbx.size (fun r hr => (own_lt hown1 hr).2); clear hg2 hown1 hel)
              refine hK.out _ _ (fun _ => ?_) (fun hHeld => ?_)
              · exact (RL.out _ hbx).blk.cell
              replace hHeld := hHeld (by decide); clear hK K; try simp only [Act.put, List.setIfInBounds_toArray, List.set_cons_zero, List.set_cons_succ]
              refine AnyT.step (i := 20) (o := ⟨some 73, _, _, _, _, _⟩) (by kernel_rfl) rfl (fun K hK => ?_)
              (refine step_append_cells rfl (.tmp 66) (.tmp 72) 38 rfl _ 46 i0 _ 2 24 Tryd.underlying38 hi hz0 hz1 hz2 rfl (by decide) v2 (0 + k + 1) _ (by rfl) hown2 _ (D.length - k) (c - k) HN2.out (subCells (D.drop k)) (by rfl) HDL.out (HCUT.out _ hbx) HDO.out (by unfold maxLen; omega) (by omega) hbx.size ?_; intro v3 x5 hown3 hg3; replace hbx := Below.grown' hbx hg3 hbx.size (fun r hr => (own_lt hown2 hr).2); clear hg3 hown2; rw [Nat.zero_add] at hown3; have HOWN3 := Lib.hid hown3; obtain ⟨a3, c3, rfl, _, _⟩ := own_form hown3; clear hown3; have hfr3 := (RL.out _ hbx).blk.frozen 0)
              refine hK.out _ _ (fun _ => ?_) (fun hHeld => ?_)
              · exact (RL.out _ hbx).blk.cell
              replace hHeld := hHeld (by decide); clear hK K; try simp only [Act.put, List.setIfInBounds_toArray, List.set_cons_zero, List.set_cons_succ]
              refine AnyT.step (i := 21) (o := ⟨some 74, _, _, _, _, _⟩) (by kernel_rfl) rfl (fun K hK => ?_); go_simp; refine hK.out _ _ (fun _ => ?_) (fun hHeld => ?_)
              · exact (RL.out _ hbx).blk.cell
              replace hHeld := hHeld (by decide); clear hK K; try simp only [Act.put, List.setIfInBounds_toArray, List.set_cons_zero, List.set_cons_succ]
              refine AnyT.take (i := 22) (oi := ⟨some 75, _, _, _, _, _⟩) (v := ?_) rfl (by kernel_rfl) (by kernel_rfl) (by kernel_rfl) (by kernel_rfl) (fun _ _ _ h => h) (Or.inl ⟨by rfl, ?_⟩) (by assumption) ?_; rotate_left
              · (intro w hSw; (try dsimp only at hSw); go_simp; try with_reducible rfl)
              try simp only [Act.put, List.setIfInBounds_toArray, List.set_cons_zero, List.set_cons_succ]
              refine AnyT.step (i := 23) (o := ⟨none, _, _, _, _, _⟩) (by kernel_rfl) rfl (fun K hK => ?_)
              (have hcell3 := (RL.out _ hbx).blk.cell; go_simp)
              refine hK.out _ _ (fun h => absurd rfl h) (fun _ => ?_); clear hK K; try simp only [Act.put, List.setIfInBounds_toArray, List.set_cons_zero, List.set_cons_succ]
              refine AnyT.done (by kernel_rfl) ?_ _; refine NoPanic.normal ?_; go_wp2_with fail
              all_goals go_ret
              all_goals first | exact FIN.out _ _ _ _ hbx HOWN3.out (by omega) | (have e : c = k := (by assumption); subst e; exact FIN.out _ _ _ _ hbx HOWN3.out (by omega))
          · (go_simp; obtain ⟨x1, hA⟩ : ∃ x, World.alloc wx (.cells #[.string f, .int .u8 (q : Int)] 46) = x := ⟨_, rfl⟩; rw [hA]; have hel := cells_new2 hA; have hElt := lt_al hA; replace hbx := Below.then hbx (below_al2 hA); clear hA)
            refine hK.out _ _ (fun _ => ?_) (fun hHeld => ?_)
            · exact (RL.out _ hbx).blk.cell
            replace hHeld := hHeld (by decide); clear hK K; try simp only [Act.put, List.setIfInBounds_toArray, List.set_cons_zero, List.set_cons_succ]
            refine AnyT.step (i := 1) (o := ⟨some 54, _, _, _, _, _⟩) (by kernel_rfl) rfl (fun K hK => ?_)
            (go_simp; obtain ⟨x2, hA⟩ : ∃ x, World.alloc x1 (.cells #[] 46) = x := ⟨_, rfl⟩; rw [hA]; have hown0 := own_empty hA hbx.size; have hne := Nat.ne_of_lt hElt; replace hel := hel.below (below_al2 hA); replace hbx := Below.then hbx (below_al2 hA); clear hA)
            refine hK.out _ _ (fun _ => ?_) (fun hHeld => ?_)
            · exact (RL.out _ hbx).blk.cell
            replace hHeld := hHeld (by decide); clear hK K; try simp only [Act.put, List.setIfInBounds_toArray, List.set_cons_zero, List.set_cons_succ]
            refine AnyT.step (i := 8) (o := ⟨some 61, _, _, _, _, _⟩) (by kernel_rfl) rfl (fun K hK => ?_)
            (refine step_append_cells rfl (.tmp 54) (.tmp 60) 38 rfl _ 46 i0 _ 2 24 Tryd.underlying38 hi hz0 hz1 hz2 rfl (by decide) _ 0 [] (by rfl) hown0 a k c HAC.out (subCells (D.take k)) (by rfl) HT.out (HTK.out _ hbx) HTO.out (by unfold maxLen; omega) (by omega) hbx.size ?_; intro v1 x3 hown1 hg1; replace hel := hel.far hg1 hne; replace hbx := Below.grown' hbx hg1 hbx.size (fun r hr => (own_lt hown0 hr).2); clear hg1 hown0)
            refine hK.out _ _ (fun _ => ?_) (fun hHeld => ?_)
            · exact (RL.out _ hbx).blk.cell
            replace hHeld := hHeld (by decide); clear hK K; try simp only [Act.put, List.setIfInBounds_toArray, List.set_cons_zero, List.set_cons_succ]
            refine AnyT.step (i := 13) (o := ⟨some 66, _, _, _, _, _⟩) (by kernel_rfl) rfl (fun K hK => ?_)
            (refine step_append_cells rfl (.tmp 61) (.tmp 65) 38 rfl _ 46 i0 _ 2 24 Tryd.underlying38 hi hz0 hz1 hz2 rfl (by decide) v1 (0 + k) _ (by rfl) hown1 _ 1 1 (fun h => by cases h) [.string f, .int .u8 (q : Int)] (by rfl) rfl hel HO.out (by unfold maxLen; omega) (by omega) hbx.size ?_; intro v2 x4 hown2 hg2; replace hbx := Below.grown' hbx hg2 hbx.size (fun r hr => (own_lt hown1 hr).2); clear hg2 hown1 hel)
            refine hK.out _ _ (fun _ => ?_) (fun hHeld => ?_)
            · exact (RL.out _ hbx).blk.cell
            replace hHeld := hHeld (by decide); clear hK K; try simp only [Act.put, List.setIfInBounds_toArray, List.set_cons_zero, List.set_cons_succ]
            refine AnyT.step (i := 20) (o := ⟨some 73, _, _, _, _, _⟩) (by kernel_rfl) rfl (fun K hK => ?_)
            (refine step_append_cells rfl (.tmp 66) (.tmp 72) 38 rfl _ 46 i0 _ 2 24 Tryd.underlying38 hi hz0 hz1 hz2 rfl (by decide) v2 (0 + k + 1) _ (by rfl) hown2 _ (D.length - k) (c - k) HN2.out (subCells (D.drop k)) (by rfl) HDL.out (HCUT.out _ hbx) HDO.out (by unfold maxLen; omega) (by omega) hbx.size ?_; intro v3 x5 hown3 hg3; replace hbx := Below.grown' hbx hg3 hbx.size (fun r hr => (own_lt hown2 hr).2); clear hg3 hown2; rw [Nat.zero_add] at hown3; have HOWN3 := Lib.hid hown3; obtain ⟨a3, c3, rfl, _, _⟩ := own_form hown3; clear hown3; have hfr3 := (RL.out _ hbx).blk.frozen 0)
            refine hK.out _ _ (fun _ => ?_) (fun hHeld => ?_)
            · exact (RL.out _ hbx).blk.cell
            replace hHeld := hHeld (by decide); clear hK K; try simp only [Act.put, List.setIfInBounds_toArray, List.set_cons_zero, List.set_cons_succ]
            refine AnyT.step (i := 21) (o := ⟨some 74, _, _, _, _, _⟩) (by kernel_rfl) rfl (fun K hK => ?_); go_simp; refine hK.out _ _ (fun _ => ?_) (fun hHeld => ?_)
            · exact (RL.out _ hbx).blk.cell
            replace hHeld := hHeld (by decide); clear hK K; try simp only [Act.put, List.setIfInBounds_toArray, List.set_cons_zero, List.set_cons_succ]
            refine AnyT.take (i := 22) (oi := ⟨some 75, _, _, _, _, _⟩) (v := ?_) rfl (by kernel_rfl) (by kernel_rfl) (by kernel_rfl) (by kernel_rfl) (fun _ _ _ h => h) (Or.inl ⟨by rfl, ?_⟩) (by assumption) ?_; rotate_left
            · (intro w hSw; (try dsimp only at hSw); go_simp; try with_reducible rfl)
            try simp only [Act.put, List.setIfInBounds_toArray, List.set_cons_zero, List.set_cons_succ]
            refine AnyT.step (i := 23) (o := ⟨none, _, _, _, _, _⟩) (by kernel_rfl) rfl (fun K hK => ?_)
            (have hcell3 := (RL.out _ hbx).blk.cell; go_simp)
            refine hK.out _ _ (fun h => absurd rfl h) (fun _ => ?_); clear hK K; try simp only [Act.put, List.setIfInBounds_toArray, List.set_cons_zero, List.set_cons_succ]
            refine AnyT.done (by kernel_rfl) ?_ _; refine NoPanic.normal ?_; go_wp2_with fail
            all_goals go_ret
            all_goals first | exact FIN.out _ _ _ _ hbx HOWN3.out (by omega) | (have e : c = k := (by assumption); subst e; exact FIN.out _ _ _ _ hbx HOWN3.out (by omega))
end Go.Proofs.YtnnpokndajpkiaaDoor
namespace Go.Proofs.YtnnpokndajpkiaaDoor
open Go.RowKit
theorem ref15_Set (B g : Nat) (v : Value) (S : List Sb) (f : ByteArray) (q : Nat) (w : World) (hL : RAt w B g v S) (hS : Fine S) (hB : B ≤ w.heap.size) (hf : f.size ≤ 300) (hq : q < 256) :
    Calls Tryd.prog 58 #[.pointer (some ⟨g, 0, none⟩), .string f, .int .u8 (q : Int)] w (RetRSet B g v (setS S f q).1 (setS S f q).2 w) := by
  unfold setS; cases hok : okQ (bl f) q with
  | false =>
    simp only [Bool.false_and, Bool.false_eq_true, if_false]; exact rset_refused B g v S f q w hL hf hq hok
  | true =>
    cases hat : atS S (bl f) with
    | true =>
      simp only [Bool.true_and, Bool.true_or, if_true]; exact rset_ok B g v S f q w hL hS hB hf hq hok (Or.inl hat)
    | false =>
      by_cases hroom : S.length < 16
      · simp only [Bool.true_and, Bool.false_or, hroom, decide_true, if_true]
        exact rset_ok B g v S f q w hL hS hB hf hq hok (Or.inr hroom)
      · simp only [Bool.true_and, Bool.false_or, hroom, decide_false, Bool.false_eq_true, if_false]
        exact rset_full B g v S f q w hL hS hf hq hok hat hroom
end Go.Proofs.YtnnpokndajpkiaaDoor
