/- Two lists in one memory, the program's and the reference's: what an act on one leaves of the other. Conditions: their blocks are apart; a third block is neither's. -/
import Derived.Test.YtbhmflkhcadaeaaDoorSubsActs
import Derived.Test.YtbhmflkhcadaeaaDoorTexts
namespace Go.Proofs.YtbhmflkhcadaeaaDoor
open Go.RowKit

structure Both (w : World) (B gl gr X : Nat) (ob : Array Value) (T : TypeId) (vl vr : Value) (S R : List Sb) : Prop where
  l : LAt w B gl vl S
  r : RAt w B gr vr R
  far : ∀ k, Foot gl vl k → ¬ Foot gr vr k
  box : w.heap[X]? = some (.cells ob T (0, 0))
  xl : ¬ Foot gl vl X
  xr : ¬ Foot gr vr X
theorem Both.xlt {w : World} {B gl gr X : Nat} {ob : Array Value} {T : TypeId} {vl vr : Value} {S R : List Sb} (h : Both w B gl gr X ob T vl vr S R) : X < w.heap.size := by
  rcases Nat.lt_or_ge X w.heap.size with hl | hg
  · exact hl
  · have := h.box; rw [Array.getElem?_eq_none hg] at this; cases this
theorem Both.cell {w : World} {B gl gr X : Nat} {ob : Array Value} {T : TypeId} {vl vr : Value} {S R : List Sb} (h : Both w B gl gr X ob T vl vr S R) (j : Nat) (u : Value) (hu : ob[j]? = some u) : w.cell? ⟨X, j, none⟩ = some u := by
  rw [cell_of_row w X j _ _ _ h.box]; exact hu
theorem Both.flt {w : World} {B gl gr X : Nat} {ob : Array Value} {T : TypeId} {vl vr : Value} {S R : List Sb} (h : Both w B gl gr X ob T vl vr S R) (k : Nat) : (Foot gl vl k → k < w.heap.size ∧ B ≤ k) ∧ (Foot gr vr k → k < w.heap.size ∧ B ≤ k) := by
  refine ⟨?_, ?_⟩
  · rintro (e | e)
    · rw [e]; exact ⟨h.l.blk.lt, h.l.lo⟩
    · exact h.l.own.lt e
  · rintro (e | e)
    · rw [e]; exact ⟨h.r.blk.lt, h.r.lo⟩
    · exact h.r.own.lt e
theorem Both.below {w w' : World} {B gl gr X : Nat} {ob : Array Value} {T : TypeId} {vl vr : Value} {S R : List Sb} (h : Both w B gl gr X ob T vl vr S R) (k : Below w.heap.size w w') : Both w' B gl gr X ob T vl vr S R :=
  ⟨h.l.below k, h.r.below k, h.far, (k.block X h.xlt).trans h.box, h.xl, h.xr⟩
theorem Both.drew {w : World} {B gl gr X : Nat} {ob : Array Value} {T : TypeId} {vl vr : Value} {S R : List Sb} (h : Both w B gl gr X ob T vl vr S R) : Both w.drew B gl gr X ob T vl vr S R := h.below (below_draws (n := 1) rfl)
theorem Both.left {w w' : World} {B gl gr X : Nat} {ob : Array Value} {T : TypeId} {vl vl' vr : Value} {S S' R : List Sb} (h : Both w B gl gr X ob T vl vr S R) (hB : B ≤ w.heap.size) (k1 : LAt w' B gl vl' S') (k2 : Only (Foot gl vl) w w')
    (k3 : ∀ r, vl'.ownBlock = some r → vl.ownBlock = some r ∨ w.heap.size ≤ r) : Both w' B gl gr X ob T vl' vr S' R ∧ Below B w w' := by
  refine ⟨⟨k1, h.r.only k2 (fun e => h.far gr e (Or.inl rfl)) (fun r hr e => h.far r e (Or.inr hr)), ?_, (k2.block X h.xlt h.xl).trans h.box, ?_, h.xr⟩, k2.below hB (fun k e => ((h.flt k).1 e).2)⟩
  · rintro k (e | e) hr
    · exact h.far k (Or.inl e) hr
    · rcases k3 k e with e | e
      · exact h.far k (Or.inr e) hr
      · have := ((h.flt k).2 hr).1
        omega
  · rintro (e | e)
    · exact h.xl (Or.inl e)
    · rcases k3 X e with e | e
      · exact h.xl (Or.inr e)
      · have := h.xlt
        omega
theorem Both.right {w w' : World} {B gl gr X : Nat} {ob : Array Value} {T : TypeId} {vl vr vr' : Value} {S R R' : List Sb} (h : Both w B gl gr X ob T vl vr S R) (hB : B ≤ w.heap.size) (k1 : RAt w' B gr vr' R') (k2 : Only (Foot gr vr) w w')
    (k3 : ∀ r, vr'.ownBlock = some r → vr.ownBlock = some r ∨ w.heap.size ≤ r) : Both w' B gl gr X ob T vl vr' S R' ∧ Below B w w' := by
  refine ⟨⟨h.l.only k2 (fun e => h.far gl (Or.inl rfl) e) (fun r hr e => h.far r (Or.inr hr) e), k1, ?_, (k2.block X h.xlt h.xr).trans h.box, h.xl, ?_⟩, k2.below hB (fun k e => ((h.flt k).2 e).2)⟩
  · rintro k hl (e | e)
    · exact h.far k hl (Or.inl e)
    · rcases k3 k e with e | e
      · exact h.far k hl (Or.inr e)
      · have := ((h.flt k).1 hl).1
        omega
  · rintro (e | e)
    · exact h.xr (Or.inl e)
    · rcases k3 X e with e | e
      · exact h.xr (Or.inr e)
      · have := h.xlt
        omega

section
variable {w : World} {B gl gr X : Nat} {ob : Array Value} {T : TypeId} {vl vr : Value} {S R : List Sb} {f : ByteArray} {q : Nat}
theorem both_SetL (hE : Env w) (h : Both w B gl gr X ob T vl vr S R) (hS : Fine S) (hB : B ≤ w.heap.size) (hf : f.size ≤ 300) (hq : q < 256) :
    Calls Tryd.prog 20 #[.pointer (some ⟨gl, 0, none⟩), .string f, .int .u8 (q : Int)] w fun e w' => ∃ vl', e = .returned (.int .u8 ((setS S f q).1 : Int)) ∧ Both w' B gl gr X ob T vl' vr (setS S f q).2 R ∧ Below B w w' :=
  (subs_Set B gl vl S f q w hE h.l hS hB hf hq).mono (by rintro e w' ⟨v', rfl, h1, h2, h3⟩; exact ⟨v', rfl, h.left hB h1 h2 h3⟩)
theorem both_SetR (h : Both w B gl gr X ob T vl vr S R) (hR : Fine R) (hB : B ≤ w.heap.size) (hf : f.size ≤ 300) (hq : q < 256) :
    Calls Tryd.prog 27 #[.pointer (some ⟨gr, 0, none⟩), .string f, .int .u8 (q : Int)] w fun e w' => ∃ vr', e = .returned (.int .u8 ((setS R f q).1 : Int)) ∧ Both w' B gl gr X ob T vl vr' S (setS R f q).2 ∧ Below B w w' :=
  (ref15_Set B gr vr R f q w h.r hR hB hf hq).mono (by rintro e w' ⟨v', rfl, h1, h2, h3⟩; exact ⟨v', rfl, h.right hB h1 h2 h3⟩)
theorem both_DropL (h : Both w B gl gr X ob T vl vr S R) (hS : Fine S) (hB : B ≤ w.heap.size) :
    Calls Tryd.prog 21 #[.pointer (some ⟨gl, 0, none⟩), .string f] w fun e w' => ∃ vl', e = .returned (.bool (atS S (bl f))) ∧ Both w' B gl gr X ob T vl' vr (delS S (bl f)) R ∧ Below B w w' :=
  (subs_Drop B gl vl S f w h.l hS hB).mono (by rintro e w' ⟨v', rfl, h1, h2, h3⟩; exact ⟨v', rfl, h.left hB h1 h2 h3⟩)
theorem both_DropR (h : Both w B gl gr X ob T vl vr S R) (hR : Fine R) (hB : B ≤ w.heap.size) :
    Calls Tryd.prog 28 #[.pointer (some ⟨gr, 0, none⟩), .string f] w fun e w' => ∃ vr', e = .returned (.bool (atS R (bl f))) ∧ Both w' B gl gr X ob T vl vr' S (delS R (bl f)) ∧ Below B w w' :=
  (ref15_Drop B gr vr R f w h.r hB (by have := hR.few; omega)).mono (by
    rintro e w' ⟨rfl, v', h1, h2, h3⟩
    rw [hasS_at R (bl f) hR.sort]
    rw [show R.filter (notB (bl f)) = delS R (bl f) from del_filter R (bl f) hR.sort] at h1
    exact ⟨v', rfl, h.right hB h1 h2 (fun r hr => Or.inr (h3 r hr))⟩)
theorem both_ClearL (h : Both w B gl gr X ob T vl vr S R) (hS : Fine S) (hB : B ≤ w.heap.size) :
    Calls Tryd.prog 22 #[.pointer (some ⟨gl, 0, none⟩)] w fun e w' => ∃ a c, e = .returned (.slice a S.length c) ∧ w'.ownsRow w.heap.size 9 1 (.slice a S.length c) S.length (strsOf S) ∧ Both w' B gl gr X ob T (.slice none 0 0) vr [] R ∧ Below B w w' :=
  (subs_Clear B gl vl S w h.l hS.few).mono (by
    rintro e w' ⟨r, rfl, h1, h2, h3⟩
    obtain ⟨a, c, rfl, _, _⟩ := own_form h1
    exact ⟨a, c, rfl, h1, h.left hB h2 h3 (fun r hr => by simp [Value.ownBlock] at hr)⟩)
theorem both_ClearR (h : Both w B gl gr X ob T vl vr S R) (hR : Fine R) (hB : B ≤ w.heap.size) :
    Calls Tryd.prog 29 #[.pointer (some ⟨gr, 0, none⟩)] w fun e w' => ∃ a c, e = .returned (.slice a R.length c) ∧ w'.ownsRow w.heap.size 9 1 (.slice a R.length c) R.length (strsOf R) ∧ Both w' B gl gr X ob T vl (.slice none 0 0) S [] ∧ Below B w w' ∧ Only (Foot gr vr) w w' :=
  (ref15_Clear B gr vr R w h.r hR.few).mono (by
    rintro e w' ⟨r, rfl, h1, h2, h3⟩
    obtain ⟨a, c, rfl, _, _⟩ := own_form h1
    have h4 := h.right hB h2 h3 (fun r hr => by simp [Value.ownBlock] at hr)
    exact ⟨a, c, rfl, h1, h4.1, h4.2, h3⟩)
theorem strs_map (S : List Sb) : strsOf S = (S.map Prod.fst).map Value.string := by unfold strsOf; rw [List.map_map]; rfl
theorem same_texts {a b : Option Addr} {ca cb m k : Nat} (hf : S.length ≤ 16) (ha : w.ownsRow m 9 1 (.slice a S.length ca) S.length (strsOf S)) (hb : w.ownsRow k 9 1 (.slice b S.length cb) S.length (strsOf S)) :
    Calls Tryd.prog 23 #[.slice a S.length ca, .slice b S.length cb] w fun e w' => e = .returned (.bool true) ∧ Below w.heap.size w w' := by
  obtain ⟨a', ca', h1, _, hca⟩ := own_form ha
  obtain ⟨b', cb', h2, _, hcb⟩ := own_form hb
  injection h1 with e1 _ e2
  injection h2 with e3 _ e4
  subst e1 e2 e3 e4
  rw [strs_map] at hca hcb
  have := law07_SameTexts a b ca cb (S.map Prod.fst) (S.map Prod.fst) w (by simp; omega) hca hcb
  rw [List.length_map, beq_self_eq_true] at this
  exact this
end
theorem drew_below {B : Nat} {w w' : World} (h : Below B w.drew w') : Below B w w' := ⟨h.os, h.tape, h.output, h.size, h.block⟩
theorem Below.up {B : Nat} {w w1 w2 : World} (h : Below w1.heap.size w1 w2) (hb : Below B w w1) (hB : B ≤ w.heap.size) : Below B w w2 := hb.trans (h.mono (Nat.le_trans hB hb.size))
theorem same_self {S : List Sb} {a b : Option Addr} {ca cb : Nat} {w : World} (hf : S.length ≤ 16) (ha : CellsA w a (subCells S)) (hb : CellsA w b (subCells S)) :
    Calls Tryd.prog 17 #[.slice a S.length ca, .slice b S.length cb] w fun e w' => e = .returned (.bool true) ∧ Below w.heap.size w w' :=
  (law15_SameSubs a b ca cb S S w (by omega) ha hb).mono (by rintro e w' ⟨rfl, h⟩; exact ⟨by rw [decide_eq_true rfl], h⟩)

/-- The list behind an act. -/
def actS (S : List Sb) (x : Ac) : List Sb := if x.d = 0 then (setS S x.f x.q).2 else if x.d = 1 then delS S (bl x.f) else if x.d = 2 then [] else S
theorem fine_nil : Fine [] := ⟨List.Pairwise.nil, by simp, fun x h => by cases h⟩
theorem actS_fine {S : List Sb} (hS : Fine S) (x : Ac) (hf : x.f.size ≤ 300) : Fine (actS S x) := by
  unfold actS
  split
  · exact setS_fine hS _ _ hf
  · split
    · exact delS_fine hS _
    · split
      · exact fine_nil
      · exact hS
/-- What does leaves: both lists, one list. -/
def RetDoes (B gl gr : Nat) (S' : List Sb) (w : World) (e : Ending) (w' : World) : Prop :=
  ∃ vl vr, e = .returned (.bool true) ∧ LAt w' B gl vl S' ∧ RAt w' B gr vr S' ∧ (∀ k, Foot gl vl k → ¬ Foot gr vr k) ∧ Below B w w'
end Go.Proofs.YtbhmflkhcadaeaaDoor
