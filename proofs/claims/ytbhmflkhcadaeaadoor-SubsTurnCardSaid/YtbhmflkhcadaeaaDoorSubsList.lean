/- The walks of the list of filters: find, Subs, Best. Conditions: the list lies behind its pointer, its filters in order, each shorter than the model's bound; the decoder's tables lie as Go lays them. -/
import Derived.Test.YtbhmflkhcadaeaaDoorSubsFind
import Derived.Test.YtbhmflkhcadaeaaDoorMem
namespace Go.Proofs.YtbhmflkhcadaeaaDoor
open Go.RowKit

theorem infoSub : (Tryd.prog.info? 33).map (fun i => (i.zero, i.size, i.bytes)) = some (some (.agg #[.string ByteArray.empty, .int .u8 0]), 2, 24) := by kernel_rfl

theorem sizeSub : (Tryd.prog.info? 33).map (·.size) = some 2 := by kernel_rfl

/-- A list of filters behind block g, whose row is the value v; all its blocks are from B on. -/
structure LAt (w : World) (B g : Nat) (v : Value) (S : List Sb) : Prop where
  blk : OneAt w g 54 v
  own : RowAt w B 33 2 v S.length (subCells S)
  lo : B ≤ g
/-- What is true of each list: in order, at most sixteen, filters of a bounded size. -/
structure Fine (S : List Sb) : Prop where
  sort : SortS S
  few : S.length ≤ 16
  good : ∀ x ∈ S, filterL (fB x) = true ∧ x.2 ≤ 2 ∧ x.1.size ≤ 300

theorem LAt.only {F : Nat → Prop} {w w' : World} {B g : Nat} {v : Value} {S : List Sb} (h : LAt w B g v S) (k : Only F w w') (h1 : ¬ F g) (h2 : ∀ r, v.ownBlock = some r → ¬ F r) : LAt w' B g v S :=
  ⟨h.blk.only k h1, h.own.only k h2, h.lo⟩
theorem LAt.below {w w' : World} {B g : Nat} {v : Value} {S : List Sb} (h : LAt w B g v S) (k : Below w.heap.size w w') : LAt w' B g v S :=
  h.only (Only.of_below k (fun _ => False)) (fun h => h) (fun _ _ h => h)
theorem subCells_one (S : List Sb) : ∀ u ∈ subCells S, u.oneCell' = true := by
  intro u hu
  obtain ⟨x, _, hx⟩ := List.mem_flatMap.1 hu
  simp at hx
  rcases hx with rfl | rfl <;> rfl

theorem subs_find (B g : Nat) (v : Value) (S : List Sb) (f : ByteArray) (w : World) (hL : LAt w B g v S) (hF : Fine S) :
    Calls Tryd.prog 34 #[.pointer (some ⟨g, 0, none⟩), .string f] w fun e w' =>
      e = .returned (.tuple #[.int .i64 (posS S (bl f) : Nat), .bool (atS S (bl f))]) ∧ Below w.heap.size w w' := by
  obtain ⟨a, c, rfl, hc, hcells⟩ := hL.own.form
  have hcell := hL.blk.cell
  have hfew := hF.few
  have hS := Lib.hid (subs_search a c S f w hF.sort (by omega) hcells)
  generalize posS S (bl f) = p at *
  generalize atS S (bl f) = t at *
  clear hF hL
  go_enter Tryd.func34, Tryd.ntmps34
  go_wp2_with (go_at_call 43; refine Calls.mono hS.out ?_; rintro e w1 ⟨rfl, hb⟩)
  go_ret2
  exact ⟨rfl, hb⟩

/-- What Subs leaves: nil, or a row in a new block. -/
def RetSubs (S : List Sb) (w : World) (e : Ending) (w' : World) : Prop := ∃ v, e = .returned v ∧ w'.ownsRow w.heap.size 33 2 v S.length (subCells S) ∧ Below w.heap.size w w'

theorem own_row {w : World} {B n cap size g : Nat} {e : TypeId} {xs : List Value} (h : w.ownsRow B e size (.slice (some ⟨g, 0, none⟩) n cap) n xs) : ∃ cur, w.heap[g]? = some (.cells cur e (0, 0)) ∧ cur.size = cap * size := by
  rcases h.2 with ⟨h, _⟩ | ⟨g', cap', cur, hv, _, hh, _, _, hs, _⟩
  · cases h
  · injection hv with h1 _ h3
    injection h1 with h1
    injection h1 with h1
    subst h1 h3
    exact ⟨cur, hh, hs⟩
theorem cells_kept {w w' : World} {a : Option Addr} {xs : List Value} (h : CellsA w a xs) (k : w.grownBy w' none) : CellsA w' a xs := fun j v hv => by
  obtain ⟨b, o, ha, hc⟩ := h j v hv
  exact ⟨b, o, ha, (World.cell?_of_block (k.block b (World.block_lt_of_cell? _ _ hc) (by simp))).trans hc⟩
theorem cells_at {w : World} {b o : Nat} {xs : List Value} (h : CellsA w (some ⟨b, o, none⟩) xs) (j : Nat) (u : Value) (hu : xs[j]? = some u) : w.cell? ((⟨b, o, none⟩ : Addr).add j) = some u := by
  obtain ⟨b', o', he, hc⟩ := h j u hu
  injection he with he
  injection he with e1 e2
  subst e1 e2
  rw [Addr.add_lit]; exact hc
theorem own_mk {w : World} {B n size g : Nat} {e : TypeId} {xs : List Value} (h : w.heap[g]? = some (.cells xs.toArray e (0, 0))) (hl : xs.length = n * size) (hn : n ≤ maxLen) (hB : B ≤ g) : w.ownsRow B e size (.slice (some ⟨g, 0, none⟩) n n) n xs :=
  ⟨hl, Or.inr ⟨g, n, xs.toArray, rfl, hB, h, Nat.le_refl _, hn, by simpa using hl, by rw [← hl]; simp⟩⟩
theorem Below.grown' {B : Nat} {a b c : World} (h : Below B a b) {row : Option Nat} (k : b.grownBy c row) (hB : B ≤ b.heap.size) (hr : ∀ g, row = some g → B ≤ g) : Below B a c :=
  h.trans ⟨k.os, k.tape, k.output, k.size, fun i hi => k.block i (by omega) (fun e => by have := hr i e.symm; omega)⟩
theorem cell_kept {w w' : World} {p : Addr} {v : Value} (h : w.cell? p = some v) (k : w.grownBy w' none) : w'.cell? p = some v :=
  (World.cell?_of_block (k.block p.block (World.block_lt_of_cell? _ _ h) (by simp))).trans h

theorem subs_Subs (B g : Nat) (v : Value) (S : List Sb) (w : World) (hL : LAt w B g v S) (hfew : S.length ≤ 16) :
    Calls Tryd.prog 14 #[.pointer (some ⟨g, 0, none⟩)] w (RetSubs S w) := by
  obtain ⟨i0, hi, hz0, hz1, hz2⟩ := info_parts infoSub
  obtain ⟨a, c, rfl, hc, hcells⟩ := hL.own.form
  have hcell := hL.blk.cell
  by_cases h0 : S.length = 0
  · have hS : S = [] := List.eq_nil_of_length_eq_zero h0
    subst hS
    clear h0 hL
    go_enter Tryd.func14, Tryd.ntmps14
    go_wp2_with fail
    go_ret
    exact ⟨_, rfl, World.ownsRow_nil _ _ _ _, Below.refl _ _⟩
  · obtain ⟨x, r, hxr⟩ : ∃ x r, S = x :: r := by
      cases S with
      | nil => exact absurd rfl h0
      | cons x r => exact ⟨x, r, rfl⟩
    obtain ⟨b, o, rfl, _, _⟩ := hcells.sub (i := 0) (x := x) (by rw [hxr]; rfl)
    have n0 : ((S.length : Int) == 0) = false := by rw [beq_eq_false_iff_ne]; omega
    have hone := Lib.hid (subCells_one S)
    have HC := Lib.hid hcells
    have HL := Lib.hid (subCells_len S)
    have hlt := hL.blk.lt
    have hblt : b < w.heap.size := by
      obtain ⟨b', o', hb', hc'⟩ := hcells 0 (.string x.1) (by rw [hxr]; rfl)
      injection hb' with hb'
      injection hb' with e1 e2
      subst e1
      exact World.block_lt_of_cell? _ _ hc'
    clear hcells hL hxr
    go_enter Tryd.func14, Tryd.ntmps14
    go_wp2_with (first
      | (at_make; refine wpList_make_full _ rfl _ _ _ rfl w.heap.size 33 i0 _ 2 Tryd.underlying28 hi hz0 hz1 .i64 .i64 _ _ S.length rfl rfl rfl rfl (by rw [hz2]; omega) (by unfold maxLen; omega) (Nat.le_refl _) ?_; intro w1 hown1 hg1; have hc1 := cell_kept hcell hg1; obtain ⟨cur, hgc, hsz⟩ := own_row hown1)
      | (with_reducible show wpList _ _ _ (⟨some 25, _, _, _, _, _⟩ :: _) _ _; refine wpList_copy_full rfl _ _ _ _ rfl 33 2 Tryd.underlying28 sizeSub w.heap.size S.length S.length ⟨b, o, none⟩ c rfl rfl cur 33 hgc (subCells S) HL.out (cells_at (cells_kept HC.out hg1)) (HL.out.trans hsz.symm) hone.out ?_; intro w2 hrow hg2))
    go_ret
    exact ⟨_, rfl, own_mk hrow HL.out (by unfold maxLen; omega) (Nat.le_refl _), Below.grown' (Below.grown' (Below.refl _ _) hg1 (Nat.le_refl _) (by simp)) hg2 hg1.size (by intro g h; injection h with h; omega)⟩
end Go.Proofs.YtbhmflkhcadaeaaDoor
