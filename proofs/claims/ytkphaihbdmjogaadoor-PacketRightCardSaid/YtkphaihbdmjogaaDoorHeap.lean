/- Words for memory that a call's own blocks bear, and what leaves the rest as it was. No condition; nothing of the program is named. -/
import Derived.Test.YtkphaihbdmjogaaDoorBase
import Derived.Laws.AppendOwn
import Derived.Laws.OwnMore
import Derived.OwnWalk
import Derived.Deep.Draws
import Derived.Laws.Rows
namespace Go.Proofs.YtkphaihbdmjogaaDoor
open Go.RowKit

/-- All blocks that were there, but those of F, are as they were. -/
structure Only (F : Nat → Prop) (w w' : World) : Prop where
  os : w'.os = w.os
  tape : w'.tape = w.tape
  output : w'.output = w.output
  size : w.heap.size ≤ w'.heap.size
  block : ∀ k, k < w.heap.size → ¬ F k → w'.heap[k]? = w.heap[k]?

theorem Only.refl (F : Nat → Prop) (w : World) : Only F w w := ⟨rfl, rfl, rfl, Nat.le_refl _, fun _ _ _ => rfl⟩
theorem Only.of_below {w w' : World} (h : Below w.heap.size w w') (F : Nat → Prop) : Only F w w' := ⟨h.os, h.tape, h.output, h.size, fun k hk _ => h.block k hk⟩
theorem Only.trans {F G : Nat → Prop} {a b c : World} (h : Only F a b) (k : Only G b c) (hG : ∀ j, j < a.heap.size → G j → F j) : Only F a c :=
  ⟨k.os.trans h.os, k.tape.trans h.tape, k.output.trans h.output, Nat.le_trans h.size k.size, fun i hi hF => (k.block i (Nat.lt_of_lt_of_le hi h.size) (fun hg => hF (hG i hi hg))).trans (h.block i hi hF)⟩
theorem Only.then {F : Nat → Prop} {a b c : World} (h : Only F a b) (k : Below b.heap.size b c) : Only F a c := h.trans (Only.of_below k F) (fun _ _ h => h)
theorem Only.drew {F : Nat → Prop} {a b : World} (h : Only F a b) : Only F a b.drew := ⟨h.os, h.tape, h.output, h.size, h.block⟩
theorem Only.drewN {F : Nat → Prop} {a b : World} (h : Only F a b) (n : Nat) : Only F a (b.drewN n) := ⟨h.os, h.tape, h.output, h.size, h.block⟩
theorem Only.alloc {F : Nat → Prop} {a b : World} (h : Only F a b) (o : Obj) : Only F a (b.alloc o) := h.then ((Below.refl _ _).alloc (Nat.le_refl _) _)
theorem Only.setCell {F : Nat → Prop} {a b : World} (h : Only F a b) {p : Addr} (hp : F p.block ∨ a.heap.size ≤ p.block) (u : Value) : Only F a (b.setCell p u) :=
  ⟨h.os, h.tape, h.output, by simpa [World.setCell] using h.size, fun i hi hF => (Below.heap_setCell b p u i (by
    rintro rfl
    rcases hp with hp | hp
    · exact hF hp
    · omega)).trans (h.block i hi hF)⟩
theorem Only.grown {F : Nat → Prop} {a b c : World} (h : Only F a b) {row : Option Nat} (k : b.grownBy c row) (hr : ∀ g, row = some g → F g ∨ a.heap.size ≤ g) : Only F a c :=
  ⟨k.os.trans h.os, k.tape.trans h.tape, k.output.trans h.output, Nat.le_trans h.size k.size, fun i hi hF => (k.block i (Nat.lt_of_lt_of_le hi h.size) (fun e => by
    rcases hr i e.symm with h1 | h1
    · exact hF h1
    · omega)).trans (h.block i hi hF)⟩
theorem Only.below {F : Nat → Prop} {a b : World} (h : Only F a b) {B : Nat} (hB : B ≤ a.heap.size) (hF : ∀ k, F k → B ≤ k) : Below B a b :=
  ⟨h.os, h.tape, h.output, h.size, fun k hk => h.block k (by omega) (fun hf => by have := hF k hf; omega)⟩
theorem Only.weaken {F G : Nat → Prop} {a b : World} (h : Only F a b) (hFG : ∀ k, F k → G k) : Only G a b := ⟨h.os, h.tape, h.output, h.size, fun k hk hG => h.block k hk (fun hf => hG (hFG k hf))⟩
theorem Only.cell {F : Nat → Prop} {a b : World} (h : Only F a b) {p : Addr} {v : Value} (hc : a.cell? p = some v) (hp : ¬ F p.block) : b.cell? p = some v :=
  (World.cell?_of_block (h.block p.block (World.block_lt_of_cell? _ _ hc) hp)).trans hc

/-- A block of one variable. -/
def OneAt (w : World) (g : Nat) (t : TypeId) (v : Value) : Prop := w.heap[g]? = some (.cells #[v] t (0, 0))
theorem OneAt.lt {w : World} {g : Nat} {t : TypeId} {v : Value} (h : OneAt w g t v) : g < w.heap.size := by
  rcases Nat.lt_or_ge g w.heap.size with hl | hg
  · exact hl
  · unfold OneAt at h; rw [Array.getElem?_eq_none hg] at h; cases h
theorem OneAt.cell {w : World} {g : Nat} {t : TypeId} {v : Value} (h : OneAt w g t v) : w.cell? ⟨g, 0, none⟩ = some v := by
  rw [cell_of_row w g 0 _ t (0, 0) h]; rfl
theorem OneAt.frozen {w : World} {g : Nat} {t : TypeId} {v : Value} (h : OneAt w g t v) (j : Nat) : w.frozen? ⟨g, j, none⟩ = false := by
  unfold OneAt at h; simp [World.frozen?, h]
theorem OneAt.only {F : Nat → Prop} {w w' : World} {g : Nat} {t : TypeId} {v : Value} (h : OneAt w g t v) (k : Only F w w') (hF : ¬ F g) : OneAt w' g t v := (k.block g h.lt hF).trans h
theorem OneAt.below {w w' : World} {g : Nat} {t : TypeId} {v : Value} (h : OneAt w g t v) (k : Below w.heap.size w w') : OneAt w' g t v := (k.block g h.lt).trans h
theorem OneAt.new (w : World) (t : TypeId) (v : Value) : OneAt (w.alloc (.cells #[v] t)) w.heap.size t v := heap_alloc_new w _
theorem OneAt.set {w : World} {g : Nat} {t : TypeId} {v : Value} (h : OneAt w g t v) (u : Value) : OneAt (w.setCell ⟨g, 0, none⟩ u) g t u := by
  unfold OneAt at h ⊢
  simp [World.setCell, Array.getElem?_modify, h]
theorem OneAt.ne_own {w : World} {g : Nat} {t : TypeId} {v : Value} (h : OneAt w g t v) {B n size : Nat} {e : TypeId} {x : Value} {xs : List Value} (k : w.ownsRow B e size x n xs) (hne : e ≠ t) : x.ownBlock ≠ some g := by
  rcases k.2 with ⟨rfl, _⟩ | ⟨g', cap, cur, rfl, _, hh, _⟩
  · simp [Value.ownBlock]
  · intro he
    have : g' = g := by simpa [Value.ownBlock] using he
    subst this
    unfold OneAt at h
    rw [hh] at h
    injection h with h
    injection h with _ ht
    exact hne ht

theorem own_only {F : Nat → Prop} {w w' : World} {B n size : Nat} {e : TypeId} {x : Value} {xs : List Value} (h : w.ownsRow B e size x n xs) (k : Only F w w') (hF : ∀ g, x.ownBlock = some g → ¬ F g) : w'.ownsRow B e size x n xs := by
  refine ⟨h.1, ?_⟩
  rcases h.2 with h0 | ⟨g, cap, cur, rfl, hB, hh, h3, h4, h5, h6⟩
  · exact Or.inl h0
  · refine Or.inr ⟨g, cap, cur, rfl, hB, ?_, h3, h4, h5, h6⟩
    have hlt : g < w.heap.size := by
      rcases Nat.lt_or_ge g w.heap.size with hl | hg
      · exact hl
      · rw [Array.getElem?_eq_none hg] at hh; cases hh
    exact (k.block g hlt (hF g rfl)).trans hh
theorem own_lt {w : World} {B n size : Nat} {e : TypeId} {x : Value} {xs : List Value} (h : w.ownsRow B e size x n xs) {g : Nat} (hg : x.ownBlock = some g) : g < w.heap.size ∧ B ≤ g := by
  rcases h.2 with ⟨rfl, _⟩ | ⟨g', cap, cur, rfl, hB, hh, _⟩
  · simp [Value.ownBlock] at hg
  · have : g' = g := by simpa [Value.ownBlock] using hg
    subst this
    refine ⟨?_, hB⟩
    rcases Nat.lt_or_ge g' w.heap.size with hl | hg
    · exact hl
    · rw [Array.getElem?_eq_none hg] at hh; cases hh
/-- What is owned, as a slice: its address, its capacity, its cells. -/
theorem own_form {w : World} {B n size : Nat} {e : TypeId} {x : Value} {xs : List Value} (h : w.ownsRow B e size x n xs) :
    ∃ a c, x = .slice a n c ∧ n ≤ c ∧ CellsA w a xs := by
  obtain ⟨hl, ⟨rfl, rfl⟩ | ⟨g, cap, cur, rfl, hB, hh, h3, h4, h5, h6⟩⟩ := h
  · have : xs = [] := List.eq_nil_of_length_eq_zero (by simpa using hl)
    subst this
    exact ⟨none, 0, rfl, Nat.le_refl _, CellsA.nil _ _⟩
  · refine ⟨_, _, rfl, h3, ?_⟩
    intro j v hv
    refine ⟨_, _, rfl, ?_⟩
    rw [Nat.zero_add, cell_of_row w g j cur e (0, 0) hh]
    rw [← h6, List.getElem?_take] at hv
    split at hv
    · simpa using hv
    · cases hv

/-- A row of the call's own, cut at its end or not: the slice value v, of n elements, begins at the head of a block whose first cells are xs. -/
def RowAt (w : World) (B : Nat) (e : TypeId) (size : Nat) (v : Value) (n : Nat) (xs : List Value) : Prop :=
  xs.length = n * size ∧
  ((v = .slice none 0 0 ∧ n = 0) ∨
   ∃ g cap cur, v = .slice (some ⟨g, 0, none⟩) n cap ∧ B ≤ g ∧ w.heap[g]? = some (.cells cur e (0, 0)) ∧ n ≤ cap ∧ cap ≤ maxLen ∧ cap * size ≤ cur.size ∧ cur.toList.take (n * size) = xs)
theorem RowAt.of_own {w : World} {B n size : Nat} {e : TypeId} {x : Value} {xs : List Value} (h : w.ownsRow B e size x n xs) : RowAt w B e size x n xs := by
  refine ⟨h.1, ?_⟩
  rcases h.2 with h0 | ⟨g, cap, cur, h1, h2, h3, h4, h5, h6, h7⟩
  · exact Or.inl h0
  · exact Or.inr ⟨g, cap, cur, h1, h2, h3, h4, h5, by omega, h7⟩
theorem RowAt.base {w : World} {B B' n size : Nat} {e : TypeId} {x : Value} {xs : List Value} (h : RowAt w B e size x n xs) (hB : B' ≤ B) : RowAt w B' e size x n xs := by
  refine ⟨h.1, ?_⟩
  rcases h.2 with h0 | ⟨g, cap, cur, h1, h2, h3⟩
  · exact Or.inl h0
  · exact Or.inr ⟨g, cap, cur, h1, by omega, h3⟩
theorem RowAt.only {F : Nat → Prop} {w w' : World} {B n size : Nat} {e : TypeId} {x : Value} {xs : List Value} (h : RowAt w B e size x n xs) (k : Only F w w') (hF : ∀ g, x.ownBlock = some g → ¬ F g) : RowAt w' B e size x n xs := by
  refine ⟨h.1, ?_⟩
  rcases h.2 with h0 | ⟨g, cap, cur, rfl, hB, hh, h3, h4, h5, h6⟩
  · exact Or.inl h0
  · refine Or.inr ⟨g, cap, cur, rfl, hB, ?_, h3, h4, h5, h6⟩
    have hlt : g < w.heap.size := by
      rcases Nat.lt_or_ge g w.heap.size with hl | hg
      · exact hl
      · rw [Array.getElem?_eq_none hg] at hh; cases hh
    exact (k.block g hlt (hF g rfl)).trans hh
theorem RowAt.lt {w : World} {B n size : Nat} {e : TypeId} {x : Value} {xs : List Value} (h : RowAt w B e size x n xs) {g : Nat} (hg : x.ownBlock = some g) : g < w.heap.size ∧ B ≤ g := by
  rcases h.2 with ⟨rfl, _⟩ | ⟨g', cap, cur, rfl, hB, hh, _⟩
  · simp [Value.ownBlock] at hg
  · have : g' = g := by simpa [Value.ownBlock] using hg
    subst this
    refine ⟨?_, hB⟩
    rcases Nat.lt_or_ge g' w.heap.size with hl | hg
    · exact hl
    · rw [Array.getElem?_eq_none hg] at hh; cases hh
theorem RowAt.form {w : World} {B n size : Nat} {e : TypeId} {x : Value} {xs : List Value} (h : RowAt w B e size x n xs) : ∃ a c, x = .slice a n c ∧ n ≤ c ∧ CellsA w a xs := by
  obtain ⟨hl, ⟨rfl, rfl⟩ | ⟨g, cap, cur, rfl, hB, hh, h3, h4, h5, h6⟩⟩ := h
  · have : xs = [] := List.eq_nil_of_length_eq_zero (by simpa using hl)
    subst this
    exact ⟨none, 0, rfl, Nat.le_refl _, CellsA.nil _ _⟩
  · refine ⟨_, _, rfl, h3, ?_⟩
    intro j v hv
    refine ⟨_, _, rfl, ?_⟩
    rw [Nat.zero_add, cell_of_row w g j cur e (0, 0) hh]
    rw [← h6, List.getElem?_take] at hv
    split at hv
    · simpa using hv
    · cases hv
theorem RowAt.ne {w : World} {g : Nat} {t : TypeId} {v : Value} (h : OneAt w g t v) {B n size : Nat} {e : TypeId} {x : Value} {xs : List Value} (k : RowAt w B e size x n xs) (hne : e ≠ t) : x.ownBlock ≠ some g := by
  rcases k.2 with ⟨rfl, _⟩ | ⟨g', cap, cur, rfl, _, hh, _⟩
  · simp [Value.ownBlock]
  · intro he
    have : g' = g := by simpa [Value.ownBlock] using he
    subst this
    unfold OneAt at h
    rw [hh] at h
    injection h with h
    injection h with _ ht
    exact hne ht
theorem RowAt.cellAt {w : World} {B n size g cap : Nat} {e : TypeId} {xs : List Value} (h : RowAt w B e size (.slice (some ⟨g, 0, none⟩) n cap) n xs) (j : Nat) (hj : j < n * size) : w.cell? ⟨g, j, none⟩ = xs[j]? := by
  rcases h.2 with ⟨h', _⟩ | ⟨g', cap', cur, h', _, hg, _, _, _, htake⟩
  · simp at h'
  · simp only [Value.slice.injEq, Option.some.injEq, Addr.mk.injEq, and_true, true_and] at h'
    obtain ⟨rfl, rfl⟩ := h'
    rw [cell_of_row w g j cur e (0, 0) hg, ← htake, List.getElem?_take, if_pos hj]
    simp
theorem RowAt.frozenAt {w : World} {B n size g cap : Nat} {e : TypeId} {xs : List Value} (h : RowAt w B e size (.slice (some ⟨g, 0, none⟩) n cap) n xs) (j : Nat) : w.frozen? ⟨g, j, none⟩ = false := by
  rcases h.2 with ⟨h', _⟩ | ⟨g', cap', cur, h', _, hg, _⟩
  · simp at h'
  · simp only [Value.slice.injEq, Option.some.injEq, Addr.mk.injEq, and_true, true_and] at h'
    obtain ⟨rfl, rfl⟩ := h'
    exact frozen_of_row w g j cur e hg
theorem RowAt.stored {w : World} {B n size g cap : Nat} {e : TypeId} {xs : List Value} (h : RowAt w B e size (.slice (some ⟨g, 0, none⟩) n cap) n xs) (j : Nat) (u : Value) :
    RowAt (w.setCell ⟨g, j, none⟩ u) B e size (.slice (some ⟨g, 0, none⟩) n cap) n (xs.set j u) := by
  rcases h.2 with ⟨h', _⟩ | ⟨g', cap', cur, h', hb, hg, hnc, hcm, hcs, htake⟩
  · simp at h'
  · simp only [Value.slice.injEq, Option.some.injEq, Addr.mk.injEq, and_true, true_and] at h'
    obtain ⟨rfl, rfl⟩ := h'
    refine ⟨by simpa using h.1, .inr ⟨g, cap, cur.setIfInBounds j u, rfl, hb, heap_setCell_same w g j cur e u hg, hnc, hcm, by simpa using hcs, ?_⟩⟩
    rw [Array.toList_setIfInBounds, ← htake, List.take_set]
/-- The first k elements of a row, cut there. -/
theorem RowAt.cut {w : World} {B n size g cap : Nat} {e : TypeId} {xs : List Value} (h : RowAt w B e size (.slice (some ⟨g, 0, none⟩) n cap) n xs) (k : Nat) (hk : k ≤ n) :
    RowAt w B e size (.slice (some ⟨g, 0, none⟩) k k) k (xs.take (k * size)) := by
  rcases h.2 with ⟨h', _⟩ | ⟨g', cap', cur, h', hb, hg, hnc, hcm, hcs, htake⟩
  · simp at h'
  · simp only [Value.slice.injEq, Option.some.injEq, Addr.mk.injEq, and_true, true_and] at h'
    obtain ⟨rfl, rfl⟩ := h'
    have h1 : k * size ≤ n * size := Nat.mul_le_mul_right _ hk
    have h2 : k * size ≤ cap * size := Nat.mul_le_mul_right _ (Nat.le_trans hk hnc)
    refine ⟨by rw [List.length_take, h.1, Nat.min_eq_left h1], .inr ⟨g, k, cur, rfl, hb, hg, Nat.le_refl _, by omega, by omega, ?_⟩⟩
    rw [← htake, List.take_take, Nat.min_eq_left h1]
end Go.Proofs.YtkphaihbdmjogaaDoor
