/- Small lemmas on rows, blocks and worlds that all walks use. No condition; of the program three types are named. -/
import Derived.Test.YtkphaihbdmjogaaDoorMem
import Derived.Test.YtkphaihbdmjogaaDoorSubCells
import Derived.Test.YtkphaihbdmjogaaDoorGeneral
import Derived.Test.YtkphaihbdmjogaaDoorBytes
import Derived.Laws.Tables
import Derived.OrdersHeld
import Derived.Deep.RegionHeld3
import Derived.Laws.CopyRow
namespace Go.Proofs.YtkphaihbdmjogaaDoor
open Go.RowKit

theorem infoSub : (Tryd.prog.info? 31).map (fun i => (i.zero, i.size, i.bytes)) = some (some (.agg #[.string ByteArray.empty, .int .u8 0]), 2, 24) := by kernel_rfl
theorem sizeSub : (Tryd.prog.info? 31).map (·.size) = some 2 := by kernel_rfl
theorem subCells_one (S : List Sb) : ∀ u ∈ subCells S, u.oneCell' = true := by
  intro u hu
  obtain ⟨x, _, hx⟩ := List.mem_flatMap.1 hu
  simp at hx
  rcases hx with rfl | rfl <;> rfl
theorem own_row {w : World} {B n cap size g : Nat} {e : TypeId} {xs : List Value} (h : w.ownsRow B e size (.slice (some ⟨g, 0, none⟩) n cap) n xs) : ∃ cur, w.heap[g]? = some (.cells cur e (0, 0)) ∧ cur.size = cap * size := by
  rcases h.2 with ⟨h, _⟩ | ⟨g', cap', cur, hv, _, hh, _, _, hs, _⟩
  · cases h
  · injection hv with h1 _ h3
    injection h1 with h1
    injection h1 with h1
    subst h1 h3
    exact ⟨cur, hh, hs⟩
theorem cells_kept {w w' : World} {a : Option Addr} {xs : List Value} (h : CellsA w a xs) (k : w.grownBy w' none) : CellsA w' a xs := fun j v hv => by
  obtain ⟨b, o, ha, hc⟩ := h j v hv
  exact ⟨b, o, ha, (World.cell?_of_block (k.block b (World.block_lt_of_cell? _ _ hc) (by simp))).trans hc⟩
theorem cells_at {w : World} {b o : Nat} {xs : List Value} (h : CellsA w (some ⟨b, o, none⟩) xs) (j : Nat) (u : Value) (hu : xs[j]? = some u) : w.cell? ((⟨b, o, none⟩ : Addr).add j) = some u := by
  obtain ⟨b', o', he, hc⟩ := h j u hu
  injection he with he
  injection he with e1 e2
  subst e1 e2
  rw [Addr.add_lit]; exact hc
theorem own_mk {w : World} {B n size g : Nat} {e : TypeId} {xs : List Value} (h : w.heap[g]? = some (.cells xs.toArray e (0, 0))) (hl : xs.length = n * size) (hn : n ≤ maxLen) (hB : B ≤ g) : w.ownsRow B e size (.slice (some ⟨g, 0, none⟩) n n) n xs :=
  ⟨hl, Or.inr ⟨g, n, xs.toArray, rfl, hB, h, Nat.le_refl _, hn, by simpa using hl, by rw [← hl]; simp⟩⟩
theorem Below.grown' {B : Nat} {a b c : World} (h : Below B a b) {row : Option Nat} (k : b.grownBy c row) (hB : B ≤ b.heap.size) (hr : ∀ g, row = some g → B ≤ g) : Below B a c :=
  h.trans ⟨k.os, k.tape, k.output, k.size, fun i hi => k.block i (by omega) (fun e => by have := hr i e.symm; omega)⟩
theorem cell_kept {w w' : World} {p : Addr} {v : Value} (h : w.cell? p = some v) (k : w.grownBy w' none) : w'.cell? p = some v :=
  (World.cell?_of_block (k.block p.block (World.block_lt_of_cell? _ _ h) (by simp))).trans h
theorem news2 (w : World) (T : TypeId) (x y : Value) (j : Nat) (u : Value) (h : [x, y][j]? = some u) : (w.alloc (.cells #[x, y] T)).drew.cell? ((⟨w.heap.size, 0, none⟩ : Addr).add j) = some u := by
  rw [Addr.add_lit, Nat.zero_add]
  show (w.alloc _).cell? _ = _
  rw [cell_of_row _ _ _ _ _ _ (heap_alloc_new w _)]
  simpa using h
theorem below_none {w w' : World} (k : w.grownBy w' none) : Below w.heap.size w w' := ⟨k.os, k.tape, k.output, k.size, fun i hi => k.block i hi (by simp)⟩
theorem below_new (w : World) (o : Obj) : Below w.heap.size w (w.alloc o).drew := ((Below.refl _ _).alloc (Nat.le_refl _) o).drew
theorem cells_cut {w : World} {a : Option Addr} {S : List Sb} {p c : Nat} (h : CellsA w a (subCells S)) (hp : p ≤ S.length) (hc : S.length ≤ c) :
    CellsA w (if c = p then a else Option.map (fun x => x.add (p * 2)) a) (subCells (S.drop p)) := by
  intro j u hu
  have hj : (subCells S)[p * 2 + j]? = some u := by
    have hl : (subCells (S.take p)).length = p * 2 := by rw [subCells_len, List.length_take, Nat.min_eq_left hp]
    conv => lhs; rw [← List.take_append_drop p S, subCells_append]
    rw [List.getElem?_append_right (by omega), hl, Nat.add_sub_cancel_left]; exact hu
  have hlt : p < S.length := by
    have h1 := (List.getElem?_eq_some_iff.1 hu).1
    rw [subCells_len, List.length_drop] at h1
    omega
  obtain ⟨b, o, rfl, h2⟩ := h _ u hj
  rw [if_neg (by omega)]
  refine ⟨b, o + p * 2, ?_, by rw [Nat.add_assoc]; exact h2⟩
  show some ((⟨b, o, none⟩ : Addr).add (p * 2)) = _
  rw [Addr.add_lit]
theorem own_base {w : World} {B B' n size : Nat} {e : TypeId} {v : Value} {xs : List Value} (h : w.ownsRow B e size v n xs) (hB : B' ≤ B) : w.ownsRow B' e size v n xs := by
  refine ⟨h.1, ?_⟩
  rcases h.2 with h0 | ⟨g, cap, cur, h1, h2, h3⟩
  · exact Or.inl h0
  · exact Or.inr ⟨g, cap, cur, h1, by omega, h3⟩
theorem newsN (w : World) (T : TypeId) (xs : List Value) (B : Nat) (hB : w.heap.size = B) (j : Nat) (u : Value) (h : xs[j]? = some u) : (w.alloc (.cells xs.toArray T)).cell? ((⟨B, 0, none⟩ : Addr).add j) = some u := by
  subst hB
  rw [Addr.add_lit, Nat.zero_add, cell_of_row _ _ _ _ _ _ (heap_alloc_new w _)]
  simpa using h
theorem infoStr : (Tryd.prog.info? 9).map (fun i => (i.zero, i.size, i.bytes)) = some (some (.string ByteArray.empty), 1, 16) := by kernel_rfl
theorem own_ne_own {w : World} {B B' n m size size' : Nat} {e e' : TypeId} {x y : Value} {xs ys : List Value} (h : w.ownsRow B e size x n xs) (k : w.ownsRow B' e' size' y m ys) (hne : e ≠ e') (r : Nat) (hr : x.ownBlock = some r) : y.ownBlock ≠ some r := by
  rcases h.2 with ⟨rfl, _⟩ | ⟨g, cap, cur, rfl, _, hh, _⟩
  · simp [Value.ownBlock] at hr
  · rcases k.2 with ⟨rfl, _⟩ | ⟨g', cap', cur', rfl, _, hh', _⟩
    · simp [Value.ownBlock]
    · simp only [Value.ownBlock, Option.some.injEq] at hr ⊢
      subst hr
      intro he
      injection he with he
      subst he
      rw [hh] at hh'
      injection hh' with hh'
      injection hh' with _ ht
      exact hne ht
theorem own_grown {w w' : World} {B n size : Nat} {e : TypeId} {x : Value} {xs : List Value} (h : w.ownsRow B e size x n xs) {row : Option Nat} (k : w.grownBy w' row) (hne : ∀ r, row = some r → x.ownBlock ≠ some r) : w'.ownsRow B e size x n xs :=
  own_only h (F := fun j => row = some j) ⟨k.os, k.tape, k.output, k.size, fun i hi hF => k.block i hi (fun e => hF e.symm)⟩ (fun g hg hr => hne g hr hg)
theorem news1 (w : World) (T : TypeId) (x : Value) (B : Nat) (hB : w.heap.size = B) (j : Nat) (u : Value) (h : [x][j]? = some u) : (w.alloc (.cells #[x] T)).cell? ((⟨B, 0, none⟩ : Addr).add j) = some u := by
  subst hB
  rw [Addr.add_lit, Nat.zero_add, cell_of_row _ _ _ _ _ _ (heap_alloc_new w _)]
  simpa using h
theorem row_ne_own {w : World} {B B' n m size size' : Nat} {e e' : TypeId} {x y : Value} {xs ys : List Value} (h : RowAt w B e size x n xs) (k : w.ownsRow B' e' size' y m ys) (hne : e ≠ e') (r : Nat) (hr : y.ownBlock = some r) : x.ownBlock ≠ some r := by
  rcases k.2 with ⟨rfl, _⟩ | ⟨g', cap', cur', rfl, _, hh', _⟩
  · simp [Value.ownBlock] at hr
  · rcases h.2 with ⟨rfl, _⟩ | ⟨g, cap, cur, rfl, _, hh, _⟩
    · simp [Value.ownBlock]
    · simp only [Value.ownBlock, Option.some.injEq] at hr ⊢
      subst hr
      intro he
      injection he with he
      subst he
      rw [hh] at hh'
      injection hh' with hh'
      injection hh' with _ ht
      exact hne ht
theorem only_grown {w w' : World} {row : Option Nat} (k : w.grownBy w' row) : Only (fun j => row = some j) w w' := ⟨k.os, k.tape, k.output, k.size, fun i hi hF => k.block i hi (fun e => hF e.symm)⟩
theorem infoU8 : (Tryd.prog.info? 5).map (fun i => (i.zero, i.size, i.bytes)) = some (some (.int .u8 0), 1, 1) := by kernel_rfl
theorem new1_al {w w' : World} {x : Value} {T : TypeId} (h : w.alloc (.cells #[x] T) = w') : CellsA w' (some ⟨w.heap.size, 0, none⟩) [x] := by
  subst h
  intro j u hu
  refine ⟨_, _, rfl, ?_⟩
  rw [Nat.zero_add, cell_of_row _ _ _ _ _ _ (heap_alloc_new w _)]
  simpa using hu
def b1 (l : List UInt8) : ByteArray := ⟨l.toArray⟩
theorem cells_new {w : World} {T : TypeId} {xs : List Value} : CellsA (w.alloc (.cells xs.toArray T)) (some ⟨w.heap.size, 0, none⟩) xs := by
  intro j u hu
  refine ⟨_, _, rfl, ?_⟩
  rw [Nat.zero_add, cell_of_row _ _ _ _ _ _ (heap_alloc_new w _)]
  simpa using hu
theorem drew_below {B : Nat} {w w' : World} (h : Below B w.drew w') : Below B w w' := ⟨h.os, h.tape, h.output, h.size, h.block⟩
theorem Below.up {B : Nat} {w w1 w2 : World} (h : Below w1.heap.size w1 w2) (hb : Below B w w1) (hB : B ≤ w.heap.size) : Below B w w2 := hb.trans (h.mono (Nat.le_trans hB hb.size))
/-- A row whose elements have m cells each. -/
theorem rowV_at {α : Type} {g : α → List Value} {m : Nat} (hg : ∀ x, (g x).length = m) : ∀ (L : List α) (i : Nat) (x : α) (j : Nat) (u : Value), L[i]? = some x → (g x)[j]? = some u → (L.flatMap g)[i * m + j]? = some u
  | [], i, x, j, u, h, _ => by simp at h
  | y :: r, 0, x, j, u, h, hu => by
    simp at h
    subst h
    rw [List.flatMap_cons, Nat.zero_mul, Nat.zero_add, List.getElem?_append_left (List.getElem?_eq_some_iff.1 hu).1]
    exact hu
  | y :: r, i + 1, x, j, u, h, hu => by
    have ih := rowV_at hg r i x j u (by simpa using h) hu
    have he : (i + 1) * m + j = m + (i * m + j) := by rw [Nat.succ_mul]; omega
    rw [List.flatMap_cons, he, List.getElem?_append_right (by rw [hg]; omega), hg, Nat.add_sub_cancel_left]
    exact ih
theorem CellsA.elem {w : World} {a : Option Addr} {α : Type} {g : α → List Value} {m : Nat} (hg : ∀ x, (g x).length = m) {L : List α} (h : CellsA w a (L.flatMap g)) {i : Nat} {x : α} (hx : L[i]? = some x) (u0 : Value) (h0 : (g x)[0]? = some u0) :
    ∃ b o, a = some ⟨b, o, none⟩ ∧ ∀ j u, (g x)[j]? = some u → w.cell? ⟨b, o + i * m + j, none⟩ = some u := by
  obtain ⟨b, o, ha, _⟩ := h _ _ (rowV_at hg L i x 0 u0 hx h0)
  refine ⟨b, o, ha, fun j u hu => ?_⟩
  obtain ⟨b', o', ha', hc⟩ := h _ _ (rowV_at hg L i x j u hx hu)
  rw [ha] at ha'
  injection ha' with e
  injection e with e1 e2
  subst e1 e2
  rw [Nat.add_assoc]; exact hc
theorem any_take {α : Type} {p : α → Bool} {L : List α} {k : Nat} {x : α} (hx : L[k]? = some x) (h : (L.take k).any p = false) (hp : p x = false) : (L.take (k + 1)).any p = false := by
  rw [List.take_add_one, hx, List.any_append, h]; simp [hp]
theorem any_at {α : Type} {p : α → Bool} {L : List α} {k : Nat} {x : α} (hx : L[k]? = some x) (hp : p x = true) : L.any p = true := List.any_eq_true.2 ⟨x, List.mem_of_getElem? hx, hp⟩
theorem any_snoc {α : Type} (p : α → Bool) (L : List α) (k : Nat) (x : α) (hx : L[k]? = some x) : (L.take (k + 1)).any p = ((L.take k).any p || p x) := by
  rw [List.take_add_one, hx, List.any_append]; simp
/-- A block of a value of several cells. -/
def BoxAt (w : World) (X : Nat) (cs : Array Value) (T : TypeId) : Prop := w.heap[X]? = some (.cells cs T (0, 0))
theorem BoxAt.lt {w : World} {X : Nat} {cs : Array Value} {T : TypeId} (h : BoxAt w X cs T) : X < w.heap.size := by
  rcases Nat.lt_or_ge X w.heap.size with hl | hg
  · exact hl
  · unfold BoxAt at h; rw [Array.getElem?_eq_none hg] at h; cases h
theorem BoxAt.below {w w' : World} {X : Nat} {cs : Array Value} {T : TypeId} (h : BoxAt w X cs T) (k : Below w.heap.size w w') : BoxAt w' X cs T := (k.block X h.lt).trans h
theorem BoxAt.only {F : Nat → Prop} {w w' : World} {X : Nat} {cs : Array Value} {T : TypeId} (h : BoxAt w X cs T) (k : Only F w w') (hF : ¬ F X) : BoxAt w' X cs T := (k.block X h.lt hF).trans h
theorem BoxAt.cells {w : World} {X : Nat} {cs : Array Value} {T : TypeId} (h : BoxAt w X cs T) (o : Nat) : w.cell? ⟨X, o, none⟩ = cs[o]? := cell_of_row w X o cs T (0, 0) h
theorem BoxAt.frozen {w : World} {X : Nat} {cs : Array Value} {T : TypeId} (h : BoxAt w X cs T) (o : Nat) : w.frozen? ⟨X, o, none⟩ = false := frozen_of_row w X o cs T h
theorem BoxAt.new (w : World) (cs : Array Value) (T : TypeId) : BoxAt (w.alloc (.cells cs T)) w.heap.size cs T := heap_alloc_new w _
theorem BoxAt.new2 (w : World) (A : Obj) (cs : Array Value) (T : TypeId) : BoxAt ((w.alloc A).alloc (.cells cs T)) (w.heap.size + 1) cs T := heap_alloc2_new w A _
theorem BoxAt.old2 (w : World) (B : Obj) (cs : Array Value) (T : TypeId) : BoxAt ((w.alloc (.cells cs T)).alloc B) w.heap.size cs T := heap_alloc2_old w _ B
theorem BoxAt.set {w : World} {X : Nat} {cs : Array Value} {T : TypeId} (h : BoxAt w X cs T) (j : Nat) (v : Value) : BoxAt (w.setCell ⟨X, j, none⟩ v) X (cs.setIfInBounds j v) T := heap_setCell_same w X j cs T v h
theorem BoxAt.other {w : World} {X Y : Nat} {cs : Array Value} {T : TypeId} (h : BoxAt w X cs T) (hne : X ≠ Y) (j : Nat) (v : Value) : BoxAt (w.setCell ⟨Y, j, none⟩ v) X cs T := (heap_setCell_other w ⟨Y, j, none⟩ X v hne).trans h
/-- In a region that draws its order: a whole value loaded, whatever the world that bears it. -/
theorem yields_load_box {P : Program} {ops : Array Oper} {S : World → Prop} {op : Oper} {a : Act} (hw : Region.wanted op (yielded ops a.tmps) = true) (ty : TypeId) (x : Operand) (ho : op.op = .load ty x)
    (X : Nat) (hx : a.eval x = .pointer (some ⟨X, 0, none⟩)) (T : TypeId) (cs : Array Value) (d : TypeDesc) (hS : ∀ w, S w → BoxAt w X cs T)
    (hu : P.underlying ty = some d) (hd : (match d with | .struct _ | .array _ _ => true | _ => false) = true) (hi : (P.info? ty).map (·.size) = some cs.size) : YieldsIf P ops S op (.agg cs) a :=
  .inl ⟨hw, fun w hw' => by
    unfold execOp
    simp only [ho, hx, Instr.loadAt, Instr.sureAddr, Sem.run_bind, Sem.run_pure, Result.andThen_ok, run_loadVar_row w X T ty cs (0, 0) d (hS w hw') hu hd hi]⟩
section
variable {P : Program} {ops : Array Oper} {rest : List Oper} {o : Oper} {a : Act} {w : World} {Q : Exit → Act → World → Prop}
/-- A composite value, its cells told. -/
theorem wpList_build_to (hg : o.guard = none) (t : TypeId) (parts : Array (Nat × Operand)) (ho : o.op = .build t parts) (cells : Array Value)
    (hf : P.built t (parts.map fun (i, x) => (i, a.eval x)).toList = some cells) (h : wpList P ops Q rest (a.put o.dst (.agg cells)) w) : wpList P ops Q (o :: rest) a w :=
  wpList_build hg t parts ho (by rw [hf]; rfl) (by rw [hf]; exact h)
/-- A whole value stored into a block of its own. -/
theorem wpList_store_box (hgd : o.guard = none) (ty : TypeId) (x y : Operand) (ho : o.op = .store ty x y) (X : Nat) (cells : Array Value) (hx : a.eval x = .pointer (some ⟨X, 0, none⟩)) (hy : a.eval y = .agg cells)
    (T : TypeId) (old : Array Value) (hb : BoxAt w X old T) (hi : (P.info? ty).map (·.size) = some cells.size) (hold : old.size = cells.size) (h1 : cells.all (·.oneCell') = true)
    (h : ∀ w', BoxAt w' X cells T → Only (fun k => k = X) w w' → wpList P ops Q rest (a.put o.dst undef) w') : wpList P ops Q (o :: rest) a w := by
  refine wpList_plain hgd fun K hK => wp_store_row ty x y ho X cells hx hy T old hb hi hold h1 (hK _ _ (h _ (setRow_heap w X old cells T _ hb) ?_))
  exact ⟨rfl, rfl, rfl, by simp [World.setRow], fun j _ hne => setRow_other w X j _ hne⟩
/-- A whole value loaded out of a block of its own. -/
theorem wpList_load_box (hgd : o.guard = none) (ty : TypeId) (x : Operand) (ho : o.op = .load ty x) (X : Nat) (hx : a.eval x = .pointer (some ⟨X, 0, none⟩)) (T : TypeId) (cs : Array Value) (hb : BoxAt w X cs T)
    (d : TypeDesc) (hu : P.underlying ty = some d) (hd : (match d with | .struct _ | .array _ _ => true | _ => false) = true) (hi : (P.info? ty).map (·.size) = some cs.size)
    (h : wpList P ops Q rest (a.put o.dst (.agg cs)) w) : wpList P ops Q (o :: rest) a w :=
  wpList_load_row hgd ty x ho X hx T cs (0, 0) d hb hu hd hi h
end
end Go.Proofs.YtkphaihbdmjogaaDoor
