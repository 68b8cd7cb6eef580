/- What a walk keeps of its world: the boxes of its structs, the rows that it reads, all that was there below. No condition; nothing of the program is named. -/
import Derived.Test.YtkphaihbdmjogaaDoorGeneral2
import Derived.Great.Walk
namespace Go.Proofs.YtkphaihbdmjogaaDoor
open Go.RowKit

/-- A block of a struct: its number, its cells, its type. -/
abbrev Box := Nat × Array Value × TypeId
/-- A row that is read: where it begins, its cells. -/
abbrev Row := Option Addr × List Value
structure Keep (w0 : World) (L : List Box) (R : List Row) (w : World) : Prop where
  env0 : Env w0
  low : Below w0.heap.size w0 w
  box : ∀ x ∈ L, BoxAt w x.1 x.2.1 x.2.2
  up : ∀ x ∈ L, w0.heap.size ≤ x.1
  nod : (L.map (·.1)).Nodup
  row : ∀ r ∈ R, CellsA w r.1 r.2
  apart : ∀ r ∈ R, r.2 ≠ [] → ∀ x ∈ L, ∀ ad, r.1 = some ad → ad.block ≠ x.1

section
variable {w0 w w' : World} {L : List Box} {R : List Row}
theorem Keep.env (h : Keep w0 L R w) : Env w := h.env0.below h.low
theorem Keep.size (h : Keep w0 L R w) : w0.heap.size ≤ w.heap.size := h.low.size
theorem Keep.lt (h : Keep w0 L R w) {x : Box} (hx : x ∈ L) : x.1 < w.heap.size := (h.box x hx).lt
theorem Keep.begin (hE : Env w) (R : List Row) (hR : ∀ r ∈ R, CellsA w r.1 r.2) : Keep w [] R w :=
  ⟨hE, Below.refl _ _, fun x hx => (by cases hx), fun x hx => (by cases hx), List.nodup_nil, hR, fun r _ _ x hx => (by cases hx)⟩
theorem Keep.below (h : Keep w0 L R w) (k : Below w.heap.size w w') : Keep w0 L R w' :=
  ⟨h.env0, h.low.trans (k.mono h.size), fun x hx => (h.box x hx).below k, h.up, h.nod, fun r hr => (h.row r hr).below k, h.apart⟩
theorem Keep.drew (h : Keep w0 L R w) : Keep w0 L R w.drew := h.below (below_draws (n := 1) rfl)
theorem Keep.drewN (h : Keep w0 L R w) (n : Nat) : Keep w0 L R (w.drewN n) := h.below (below_draws (n := n) rfl)
theorem CellsA.lt {w : World} {ad : Addr} {vs : List Value} (h : CellsA w (some ad) vs) (hne : vs ≠ []) : ad.block < w.heap.size := by
  cases vs with
  | nil => exact absurd rfl hne
  | cons v r =>
    obtain ⟨b, o, e, hc⟩ := h 0 v rfl
    injection e with e
    subst e
    exact World.block_lt_of_cell? _ _ hc
theorem Keep.alloc (h : Keep w0 L R w) (cs : Array Value) (T : TypeId) : Keep w0 ((w.heap.size, cs, T) :: L) R (w.alloc (.cells cs T)) := by
  have k : Below w.heap.size w (w.alloc (.cells cs T)) := (Below.refl _ _).alloc (Nat.le_refl _) _
  have h2 := h.below k
  refine ⟨h2.env0, h2.low, ?_, ?_, ?_, h2.row, ?_⟩
  · intro x hx
    rcases List.mem_cons.1 hx with rfl | hx
    · exact BoxAt.new w cs T
    · exact h2.box x hx
  · intro x hx
    rcases List.mem_cons.1 hx with rfl | hx
    · exact h.size
    · exact h.up x hx
  · rw [List.map_cons, List.nodup_cons]
    refine ⟨fun hm => ?_, h.nod⟩
    obtain ⟨x, hx, e⟩ := List.mem_map.1 hm
    have := h.lt hx
    simp only at e
    omega
  · intro r hr hne x hx ad e
    rcases List.mem_cons.1 hx with rfl | hx
    · have := (e ▸ h.row r hr).lt hne
      simp only
      omega
    · exact h.apart r hr hne x hx ad e
theorem Keep.alloc' (h : Keep w0 L R w) (cs : Array Value) (T : TypeId) (X : Nat) (hX : w.heap.size = X) : Keep w0 ((X, cs, T) :: L) R (w.alloc (.cells cs T)) := hX ▸ h.alloc cs T
theorem Keep.rowIn (h : Keep w0 L R w) {a : Option Addr} {vs : List Value} (hc : CellsA w a vs) (ha : vs ≠ [] → ∀ x ∈ L, ∀ ad, a = some ad → ad.block ≠ x.1) : Keep w0 L ((a, vs) :: R) w :=
  ⟨h.env0, h.low, h.box, h.up, h.nod, fun r hr => by rcases List.mem_cons.1 hr with rfl | hr; exact hc; exact h.row r hr, fun r hr hne x hx ad e => by
    rcases List.mem_cons.1 hr with rfl | hr
    · exact ha hne x hx ad e
    · exact h.apart r hr hne x hx ad e⟩
theorem Keep.allocRow (h : Keep w0 L R w) (vs : List Value) (T : TypeId) : Keep w0 L ((some ⟨w.heap.size, 0, none⟩, vs) :: R) (w.alloc (.cells vs.toArray T)) :=
  (h.below ((Below.refl _ _).alloc (Nat.le_refl _) _)).rowIn cells_new (fun _ x hx ad e => by
    injection e with e
    subst e
    have := h.lt hx
    simp only
    omega)
theorem Keep.at (h : Keep w0 L R w) (i : Nat) {X : Nat} {cs : Array Value} {T : TypeId} (hi : L[i]? = some (X, cs, T)) : BoxAt w X cs T := h.box _ (List.mem_of_getElem? hi)
theorem Keep.rowAt (h : Keep w0 L R w) (i : Nat) {a : Option Addr} {vs : List Value} (hi : R[i]? = some (a, vs)) : CellsA w a vs := h.row _ (List.mem_of_getElem? hi)
theorem Keep.sub (h : Keep w0 L R w) {L' : List Box} {R' : List Row} (hL : L'.Sublist L) (hR : ∀ r ∈ R', r ∈ R) : Keep w0 L' R' w :=
  ⟨h.env0, h.low, fun x hx => h.box x (hL.subset hx), fun x hx => h.up x (hL.subset hx), (hL.map _).nodup h.nod, fun r hr => h.row r (hR r hr), fun r hr hne x hx => h.apart r (hR r hr) hne x (hL.subset hx)⟩
theorem Keep.only (h : Keep w0 L R w) {i X : Nat} {old cs : Array Value} {T : TypeId} (hi : L[i]? = some (X, old, T)) (k : Only (fun j => j = X) w w') (hb : BoxAt w' X cs T) : Keep w0 (L.set i (X, cs, T)) R w' := by
  have hm := List.mem_of_getElem? hi
  have hne : ∀ r ∈ R, r.2 ≠ [] → CellsA w' r.1 r.2 := fun r hr hn j v hv => by
    obtain ⟨b, o, e, hc⟩ := h.row r hr j v hv
    exact ⟨b, o, e, k.cell hc (fun e2 => h.apart r hr hn _ hm _ e e2)⟩
  have hlow : Below w0.heap.size w0 w' := h.low.trans (k.below h.size (fun j e => by have := h.up _ hm; simp only at this; omega))
  refine ⟨h.env0, hlow, ?_, ?_, ?_, ?_, ?_⟩
  · intro x hx
    obtain ⟨j, hj⟩ := List.getElem?_of_mem hx
    rw [List.getElem?_set] at hj
    split at hj
    · split at hj
      · injection hj with hj; subst hj; exact hb
      · cases hj
    · rename_i hij
      have hx' := h.box x (List.mem_of_getElem? hj)
      refine hx'.only k (fun e => hij ?_)
      have h1 : (L.map (·.1))[i]? = some X := by rw [List.getElem?_map, hi]; rfl
      have h2 : (L.map (·.1))[j]? = some X := by rw [List.getElem?_map, hj]; exact congrArg some e
      exact (List.getElem?_inj (List.getElem?_eq_some_iff.1 h1).1 h.nod).1 (h1.trans h2.symm)
  · intro x hx
    rcases List.mem_or_eq_of_mem_set hx with hx | rfl
    · exact h.up x hx
    · exact h.up (X, old, T) hm
  · rw [List.map_set]
    have e : (L.map (·.1)).set i X = L.map (·.1) := by
      have h1 : (L.map (·.1))[i]? = some X := by rw [List.getElem?_map, hi]; rfl
      obtain ⟨hlt, h3⟩ := List.getElem?_eq_some_iff.1 h1
      rw [← h3, List.set_getElem_self]
    rw [e]; exact h.nod
  · intro r hr
    by_cases hn : r.2 = []
    · rw [hn]; exact CellsA.nil _ _
    · exact hne r hr hn
  · intro r hr hn x hx ad e
    rcases List.mem_or_eq_of_mem_set hx with hx | rfl
    · exact h.apart r hr hn x hx ad e
    · exact h.apart r hr hn (X, old, T) hm ad e
theorem BoxAt.ne_own {w : World} {X : Nat} {cs : Array Value} {T : TypeId} (h : BoxAt w X cs T) {B n size : Nat} {e : TypeId} {x : Value} {xs : List Value} (k : w.ownsRow B e size x n xs) (hne : e ≠ T) (g : Nat) (hg : x.ownBlock = some g) : ¬ g = X := by
  rintro rfl
  rcases k.2 with ⟨rfl, _⟩ | ⟨g', cap, cur, rfl, _, hh, _⟩
  · simp [Value.ownBlock] at hg
  · have : g' = g := by simpa [Value.ownBlock] using hg
    subst this
    unfold BoxAt at h
    rw [hh] at h
    injection h with h
    injection h with _ ht
    exact hne ht
theorem Keep.grown (h : Keep w0 L R w) {r : Option Nat} (k : w.grownBy w' r) (h1 : ∀ g, r = some g → w0.heap.size ≤ g) (h2 : ∀ g, r = some g → ∀ x ∈ L, g ≠ x.1) (hR : ∀ x ∈ R, CellsA w' x.1 x.2) : Keep w0 L R w' :=
  ⟨h.env0, Below.grown' h.low k h.size h1, fun x hx => (h.box x hx).only (only_grown k) (fun e => h2 _ e x hx rfl), h.up, h.nod, hR, h.apart⟩
theorem Keep.set (h : Keep w0 L R w) {i X : Nat} {old : Array Value} {T : TypeId} (hi : L[i]? = some (X, old, T)) (j : Nat) (v : Value) {cs : Array Value} (hcs : old.setIfInBounds j v = cs) : Keep w0 (L.set i (X, cs, T)) R (w.setCell ⟨X, j, none⟩ v) := by
  exact h.only hi (Only.setCell (F := fun j => j = X) (Only.refl _ _) (p := ⟨X, j, none⟩) (Or.inl rfl) v) (hcs ▸ (h.at i hi).set j v)
end

theorem own_cells {w : World} {B n m c size : Nat} {e : TypeId} {a : Option Addr} {xs : List Value} (h : w.ownsRow B e size (.slice a n c) m xs) : CellsA w a xs := by
  obtain ⟨a', c', hv, _, hc⟩ := own_form h
  injection hv with h1 _ _
  exact h1 ▸ hc
/-- In a region that draws its order: a composite value. -/
theorem yields_build {P : Program} {ops : Array Oper} {S : World → Prop} {op : Oper} {a : Act} (hw : Region.wanted op (yielded ops a.tmps) = true) (t : TypeId) (parts : Array (Nat × Operand)) (ho : op.op = .build t parts)
    (cells : Array Value) (hf : P.built t (parts.map fun (i, x) => (i, a.eval x)).toList = some cells) : YieldsIf P ops S op (.agg cells) a :=
  .inl ⟨hw, fun w _ => by
    unfold execOp
    simp only [ho, Sem.run_bind, run_build w t _ cells hf, Result.andThen_ok, Sem.run_pure]⟩
section
variable {P : Program} {ops : Array Oper} {rest : List Oper} {o o2 : Oper} {a : Act} {w : World} {Q : Exit → Act → World → Prop}
/-- A new variable of a struct, given its value at once. -/
theorem wpList_new (g1 : o.guard = none) (ty : TypeId) (h1 : o.op = .alloc ty) (dst : Option Tmp) (hd : o.dst = dst) (g2 : o2.guard = none) (x y : Operand) (h2 : o2.op = .store ty x y) (hd2 : o2.dst = none) (i : TypeInfo) (z : Value) (hi : P.info? ty = some i) (hz : i.zero = some z)
    (cells : Array Value) (hsz : i.size = cells.size) (hzs : z.cells.size = cells.size) (hone : cells.all (·.oneCell') = true)
    (hx : (a.put dst (.pointer (some ⟨w.heap.size, 0, none⟩))).eval x = .pointer (some ⟨w.heap.size, 0, none⟩)) (hy : (a.put dst (.pointer (some ⟨w.heap.size, 0, none⟩))).eval y = .agg cells)
    (h : wpList P ops Q rest (a.put dst (.pointer (some ⟨w.heap.size, 0, none⟩))) (w.alloc (.cells cells ty))) : wpList P ops Q (o :: o2 :: rest) a w := by
  subst hd
  refine Great.wpList_allocTo g1 o.dst rfl (.pointer (some ⟨w.heap.size, 0, none⟩)) (.cells z.cells ty) ?_ ?_
  · unfold execOp
    simp [h1, Instr.alloc, zeroValue, typeInfo, hi, hz, newVar, newRow]
  · refine wpList_store_row g2 ty x y h2 w.heap.size cells hx hy ty z.cells (heap_alloc_new w _) (by rw [hi]; simp [hsz]) hzs hone ?_
    have e : (w.alloc (.cells z.cells ty)).setRow w.heap.size cells = w.alloc (.cells cells ty) := by
      unfold World.setRow World.alloc
      congr 1
      apply Array.ext_getElem?
      intro k
      rw [Array.getElem?_modify]
      by_cases hk : w.heap.size = k
      · subst hk; simp
      · rw [if_neg hk, Array.getElem?_push, Array.getElem?_push, if_neg (Ne.symm hk), if_neg (Ne.symm hk)]
    rw [e, hd2]
    exact h
/-- A composite value, by an operation that has a guard. -/
theorem wpList_build_G (hw : Region.wanted o (yielded ops a.tmps) = true) (t : TypeId) (parts : Array (Nat × Operand)) (ho : o.op = .build t parts) (cells : Array Value)
    (hf : P.built t (parts.map fun (i, x) => (i, a.eval x)).toList = some cells) (h : wpList P ops Q rest (a.put o.dst (.agg cells)) w) : wpList P ops Q (o :: rest) a w :=
  wpList_step fun K hK => by
    rw [if_pos hw]
    refine wp_build t parts ho (by rw [hf]; rfl) ?_
    rw [hf]
    exact hK _ _ h
end
end Go.Proofs.YtkphaihbdmjogaaDoor
