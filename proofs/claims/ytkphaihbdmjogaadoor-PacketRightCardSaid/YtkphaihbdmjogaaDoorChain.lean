/- Chains of comparisons (a.F != b.F || .., each test guarded by those ahead of it) walked field by field over a frame that is not written out. No condition; nothing of the program is named. -/
import Derived.Test.YtkphaihbdmjogaaDoorGuards
namespace Go.Proofs.YtkphaihbdmjogaaDoor
open Go.RowKit
section
variable {P : Program} {ops : Array Oper} {rest : List Oper} {a : Act} {w : World} {Q : Exit → Act → World → Prop}
theorem put_at (a : Act) (s i : Nat) (v : Value) : (a.put (some s) v).tmps[i]? = if i = s then (if s < a.tmps.size then some v else none) else a.tmps[i]? := by
  show (a.tmps.setIfInBounds s v)[i]? = _
  rw [Array.getElem?_setIfInBounds]
  by_cases h : i = s
  · subst h; simp
  · rw [if_neg h, if_neg (fun e => h e.symm)]
theorem put_size (a : Act) (s : Nat) (v : Value) : (a.put (some s) v).tmps.size = a.tmps.size := by
  show (a.tmps.setIfInBounds s v).size = _
  simp
theorem put_defers (a : Act) (s : Nat) (v : Value) : (a.put (some s) v).defers = a.defers := rfl
theorem eval_at {i : Nat} {v : Value} (h : a.tmps[i]? = some v) : a.eval (.tmp i) = v := by
  show a.tmps.getD i undef = v
  rw [Array.getD_eq_getD_getElem?, h]; rfl
theorem wl_do {o : Oper} (hw : Region.wanted o (yielded ops a.tmps) = true) {v : Value} (h : (execOp a.eval o).run P w = .ok (.value v) w) (k : wpList P ops Q rest (a.put o.dst v) w) : wpList P ops Q (o :: rest) a w :=
  wpList_step fun K hK => by
    rw [if_pos hw]
    unfold Oper.wp
    rw [h]
    exact hK _ _ k
theorem free_want {o : Oper} (h : o.guard = none) {y : Nat → Option Bool} : Region.wanted o y = true := by unfold Region.wanted; rw [h]
theorem guard_want {o : Oper} {g t : Nat} {b : Bool} (hg : o.guard = some (g, false)) (hy : (ops[g]?).bind (·.dst) = some t) (hb : a.tmps[t]? = some (.bool b)) : Region.wanted o (yielded ops a.tmps) = !b := by
  unfold Region.wanted yielded
  rw [hg]
  simp only [hy, Option.bind_some, hb]
  cases b <;> rfl
/-- What is known of a frame: its size, the two pointers, what the chain has come to. -/
structure Fr (n : Nat) (X Y : Value) (t : Nat) (b : Bool) (a : Act) : Prop where
  size : a.tmps.size = n
  defers : a.defers = []
  two : a.tmps[2]? = some X
  three : a.tmps[3]? = some Y
  run : a.tmps[t]? = some (.bool b)
structure Ops7 (ops : Array Oper) (g t s : Nat) (o1 o2 o3 o4 o5 o6 : Oper) : Prop where
  d1 : o1.dst = some s
  d2 : o2.dst = some (s + 1)
  d3 : o3.dst = some (s + 2)
  d4 : o4.dst = some (s + 3)
  d5 : o5.dst = some (s + 4)
  d6 : o6.dst = some (s + 5)
  g1 : o1.guard = some (g, false)
  g2 : o2.guard = some (g, false)
  g3 : o3.guard = some (g, false)
  g4 : o4.guard = some (g, false)
  g5 : o5.guard = some (g, false)
  g6 : o6.guard = none
  hy : (ops[g]?).bind (·.dst) = some t
  p6 : o6.op = .pick (.tmp t) (.const (.bool true)) (.tmp (s + 4))
theorem run_pick {o : Oper} {ρ : Operand → Value} {x y z : Operand} {b : Bool} (ho : o.op = .pick x y z) (hx : ρ x = .bool b) : (execOp ρ o).run P w = .ok (.value (if b then ρ y else ρ z)) w := by
  unfold execOp
  rw [ho]
  simp [hx]
  cases b <;> rfl
set_option maxHeartbeats 2000000 in
theorem wpList_cmp {n : Nat} {X Y v1 v2 v3 v4 : Value} {b d : Bool} (g t s : Nat) {o1 o2 o3 o4 o5 o6 : Oper} (H : Ops7 ops g t s o1 o2 o3 o4 o5 o6) (hs : s + 5 < n ∧ 3 < s ∧ t < s) (F : Fr n X Y t b a)
    (e1 : ∀ ρ : Operand → Value, ρ (.tmp 2) = X → (execOp ρ o1).run P w = .ok (.value v1) w) (e2 : ∀ ρ : Operand → Value, ρ (.tmp s) = v1 → (execOp ρ o2).run P w = .ok (.value v2) w)
    (e3 : ∀ ρ : Operand → Value, ρ (.tmp 3) = Y → (execOp ρ o3).run P w = .ok (.value v3) w) (e4 : ∀ ρ : Operand → Value, ρ (.tmp (s + 2)) = v3 → (execOp ρ o4).run P w = .ok (.value v4) w)
    (e5 : ∀ ρ : Operand → Value, ρ (.tmp (s + 1)) = v2 → ρ (.tmp (s + 3)) = v4 → (execOp ρ o5).run P w = .ok (.value (.bool d)) w)
    (k : ∀ a', Fr n X Y (s + 5) (b || d) a' → wpList P ops Q rest a' w) : wpList P ops Q (o1 :: o2 :: o3 :: o4 :: o5 :: o6 :: rest) a w := by
  obtain ⟨hs, h3, ht⟩ := hs
  have hne : ∀ i j : Nat, i < j → ¬ i = j := fun i j h => by omega
  cases b with
  | true =>
    have hn : ∀ (o : Oper) (a1 : Act), o.guard = some (g, false) → a1.tmps[t]? = some (.bool true) → Region.wanted o (yielded ops a1.tmps) = false := fun o a1 h hb => guard_want h H.hy hb
    refine wpList_left (hn _ _ H.g1 F.run) ?_
    rw [H.d1]
    refine wpList_left (hn _ _ H.g2 (by simp only [put_at]; rw [if_neg (by omega)]; exact F.run)) ?_
    rw [H.d2]
    refine wpList_left (hn _ _ H.g3 (by simp only [put_at]; rw [if_neg (by omega), if_neg (by omega)]; exact F.run)) ?_
    rw [H.d3]
    refine wpList_left (hn _ _ H.g4 (by simp only [put_at]; rw [if_neg (by omega), if_neg (by omega), if_neg (by omega)]; exact F.run)) ?_
    rw [H.d4]
    refine wpList_left (hn _ _ H.g5 (by simp only [put_at]; rw [if_neg (by omega), if_neg (by omega), if_neg (by omega), if_neg (by omega)]; exact F.run)) ?_
    rw [H.d5]
    generalize h5 : (((((a.put (some s) undef).put (some (s + 1)) undef).put (some (s + 2)) undef).put (some (s + 3)) undef).put (some (s + 4)) undef) = a5
    have hz : a5.tmps.size = n := by rw [← h5]; simp only [put_size]; exact F.size
    have hdf : a5.defers = [] := by rw [← h5]; exact F.defers
    have hlow : ∀ i, i < s → a5.tmps[i]? = a.tmps[i]? := fun i hi => by
      rw [← h5]; simp only [put_at]; rw [if_neg (by omega), if_neg (by omega), if_neg (by omega), if_neg (by omega), if_neg (by omega)]
    clear h5
    refine wl_do (free_want H.g6) (run_pick H.p6 (eval_at ((hlow t ht).trans F.run))) ?_
    rw [H.d6]
    refine k _ ⟨by rw [put_size]; exact hz, hdf, ?_, ?_, ?_⟩
    · rw [put_at, if_neg (by omega), hlow 2 (by omega)]; exact F.two
    · rw [put_at, if_neg (by omega), hlow 3 h3]; exact F.three
    · rw [put_at, if_pos rfl, if_pos (by omega)]; rfl
  | false =>
    have hn : ∀ (o : Oper) (a1 : Act), o.guard = some (g, false) → a1.tmps[t]? = some (.bool false) → Region.wanted o (yielded ops a1.tmps) = true := fun o a1 h hb => guard_want h H.hy hb
    have hsz := F.size
    refine wl_do (hn _ _ H.g1 F.run) (e1 _ (eval_at F.two)) ?_
    rw [H.d1]
    refine wl_do (hn _ _ H.g2 (by simp only [put_at]; rw [if_neg (by omega)]; exact F.run)) (e2 _ (eval_at (by rw [put_at, if_pos rfl, if_pos (by omega)]))) ?_
    rw [H.d2]
    refine wl_do (hn _ _ H.g3 (by simp only [put_at]; rw [if_neg (by omega), if_neg (by omega)]; exact F.run)) (e3 _ (eval_at (by simp only [put_at]; rw [if_neg (by omega), if_neg (by omega)]; exact F.three))) ?_
    rw [H.d3]
    refine wl_do (hn _ _ H.g4 (by simp only [put_at]; rw [if_neg (by omega), if_neg (by omega), if_neg (by omega)]; exact F.run)) (e4 _ (eval_at (by rw [put_at, if_pos rfl, if_pos (by simp only [put_size]; omega)]))) ?_
    rw [H.d4]
    refine wl_do (hn _ _ H.g5 (by simp only [put_at]; rw [if_neg (by omega), if_neg (by omega), if_neg (by omega), if_neg (by omega)]; exact F.run)) (e5 _ (eval_at (by rw [put_at, if_neg (by omega), put_at, if_neg (by omega), put_at, if_pos rfl, if_pos (by rw [put_size]; omega)])) (eval_at (by rw [put_at, if_pos rfl, if_pos (by simp only [put_size]; omega)]))) ?_
    rw [H.d5]
    generalize h5 : (((((a.put (some s) v1).put (some (s + 1)) v2).put (some (s + 2)) v3).put (some (s + 3)) v4).put (some (s + 4)) (.bool d)) = a5
    have hz : a5.tmps.size = n := by rw [← h5]; simp only [put_size]; exact F.size
    have hdf : a5.defers = [] := by rw [← h5]; exact F.defers
    have hlow : ∀ i, i < s → a5.tmps[i]? = a.tmps[i]? := fun i hi => by
      rw [← h5]; simp only [put_at]; rw [if_neg (by omega), if_neg (by omega), if_neg (by omega), if_neg (by omega), if_neg (by omega)]
    have h4 : a5.tmps[s + 4]? = some (.bool d) := by rw [← h5, put_at, if_pos rfl, if_pos (by simp only [put_size]; omega)]
    clear h5
    refine wl_do (free_want H.g6) (run_pick H.p6 (eval_at ((hlow t ht).trans F.run))) ?_
    rw [H.d6]
    refine k _ ⟨by rw [put_size]; exact hz, hdf, ?_, ?_, ?_⟩
    · rw [put_at, if_neg (by omega), hlow 2 (by omega)]; exact F.two
    · rw [put_at, if_neg (by omega), hlow 3 h3]; exact F.three
    · rw [put_at, if_pos rfl, if_pos (by omega)]
      show some (a5.eval (.tmp (s + 4))) = _
      rw [eval_at h4]; rfl
structure Ops6 (s : Nat) (o1 o2 o3 o4 o5 o6 : Oper) : Prop where
  d1 : o1.dst = some s
  d2 : o2.dst = some (s + 1)
  d3 : o3.dst = some (s + 2)
  d4 : o4.dst = some (s + 3)
  d5 : o5.dst = some (s + 4)
  d6 : o6.dst = some (s + 5)
  g1 : o1.guard = none
  g2 : o2.guard = none
  g3 : o3.guard = none
  g4 : o4.guard = none
  g5 : o5.guard = none
  g6 : o6.guard = none
  p6 : o6.op = .move (.tmp (s + 4))
set_option maxHeartbeats 2000000 in
/-- The first test of a chain. -/
theorem wpList_cmp0 {n : Nat} {X Y v1 v2 v3 v4 : Value} {d : Bool} (s : Nat) {o1 o2 o3 o4 o5 o6 : Oper} (H : Ops6 s o1 o2 o3 o4 o5 o6) (hs : s + 5 < n ∧ 3 < s) (hsz : a.tmps.size = n) (hdf : a.defers = []) (h2 : a.tmps[2]? = some X) (h3 : a.tmps[3]? = some Y)
    (e1 : ∀ ρ : Operand → Value, ρ (.tmp 2) = X → (execOp ρ o1).run P w = .ok (.value v1) w) (e2 : ∀ ρ : Operand → Value, ρ (.tmp s) = v1 → (execOp ρ o2).run P w = .ok (.value v2) w)
    (e3 : ∀ ρ : Operand → Value, ρ (.tmp 3) = Y → (execOp ρ o3).run P w = .ok (.value v3) w) (e4 : ∀ ρ : Operand → Value, ρ (.tmp (s + 2)) = v3 → (execOp ρ o4).run P w = .ok (.value v4) w)
    (e5 : ∀ ρ : Operand → Value, ρ (.tmp (s + 1)) = v2 → ρ (.tmp (s + 3)) = v4 → (execOp ρ o5).run P w = .ok (.value (.bool d)) w)
    (k : ∀ a', Fr n X Y (s + 5) d a' → wpList P ops Q rest a' w) : wpList P ops Q (o1 :: o2 :: o3 :: o4 :: o5 :: o6 :: rest) a w := by
  obtain ⟨hs, hs3⟩ := hs
  refine wl_do (free_want H.g1) (e1 _ (eval_at h2)) ?_
  rw [H.d1]
  refine wl_do (free_want H.g2) (e2 _ (eval_at (by rw [put_at, if_pos rfl, if_pos (by omega)]))) ?_
  rw [H.d2]
  refine wl_do (free_want H.g3) (e3 _ (eval_at (by rw [put_at, if_neg (by omega), put_at, if_neg (by omega)]; exact h3))) ?_
  rw [H.d3]
  refine wl_do (free_want H.g4) (e4 _ (eval_at (by rw [put_at, if_pos rfl, if_pos (by simp only [put_size]; omega)]))) ?_
  rw [H.d4]
  refine wl_do (free_want H.g5) (e5 _ (eval_at (by rw [put_at, if_neg (by omega), put_at, if_neg (by omega), put_at, if_pos rfl, if_pos (by rw [put_size]; omega)])) (eval_at (by rw [put_at, if_pos rfl, if_pos (by simp only [put_size]; omega)]))) ?_
  rw [H.d5]
  generalize h5 : (((((a.put (some s) v1).put (some (s + 1)) v2).put (some (s + 2)) v3).put (some (s + 3)) v4).put (some (s + 4)) (.bool d)) = a5
  have hz5 : a5.tmps.size = n := by rw [← h5]; simp only [put_size]; exact hsz
  have hd5 : a5.defers = [] := by rw [← h5]; exact hdf
  have hlow : ∀ i, i < s → a5.tmps[i]? = a.tmps[i]? := fun i hi => by
    rw [← h5]; simp only [put_at]; rw [if_neg (by omega), if_neg (by omega), if_neg (by omega), if_neg (by omega), if_neg (by omega)]
  have h4 : a5.tmps[s + 4]? = some (.bool d) := by rw [← h5, put_at, if_pos rfl, if_pos (by simp only [put_size]; omega)]
  clear h5
  have hm : (execOp a5.eval o6).run P w = .ok (.value (.bool d)) w := by
    unfold execOp
    rw [H.p6]
    simp [eval_at h4]
  refine wl_do (free_want H.g6) hm ?_
  rw [H.d6]
  refine k _ ⟨by rw [put_size]; exact hz5, hd5, ?_, ?_, ?_⟩
  · rw [put_at, if_neg (by omega), hlow 2 (by omega)]; exact h2
  · rw [put_at, if_neg (by omega), hlow 3 hs3]; exact h3
  · rw [put_at, if_pos rfl, if_pos (by omega)]
/-- The chain's value moved on. -/
theorem wpList_mv {n : Nat} {X Y : Value} {b : Bool} (t s : Nat) {o : Oper} (ho : o.op = .move (.tmp t)) (hd : o.dst = some s) (hg : o.guard = none) (hs : s < n ∧ 3 < s) (F : Fr n X Y t b a)
    (k : ∀ a', Fr n X Y s b a' → wpList P ops Q rest a' w) : wpList P ops Q (o :: rest) a w := by
  have h : (execOp a.eval o).run P w = .ok (.value (.bool b)) w := by
    unfold execOp
    rw [ho]
    simp [eval_at F.run]
  refine wl_do (free_want hg) h ?_
  rw [hd]
  refine k _ ⟨by rw [put_size]; exact F.size, F.defers, ?_, ?_, ?_⟩
  · rw [put_at, if_neg (by omega)]; exact F.two
  · rw [put_at, if_neg (by omega)]; exact F.three
  · rw [put_at, if_pos rfl, if_pos (by have := F.size; omega)]
theorem Fr.lit {n : Nat} {X Y : Value} {t : Nat} {b : Bool} (F : Fr n X Y t b a) : ∃ x : Nat → Value, a = ⟨((List.range n).map x).toArray, []⟩ ∧ x 2 = X ∧ x 3 = Y ∧ x t = .bool b := by
  refine ⟨fun i => a.tmps.getD i undef, ?_, eval_at F.two, eval_at F.three, eval_at F.run⟩
  have hz := F.size
  have hd := F.defers
  obtain ⟨tm, df⟩ := a
  simp only at hz hd
  subst hd
  congr 1
  apply Array.ext_getElem?
  intro i
  subst hz
  by_cases h : i < tm.size
  · simp [h]
  · simp [h]
end
end Go.Proofs.YtkphaihbdmjogaaDoor
