/- Walks over a frame that is not written out: of a frame only those slots are known that are read later. No condition; nothing of the program is named. -/
import Derived.Test.YtkphaihbdmjogaaDoorChain
import Derived.Deep.MidRow
namespace Go.Proofs.YtkphaihbdmjogaaDoor
open Go.RowKit
/-- What is known of a frame: its size, and the values of some slots. -/
structure FrL (n : Nat) (L : List (Nat × Value)) (a : Act) : Prop where
  size : a.tmps.size = n
  defers : a.defers = []
  at' : ∀ i v, L.lookup i = some v → a.tmps[i]? = some v
section
variable {P : Program} {ops : Array Oper} {rest : List Oper} {a : Act} {w : World} {Q : Exit → Act → World → Prop} {n : Nat} {L : List (Nat × Value)} {o : Oper}
theorem FrL.ev (F : FrL n L a) (i : Nat) {v : Value} (h : L.lookup i = some v) : a.eval (.tmp i) = v := eval_at (F.at' i v h)
theorem FrL.put (F : FrL n L a) (s : Nat) (v : Value) (hs : s < n) : FrL n ((s, v) :: L) (a.put (some s) v) := by
  refine ⟨by rw [put_size]; exact F.size, F.defers, fun i u h => ?_⟩
  rw [put_at]
  rw [List.lookup_cons] at h
  by_cases e : i = s
  · subst e
    rw [beq_self_eq_true] at h
    rw [if_pos rfl, if_pos (by have := F.size; omega)]
    exact h
  · rw [beq_eq_false_iff_ne.2 e] at h
    rw [if_neg e]
    exact F.at' i u h
theorem lookup_filter (f : Nat → Bool) : ∀ (L : List (Nat × Value)) (i : Nat) (v : Value), (L.filter fun x => f x.1).lookup i = some v → L.lookup i = some v
  | [], i, v, h => by simp at h
  | (j, u) :: r, i, v, h => by
    rw [List.lookup_cons]
    by_cases e : i = j
    · subst e
      rw [beq_self_eq_true]
      rw [List.filter_cons] at h
      split at h
      · rw [List.lookup_cons, beq_self_eq_true] at h; exact h
      · exfalso
        rename_i hf
        have : ∀ (M : List (Nat × Value)), (M.filter fun x => f x.1).lookup i = none := by
          intro M
          induction M with
          | nil => rfl
          | cons y s ih =>
            rw [List.filter_cons]
            split
            · rename_i hy
              rw [List.lookup_cons]
              have hne : (i == y.1) = false := by
                rw [beq_eq_false_iff_ne]
                rintro rfl
                exact hf hy
              rw [hne]; exact ih
            · exact ih
        rw [this] at h
        cases h
    · rw [beq_eq_false_iff_ne.2 e]
      rw [List.filter_cons] at h
      split at h
      · rw [List.lookup_cons, beq_eq_false_iff_ne.2 e] at h
        exact lookup_filter f r i v h
      · exact lookup_filter f r i v h
theorem FrL.keep (F : FrL n L a) (ks : List Nat) : FrL n (L.filter fun x => ks.contains x.1) a := ⟨F.size, F.defers, fun i v h => F.at' i v (lookup_filter (fun j => ks.contains j) L i v h)⟩
theorem wanted_free (hg : o.guard = none) : Region.wanted o (yielded ops a.tmps) = true := free_want hg
theorem wanted_at (F : FrL n L a) {g t : Nat} {b want : Bool} (hg : o.guard = some (g, want)) (hy : (ops[g]?).bind (·.dst) = some t) (hb : L.lookup t = some (.bool b)) : Region.wanted o (yielded ops a.tmps) = (b == want) := by
  unfold Region.wanted yielded
  rw [hg]
  simp only [hy, Option.bind_some, F.at' t _ hb]
  cases b <;> cases want <;> rfl
/-- An operation that gives a value and leaves the world. -/
theorem fr_do (F : FrL n L a) (hw : Region.wanted o (yielded ops a.tmps) = true) (s : Nat) (hd : o.dst = some s) (hs : s < n) (v : Value) (he : ∀ a', FrL n L a' → (execOp a'.eval o).run P w = .ok (.value v) w)
    (k : ∀ a', FrL n ((s, v) :: L) a' → wpList P ops Q rest a' w) : wpList P ops Q (o :: rest) a w := by
  refine wl_do hw (he a F) ?_
  rw [hd]
  exact k _ (F.put s v hs)
/-- An operation whose guard does not want it. -/
theorem fr_left (F : FrL n L a) (hw : Region.wanted o (yielded ops a.tmps) = false) (s : Nat) (hd : o.dst = some s) (hs : s < n) (k : ∀ a', FrL n ((s, undef) :: L) a' → wpList P ops Q rest a' w) : wpList P ops Q (o :: rest) a w := by
  refine wpList_left hw ?_
  rw [hd]
  exact k _ (F.put s undef hs)
/-- A call. -/
theorem fr_call (F : FrL n L a) (hw : Region.wanted o (yielded ops a.tmps) = true) (s : Nat) (hd : o.dst = some s) (hs : s < n) (f : FuncId) (args : Array Value) (he : ∀ a', FrL n L a' → (execOp a'.eval o).run P w = .ok (.enter f args) w)
    {R : Ending → World → Prop} (hc : Calls P f args w R) (k : ∀ e w', R e w' → ∃ v, e = .returned v ∧ ∀ a', FrL n ((s, v) :: L) a' → wpList P ops Q rest a' w') : wpList P ops Q (o :: rest) a w :=
  wpList_step fun K hK => by
    rw [if_pos hw]
    unfold Oper.wp
    rw [he a F]
    refine Calls.mono hc ?_
    intro e w' r
    obtain ⟨v, rfl, kv⟩ := k e w' r
    rw [hd]
    exact hK _ _ (kv _ (F.put s v hs))
/-- A call that leaves the world and gives one value. -/
theorem fr_ask (F : FrL n L a) (hw : Region.wanted o (yielded ops a.tmps) = true) (s : Nat) (hd : o.dst = some s) (hs : s < n) (f : FuncId) (args : Array Value) (he : ∀ a', FrL n L a' → (execOp a'.eval o).run P w = .ok (.enter f args) w)
    {v : Value} (hc : Calls P f args w fun e w' => e = .returned v ∧ w = w') (k : ∀ a', FrL n ((s, v) :: L) a' → wpList P ops Q rest a' w) : wpList P ops Q (o :: rest) a w :=
  fr_call F hw s hd hs f args he hc (by rintro e w' ⟨rfl, rfl⟩; exact ⟨_, rfl, k⟩)
def setMany (old : Array Value) : Nat → List Value → Array Value
  | _, [] => old
  | j, v :: r => setMany (old.setIfInBounds j v) (j + 1) r
theorem setMany_size (vs : List Value) : ∀ (old : Array Value) (j : Nat), (setMany old j vs).size = old.size := by
  induction vs with
  | nil => intro old j; rfl
  | cons v r ih => intro old j; show (setMany (old.setIfInBounds j v) (j + 1) r).size = _; rw [ih]; simp
theorem keep_setCells {w0 : World} {R : List Row} {i X : Nat} {T : TypeId} : ∀ (vs : List Value) (j : Nat) (old : Array Value) (B : List Box) (w : World), Keep w0 B R w → B[i]? = some (X, old, T) → Keep w0 (B.set i (X, setMany old j vs, T)) R (w.setCells X j vs)
  | [], j, old, B, w, h, hi => by
    have e : B.set i (X, old, T) = B := by
      obtain ⟨hlt, h3⟩ := List.getElem?_eq_some_iff.1 hi
      rw [← h3, List.set_getElem_self]
    show Keep w0 (B.set i (X, old, T)) R w
    rw [e]; exact h
  | v :: r, j, old, B, w, h, hi => by
    have h2 := h.set hi j v rfl
    have hi2 : (B.set i (X, old.setIfInBounds j v, T))[i]? = some (X, old.setIfInBounds j v, T) := by
      rw [List.getElem?_set_self]
      · exact (List.getElem?_eq_some_iff.1 hi).1
    have h3 := keep_setCells r (j + 1) _ _ _ h2 hi2
    rw [List.set_set] at h3
    exact h3
theorem run_put {P : Program} (w : World) (b o : Nat) (ty : TypeId) (v : Value) (ht : w.there b o v.cells.size) (hi : (P.info? ty).map (·.size) = some v.cells.size) (h1 : v.cells.all (·.oneCell') = true) :
    (storeVar ty ⟨b, o, none⟩ v).run P w = .ok () (w.setCells b o v.cells.toList) := by
  have := run_storeCells_cells (P := P) b o v.cells.toList 0 w (fun j hj => by simpa using (ht j (by simpa using hj)).1) (fun j hj => by simpa using (ht j (by simpa using hj)).2)
    (fun v hv => (Array.all_eq_true_iff_forall_mem.1 h1) v (by simpa using hv))
  cases hq : P.info? ty with
  | none => simp [hq] at hi
  | some i =>
    have hs : v.cells.size = i.size := by simp [hq] at hi; omega
    simp only [Nat.add_zero] at this
    simp [storeVar, sizeOf, typeInfo, hq, hs, this]
theorem box_there {w : World} {X : Nat} {cs : Array Value} {T : TypeId} (h : BoxAt w X cs T) (j m : Nat) (hm : j + m ≤ cs.size) : w.there X j m := fun i hi => by
  refine ⟨?_, h.frozen _⟩
  rw [h.cells, Array.getElem?_eq_getElem (by omega)]; rfl
/-- A value stored into the cells of a box. -/
theorem fr_put (F : FrL n L a) {w0 : World} {B : List Box} {R : List Row} (HK : Keep w0 B R w) (i : Nat) {X : Nat} {old : Array Value} {T : TypeId} (hi : B[i]? = some (X, old, T)) (hg : o.guard = none) (hd : o.dst = none) (ty : TypeId) (x y : Operand) (ho : o.op = .store ty x y) (j : Nat) (v : Value)
    (hx : ∀ a', FrL n L a' → a'.eval x = .pointer (some ⟨X, j, none⟩)) (hy : ∀ a', FrL n L a' → a'.eval y = v) (hz : (P.info? ty).map (·.size) = some v.cells.size) (hfit : j + v.cells.size ≤ old.size) (h1 : v.cells.all (·.oneCell') = true)
    (k : ∀ a' w', FrL n L a' → Keep w0 (B.set i (X, setMany old j v.cells.toList, T)) R w' → wpList P ops Q rest a' w') : wpList P ops Q (o :: rest) a w :=
  wpList_plain hg fun K hK => by
    have hb := HK.at i hi
    unfold Oper.wp execOp
    simp only [ho, hx a F, hy a F, Instr.storeAt, Instr.sureAddr, Sem.run_bind, Sem.run_pure, Result.andThen_ok, run_put w X j ty v (box_there hb j _ hfit) hz h1]
    show K (a.put o.dst undef) _
    rw [hd]
    exact hK _ _ (k _ _ F (keep_setCells _ _ _ _ _ HK hi))
/-- A whole value loaded out of a box. -/
theorem run_load_box {P : Program} {w : World} {o : Oper} {ρ : Operand → Value} {ty : TypeId} {x : Operand} {X : Nat} {cs : Array Value} {T : TypeId} {d : TypeDesc} (ho : o.op = .load ty x) (hx : ρ x = .pointer (some ⟨X, 0, none⟩)) (hb : BoxAt w X cs T)
    (hu : P.underlying ty = some d) (hd : (match d with | .struct _ | .array _ _ => true | _ => false) = true) (hi : (P.info? ty).map (·.size) = some cs.size) : (execOp ρ o).run P w = .ok (.value (.agg cs)) w := by
  unfold execOp
  simp only [ho, hx, Instr.loadAt, Instr.sureAddr, Sem.run_bind, Sem.run_pure, Result.andThen_ok, run_loadVar_row w X T ty cs (0, 0) d hb hu hd hi]
/-- A whole value stored into a box. -/
theorem fr_store (F : FrL n L a) {w0 : World} {B : List Box} {R : List Row} (HK : Keep w0 B R w) (i : Nat) {X : Nat} {old : Array Value} {T : TypeId} (hi : B[i]? = some (X, old, T)) (hg : o.guard = none) (hd : o.dst = none) (ty : TypeId) (x y : Operand) (ho : o.op = .store ty x y) (cs : Array Value)
    (hx : ∀ a', FrL n L a' → a'.eval x = .pointer (some ⟨X, 0, none⟩)) (hy : ∀ a', FrL n L a' → a'.eval y = .agg cs) (hz : (P.info? ty).map (·.size) = some cs.size) (hold : old.size = cs.size) (h1 : cs.all (·.oneCell') = true)
    (k : ∀ a' w', FrL n L a' → Keep w0 (B.set i (X, cs, T)) R w' → wpList P ops Q rest a' w') : wpList P ops Q (o :: rest) a w := by
  refine wpList_store_box hg ty x y ho X cs (hx a F) (hy a F) T old (HK.at i hi) hz hold h1 ?_
  intro w' hbx hon
  rw [hd]
  exact k _ _ F (HK.only hi hon hbx)
theorem FrL.nil (h1 : a.tmps.size = n) (h2 : a.defers = []) : FrL n [] a := ⟨h1, h2, fun i v h => by simp at h⟩
theorem FrL.add (F : FrL n L a) (i : Nat) (v : Value) (h : a.tmps[i]? = some v) : FrL n ((i, v) :: L) a := ⟨F.size, F.defers, fun j u hj => by
  rw [List.lookup_cons] at hj
  by_cases e : j = i
  · subst e
    rw [beq_self_eq_true] at hj
    injection hj with hj
    subst hj; exact h
  · rw [beq_eq_false_iff_ne.2 e] at hj
    exact F.at' j u hj⟩
theorem wp_forget {x : Code} (F : FrL n L a) (h : ∀ a', FrL n L a' → x.wp P Q a' w) : x.wp P Q a w := h a F
theorem wp_meet {x : Code} {K : Act → World → Prop} (I : Act → World → Prop) (h1 : x.wp P (Exit.then I Q) a w) (h2 : ∀ a' w', I a' w' → K a' w') : x.wp P (Exit.then K Q) a w :=
  Code.wp_mono (fun e a w q => by cases e <;> first | exact h2 _ _ q | exact q) h1
/-- A statement, and what follows it: they meet at I. -/
theorem wp_seq_meet {x y : Code} (I : Act → World → Prop) (h1 : x.wp P (Exit.then I Q) a w) (h2 : ∀ a' w', I a' w' → y.wp P Q a' w') : (Code.seq x y).wp P Q a w :=
  wp_seq (Code.wp_mono (fun e a w q => by cases e <;> first | exact h2 _ _ q | exact q) h1)
end
end Go.Proofs.YtkphaihbdmjogaaDoor
