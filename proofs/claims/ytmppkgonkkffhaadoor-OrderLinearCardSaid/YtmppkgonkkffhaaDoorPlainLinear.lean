import Derived.Test.YtmppkgonkkffhaaDoorJoinV
import Derived.Test.YtmppkgonkkffhaaDoorJoinS
namespace Go.Proofs.YtmppkgonkkffhaaDoor
abbrev runL (l : List Nt) : Sess × (Int → Pn) := runN l (fun _ => none) (fun _ => Pn.zero)
theorem list_split {l : List Nt} {k : Nat} {n : Nt} (hk : l[k]? = some n) : k < l.length ∧ l = l.take k ++ n :: l.drop (k + 1) := by
  have hlt : k < l.length := by
    rcases Nat.lt_or_ge k l.length with h | h
    · exact h
    · rw [List.getElem?_eq_none h] at hk; cases hk
  refine ⟨hlt, ?_⟩; rw [List.getElem?_eq_getElem hlt] at hk; injection hk with hk
  rw [← hk, List.getElem_cons_drop, List.take_append_drop]
theorem note_at {l : List Nt} (h : checkL l = (-1, 0)) {k : Nat} {n : Nt} (hk : l[k]? = some n) : ¬ (n.kind < 1 ∨ 8 < n.kind) ∧ (kindN (runL (l.take k)).1 ((runL (l.take k)).2 n.op) n).1 = 0 := by
  obtain ⟨_, e⟩ := list_split hk; unfold checkL at h; rw [e] at h; obtain ⟨h1, h2, _⟩ := checkN_cons_ok (checkN_right h); exact ⟨h1, h2⟩
theorem run_succ {l : List Nt} {k : Nat} {n : Nt} (hk : l[k]? = some n) : runL (l.take (k + 1)) = ((kindN (runL (l.take k)).1 ((runL (l.take k)).2 n.op) n).2.2, updP (runL (l.take k)).2 n.op (kindN (runL (l.take k)).1 ((runL (l.take k)).2 n.op) n).2.1) := by
  have e : l.take (k + 1) = l.take k ++ [n] := by rw [List.take_add_one, hk]; rfl
  show runN (l.take (k + 1)) _ _ = _; rw [e, runN_append]; rfl
structure GrowD (y z : Pn) : Prop where
  does : y.does.isSome = true → z.does.isSome = true
theorem kind_growD (σ : Sess) (y : Pn) (n : Nt) : GrowD y (kindN σ y n).2.1 := by
  unfold kindN; constructor
  intro h; repeat' split
  all_goals first | exact h | rfl
theorem run_growD : ∀ (l : List Nt) (σ : Sess) (π : Int → Pn) (o : Int), GrowD (π o) ((runN l σ π).2 o)
  | [], σ, π, o => ⟨id⟩
  | n :: r, σ, π, o => by
    have h := run_growD r (kindN σ (π n.op) n).2.2 (updP π n.op (kindN σ (π n.op) n).2.1) o; have h1 : GrowD (π o) (updP π n.op (kindN σ (π n.op) n).2.1 o) := by
      unfold updP; split
      · rename_i e; rw [e]; exact kind_growD σ (π n.op) n
      · exact ⟨id⟩
    exact ⟨fun a => h.does (h1.does a)⟩
theorem kind_does {σ : Sess} {y : Pn} {n : Nt} (h : n.kind = 2) : (kindN σ y n).2.1.does = some n := by
  unfold kindN; rw [if_neg (by omega), if_pos h]; split <;> rfl
theorem take_later {l : List Nt} {k m : Nat} (hkm : k ≤ m) : l.take m = l.take k ++ (l.take m).drop k := by
  have h := List.take_append_drop k (l.take m); rw [List.take_take, Nat.min_eq_left hkm] at h; exact h.symm
theorem does_later {l : List Nt} {k m : Nat} {n : Nt} (hk : l[k]? = some n) (hn : n.kind = 2) (hm : k < m) : ((runL (l.take m)).2 n.op).does.isSome = true := by
  rw [take_later (show k + 1 ≤ m from hm)]; show ((runN _ _ _).2 n.op).does.isSome = true; rw [runN_append]; refine (run_growD _ _ _ n.op).does ?_; show ((runL (l.take (k + 1))).2 n.op).does.isSome = true; rw [run_succ hk]; show (updP _ _ _ n.op).does.isSome = true; rw [updP_at, kind_does hn]; rfl
theorem tells_later {l : List Nt} {k m : Nat} {n : Nt} (hk : l[k]? = some n) (hn : n.kind = 3) (hm : k < m) : ((runL (l.take m)).2 n.op).tells.isSome = true := by
  rw [take_later (show k + 1 ≤ m from hm)]; show ((runN _ _ _).2 n.op).tells.isSome = true; rw [runN_append]; refine (run_grow _ _ _ n.op).tells ?_; show ((runL (l.take (k + 1))).2 n.op).tells.isSome = true; rw [run_succ hk]; show (updP _ _ _ n.op).tells.isSome = true; rw [updP_at]; exact kind_tells hn
theorem kind_asks_of {σ : Sess} {y : Pn} {n s : Nt} (h : (kindN σ y n).2.1.asks = some s) : y.asks = some s ∨ n.kind = 1 := by
  by_cases h1 : n.kind = 1
  · exact Or.inr h1
  · refine Or.inl ?_
    unfold kindN at h; rw [if_neg h1] at h; revert h
    repeat' split
    all_goals exact id
theorem run_asks_of : ∀ (l : List Nt) (σ : Sess) (π : Int → Pn) (o : Int) (s : Nt), ((runN l σ π).2 o).asks = some s → (π o).asks = some s ∨ ∃ n ∈ l, isN 1 o n = true
  | [], _, _, _, _, h => Or.inl h
  | n :: r, σ, π, o, s, h => by
    rcases run_asks_of r _ _ o s h with h1 | ⟨m, hm, h1⟩
    · unfold updP at h1
      split at h1
      · rename_i e
        rcases kind_asks_of h1 with h2 | h2
        · exact Or.inl (by rw [e]; exact h2)
        · exact Or.inr ⟨n, List.mem_cons_self .., by unfold isN; rw [decide_eq_true h2, decide_eq_true e.symm]; rfl⟩
      · exact Or.inl h1
    · exact Or.inr ⟨m, List.mem_cons_of_mem _ hm, h1⟩
theorem does_zero {σ : Sess} {y : Pn} {n : Nt} (hn : n.kind = 2) (h : (kindN σ y n).1 = 0) : doneN y = false ∧ (∃ s, y.asks = some s) ∧ (kindN σ y n).2.2 = (applyS σ n).2 ∧ appliedN (applyS σ n).1 n = 0 := by
  unfold kindN at h ⊢; rw [if_neg (by omega), if_pos hn] at h ⊢; split at h
  · rename_i h0
    rw [if_pos h0]; refine ⟨?_, ?_, rfl, h⟩
    · unfold doesN at h0
      split at h0
      · cases h0
      · cases hd : doneN y
        · rfl
        · rw [hd, if_pos rfl] at h0; cases h0
    · unfold doesN at h0
      split at h0
      · cases h0
      · rename_i s hs
        exact ⟨s, hs⟩
  · rename_i h0
    exact absurd h h0
theorem done_parts {y : Pn} (h : doneN y = false) : y.does.isSome = false ∧ y.routes.isSome = false ∧ y.tells.isSome = false := by
  unfold doneN at h; simp only [Bool.or_eq_false_iff] at h; exact ⟨h.1.1, h.1.2, h.2⟩
theorem idx_le {kd : Nat} {op : Int} {l : List Nt} {k : Nat} {n : Nt} (hk : l[k]? = some n) (hn : isN kd op n = true) : idxN kd op l ≤ (k : Int) := by
  unfold idxN; cases h : l.findIdx? (isN kd op) with
  | none => simp only; omega
  | some j =>
    simp only
    obtain ⟨hlt, h1, h2⟩ := List.findIdx?_eq_some_iff_getElem.1 h; rcases Nat.lt_or_ge k j with h3 | h3
    · exfalso
      have h4 := h2 k h3; have h5 : l[k]'(Nat.lt_trans h3 hlt) = n := by
        rw [List.getElem?_eq_getElem (Nat.lt_trans h3 hlt)] at hk; injection hk
      rw [h5] at h4; exact h4 hn
    · omega
theorem idx_at {kd : Nat} {op : Int} {l : List Nt} (h : 0 ≤ idxN kd op l) : ∃ (k : Nat) (n : Nt), l[k]? = some n ∧ isN kd op n = true ∧ idxN kd op l = (k : Int) := by
  unfold idxN at h ⊢; cases h1 : l.findIdx? (isN kd op) with
  | none => rw [h1] at h; simp only at h; omega
  | some j =>
    obtain ⟨hlt, h2, _⟩ := List.findIdx?_eq_some_iff_getElem.1 h1; exact ⟨j, _, List.getElem?_eq_getElem hlt, h2, rfl⟩
theorem isN_parts {kd : Nat} {op : Int} {n : Nt} (h : isN kd op n = true) : n.kind = kd ∧ n.op = op := by
  unfold isN at h; simpa using h
theorem row_linear {l : List Nt} (h : checkL l = (-1, 0)) : (opsL l).Pairwise (fun a b => a ≠ b ∧ aheadL l b a = false) := by
  unfold opsL; rw [List.pairwise_map, List.pairwise_filter, List.pairwise_iff_getElem]; intro i j hi hj hij hx hy; have hx := of_decide_eq_true hx; have hy := of_decide_eq_true hy; have hi' := List.getElem?_eq_getElem hi; have hj' := List.getElem?_eq_getElem hj; generalize l[i] = x at *; generalize l[j] = y at *; obtain ⟨_, hj2⟩ := note_at h hj'; obtain ⟨hd, _, _, _⟩ := does_zero hy hj2; obtain ⟨d1, _, d3⟩ := done_parts hd; refine ⟨fun e => ?_, ?_⟩
  · have := does_later hi' hx hij
    rw [e, d1] at this; cases this
  · cases hA : aheadL l y.op x.op
    · rfl
    · exfalso
      unfold aheadL at hA; simp only [Bool.and_eq_true, decide_eq_true_eq] at hA; obtain ⟨a1, a2⟩ := hA; obtain ⟨t, nt, ht, hnt, e1⟩ := idx_at a1; obtain ⟨k1, k2⟩ := isN_parts hnt; obtain ⟨_, hi2⟩ := note_at h hi'; obtain ⟨_, ⟨s, hs⟩, _, _⟩ := does_zero hx hi2; rcases run_asks_of _ _ _ _ _ hs with h0 | ⟨m, hm, hmi⟩
      · cases h0
      · obtain ⟨q, hq, e2⟩ := List.getElem_of_mem hm
        have hq2 : q < i := by rw [List.length_take] at hq; omega
        have hlq : l[q]? = some m := by
          rw [← e2, List.getElem_take, List.getElem?_eq_getElem]
        have hle := idx_le hlq hmi; have htj : t < j := by omega
        have h9 := tells_later ht k1 htj; rw [k2, d3] at h9; cases h9
theorem applied_at {l : List Nt} (h : checkL l = (-1, 0)) {k : Nat} {n : Nt} (hk : l[k]? = some n) (hn : n.kind = 2 ∨ n.kind = 5) :
    (applyS (runL (l.take k)).1 n).1.2.2 = true ∧ (n.kind = 2 → (applyS (runL (l.take k)).1 n).1.1 = n.codes ∧ (applyS (runL (l.take k)).1 n).1.2.1 = n.present) ∧ (runL (l.take (k + 1))).1 = (applyS (runL (l.take k)).1 n).2 := by
  obtain ⟨_, h2⟩ := note_at h hk; rw [run_succ hk]; generalize runL (l.take k) = s at h2 ⊢; have h3 : (kindN s.1 (s.2 n.op) n).2.2 = (applyS s.1 n).2 ∧ appliedN (applyS s.1 n).1 n = 0 := by
    rcases hn with hn | hn
    · exact (does_zero hn h2).2.2
    · unfold kindN at h2 ⊢
      rw [if_neg (by omega), if_neg (by omega), if_neg (by omega), if_neg (by omega), if_pos hn] at h2 ⊢; split at h2
      · rename_i h0
        rw [if_pos h0]; exact ⟨rfl, h2⟩
      · rename_i h0
        exact absurd h2 h0
  refine ⟨?_, fun h4 => ?_, h3.1⟩
  · have h5 := h3.2
    unfold appliedN at h5; cases hb : (applyS s.1 n).1.2.2
    · rw [hb, if_pos rfl] at h5; cases h5
    · rfl
  · have h5 := h3.2
    unfold appliedN at h5; split at h5
    · cases h5
    · try rw [if_pos h4] at h5
      split at h5
      · rename_i h6
        split at h5
        · rename_i h7
          exact ⟨h6, h7⟩
        · cases h5
      · cases h5
theorem still_at {l : List Nt} {k : Nat} {n : Nt} (hk : l[k]? = some n) (h2 : n.kind ≠ 2) (h5 : n.kind ≠ 5) : (runL (l.take (k + 1))).1 = (runL (l.take k)).1 := by
  rw [run_succ hk]; unfold kindN; rw [if_neg h2, if_neg h5]; repeat' split
  all_goals rfl
theorem does_keep {o : Int} {d : Nt} : ∀ (r : List Nt) (σ : Sess) (π : Int → Pn) (i : Nat), checkN r σ π i = (-1, 0) → (π o).does = some d → ((runN r σ π).2 o).does = some d
  | [], _, _, _, _, h => h
  | n :: r, σ, π, i, hc, h => by
    obtain ⟨h0, h1, h2⟩ := checkN_cons_ok hc; refine does_keep r _ _ _ h2 ?_; unfold updP; split
    · rename_i e
      by_cases hk : n.kind = 2
      · exfalso
        have hd := (done_parts (does_zero hk h1).1).1; rw [← e, h] at hd; cases hd
      · rw [e] at h
        unfold kindN; rw [if_neg hk]; repeat' split
        all_goals exact h
    · exact h
theorem told_at {l : List Nt} (h : checkL l = (-1, 0)) {i k : Nat} {n m : Nt} (hi : l[i]? = some n) (hk : l[k]? = some m) (hn : n.kind = 2) (hm : m.kind = 3) (ho : m.op = n.op) (hik : i < k) : m.codes = n.codes ∧ m.present = n.present := by
  obtain ⟨_, h2⟩ := note_at h hk; have hd : ((runL (l.take k)).2 n.op).does = some n := by
    rw [take_later (show i + 1 ≤ k from hik)]; show ((runN _ _ _).2 n.op).does = some n; rw [runN_append]; have hc : checkN (l.take (i + 1) ++ (l.take k).drop (i + 1)) (fun _ => none) (fun _ => Pn.zero) 0 = (-1, 0) := by
      rw [← take_later (show i + 1 ≤ k from hik)]; have h9 : checkN (l.take k ++ l.drop k) (fun _ => none) (fun _ => Pn.zero) 0 = (-1, 0) := by rw [List.take_append_drop]; exact h
      exact checkN_left _ _ _ _ _ h9
    refine does_keep _ _ _ _ (checkN_right hc) ?_; show ((runL (l.take (i + 1))).2 n.op).does = some n; rw [run_succ hi]; show (updP _ _ _ n.op).does = some n; rw [updP_at, kind_does hn]
  unfold kindN at h2; rw [if_neg (by omega), if_neg (by omega), if_pos hm] at h2; have h3 : tellsN ((runL (l.take k)).2 m.op) m = 0 := h2; rw [ho] at h3; unfold tellsN at h3; split at h3
  · cases h3
  · split at h3
    · cases h3
    · rw [hd] at h3
      have h4 := (reason_zero h3).2; unfold sameT at h4; simp only [Bool.and_eq_true, decide_eq_true_eq] at h4; exact h4.2
end Go.Proofs.YtmppkgonkkffhaaDoor
