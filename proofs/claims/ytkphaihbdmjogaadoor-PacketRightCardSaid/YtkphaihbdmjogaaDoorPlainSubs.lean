/- Plain mathematics of a list of filters in the order of their bytes: where a filter stands, what is set and dropped, the best of a name. No condition; no program. -/
import Derived.Test.YtkphaihbdmjogaaDoorPlainOrder
import Derived.Lib.Bytealg
namespace Go.Proofs.YtkphaihbdmjogaaDoor
open Go.Lib

/-- A filter and its QoS. -/
abbrev Sb := ByteArray × Nat
def fB (x : Sb) : Bs := bl x.1
theorem bl_inj {a b : ByteArray} (h : bl a = bl b) : a = b := by
  unfold bl at h
  cases a with | mk d => cases b with | mk e =>
  congr 1
  exact Array.ext' h

def lessB (x y : Bs) : Bool := Op.bytesLess x y
theorem lessB_cons (a b : UInt8) (x y : Bs) : lessB (a :: x) (b :: y) = (decide (a < b) || (a == b && lessB x y)) := rfl
theorem lessB_irr : ∀ x : Bs, lessB x x = false
  | [] => rfl
  | a :: x => by
    rw [lessB_cons, lessB_irr x, Bool.and_false, Bool.or_false]
    exact decide_eq_false (UInt8.lt_irrefl a)
theorem lessB_trans : ∀ {x y z : Bs}, lessB x y = true → lessB y z = true → lessB x z = true
  | x, y, [], _, h => by cases y <;> simp [lessB, Op.bytesLess] at h
  | [], _, c :: z, _, _ => rfl
  | a :: x, [], c :: z, h, _ => by simp [lessB, Op.bytesLess] at h
  | a :: x, b :: y, c :: z, h1, h2 => by
    rw [lessB_cons, Bool.or_eq_true, Bool.and_eq_true, decide_eq_true_eq, beq_iff_eq] at *
    rcases h1 with h1 | ⟨rfl, h1⟩
    · rcases h2 with h2 | ⟨rfl, h2⟩
      · exact Or.inl (UInt8.lt_trans h1 h2)
      · exact Or.inl h1
    · rcases h2 with h2 | ⟨rfl, h2⟩
      · exact Or.inl h2
      · exact Or.inr ⟨rfl, lessB_trans h1 h2⟩
theorem lessB_tri : ∀ x y : Bs, x = y ∨ lessB x y = true ∨ lessB y x = true
  | [], [] => Or.inl rfl
  | [], _ :: _ => Or.inr (Or.inl rfl)
  | _ :: _, [] => Or.inr (Or.inr rfl)
  | a :: x, b :: y => by
    rw [lessB_cons, lessB_cons]
    by_cases e : a = b
    · subst e
      rcases lessB_tri x y with h | h | h
      · left; rw [h]
      · right; left; simp [h]
      · right; right; simp [h]
    · rcases UInt8.lt_or_lt_of_ne e with h | h
      · right; left; simp [h]
      · right; right; simp [h]
theorem lessB_asym {x y : Bs} (h : lessB x y = true) : lessB y x = false := by
  cases h2 : lessB y x with
  | false => rfl
  | true =>
    have h3 := lessB_trans h h2
    rw [lessB_irr] at h3
    cases h3
theorem cmpB : ∀ x y : Bs, compareBytes x y = if lessB x y then -1 else if x = y then 0 else 1
  | [], [] => rfl
  | [], _ :: _ => rfl
  | _ :: _, [] => by simp [compareBytes, lessB, Op.bytesLess]
  | a :: x, b :: y => by
    have ih := cmpB x y
    unfold compareBytes
    rw [lessB_cons, ih]
    by_cases h1 : a < b
    · simp [h1]
    · by_cases h2 : b < a
      · have hne : a ≠ b := fun e => UInt8.lt_irrefl a (by rw [e] at h2 ⊢; exact h2)
        simp [h1, h2, hne]
      · have e : a = b := by
          by_cases e : a = b
          · exact e
          · rcases UInt8.lt_or_lt_of_ne e with h | h
            · exact absurd h h1
            · exact absurd h h2
        subst e
        simp [h1]

def SortS (S : List Sb) : Prop := S.Pairwise fun x y => lessB (fB x) (fB y) = true
/-- Where a filter stands, or would. -/
def posS : List Sb → Bs → Nat
  | [], _ => 0
  | x :: r, f => if lessB (fB x) f then posS r f + 1 else 0
/-- Does it stand there? -/
def atS : List Sb → Bs → Bool
  | [], _ => false
  | x :: r, f => if lessB (fB x) f then atS r f else fB x == f
theorem posS_cons (x : Sb) (r : List Sb) (f : Bs) : posS (x :: r) f = if lessB (fB x) f then posS r f + 1 else 0 := rfl
theorem atS_cons (x : Sb) (r : List Sb) (f : Bs) : atS (x :: r) f = if lessB (fB x) f then atS r f else fB x == f := rfl
theorem posS_le : ∀ (S : List Sb) (f : Bs), posS S f ≤ S.length
  | [], _ => Nat.le_refl _
  | x :: r, f => by
    unfold posS
    have := posS_le r f
    split
    · simp; omega
    · simp
theorem posS_lt : ∀ (S : List Sb) (f : Bs) (t : Nat) (x : Sb), t < posS S f → S[t]? = some x → lessB (fB x) f = true
  | [], _, t, x, h, _ => by simp [posS] at h
  | y :: r, f, t, x, h, hx => by
    unfold posS at h
    split at h
    · rename_i hl
      cases t with
      | zero => simp at hx; subst hx; exact hl
      | succ t => exact posS_lt r f t x (by omega) (by simpa using hx)
    · omega
theorem posS_ge : ∀ (S : List Sb) (f : Bs), SortS S → ∀ (t : Nat) (x : Sb), posS S f ≤ t → S[t]? = some x → lessB (fB x) f = false
  | [], _, _, t, x, _, hx => by simp at hx
  | y :: r, f, hs, t, x, h, hx => by
    obtain ⟨h1, h2⟩ := List.pairwise_cons.1 hs
    unfold posS at h
    split at h
    · cases t with
      | zero => omega
      | succ t => exact posS_ge r f h2 t x (by omega) (by simpa using hx)
    · rename_i hl
      cases t with
      | zero => simp at hx; subst hx; simpa using hl
      | succ t =>
        have hm := h1 x (List.mem_of_getElem? (by simpa using hx))
        cases hq : lessB (fB x) f with
        | false => rfl
        | true => exact absurd (lessB_trans hm hq) hl
theorem posS_is {S : List Sb} {f : Bs} (hs : SortS S) {i : Nat} (hi : i ≤ S.length) (h1 : ∀ t x, t < i → S[t]? = some x → lessB (fB x) f = true) (h2 : ∀ t x, i ≤ t → S[t]? = some x → lessB (fB x) f = false) : posS S f = i := by
  rcases Nat.lt_trichotomy (posS S f) i with h | h | h
  · obtain ⟨x, hx⟩ : ∃ x, S[posS S f]? = some x := ⟨_, List.getElem?_eq_getElem (by omega)⟩
    have a := h1 _ x h hx
    rw [posS_ge S f hs _ x (Nat.le_refl _) hx] at a
    cases a
  · exact h
  · have := posS_le S f
    obtain ⟨x, hx⟩ : ∃ x, S[i]? = some x := ⟨_, List.getElem?_eq_getElem (by omega)⟩
    have a := h2 _ x (Nat.le_refl _) hx
    rw [posS_lt S f _ x h hx] at a
    cases a
theorem atS_at : ∀ (S : List Sb) (f : Bs), atS S f = match S[posS S f]? with | some x => fB x == f | none => false
  | [], _ => rfl
  | x :: r, f => by
    unfold atS posS
    split
    · rw [atS_at r f]; simp
    · simp
def hasS (S : List Sb) (f : Bs) : Bool := S.any fun x => fB x == f
theorem hasS_at : ∀ (S : List Sb) (f : Bs), SortS S → hasS S f = atS S f
  | [], _, _ => rfl
  | x :: r, f, hs => by
    obtain ⟨h1, h2⟩ := List.pairwise_cons.1 hs
    have ih := hasS_at r f h2
    unfold hasS at ih ⊢
    unfold atS
    rw [List.any_cons, ih]
    split
    · rename_i hl
      have : (fB x == f) = false := by
        rw [beq_eq_false_iff_ne]
        rintro e
        rw [e, lessB_irr] at hl
        cases hl
      rw [this, Bool.false_or]
    · rename_i hl
      cases he : fB x == f with
      | true => rfl
      | false =>
        rw [Bool.false_or, ← ih]
        rw [List.any_eq_false]
        intro y hy
        have hm := h1 y hy
        rw [beq_iff_eq]
        rintro e
        rw [e] at hm
        exact hl hm

def insS (S : List Sb) (f : ByteArray) (q : Nat) : List Sb := S.take (posS S (bl f)) ++ (f, q) :: S.drop (posS S (bl f) + if atS S (bl f) then 1 else 0)
def delS (S : List Sb) (f : Bs) : List Sb := if atS S f then S.take (posS S f) ++ S.drop (posS S f + 1) else S
def okQ (f : Bs) (q : Nat) : Bool := decide (q ≤ 2) && filterL f
def setS (S : List Sb) (f : ByteArray) (q : Nat) : Nat × List Sb :=
  if okQ (bl f) q && (atS S (bl f) || decide (S.length < 16)) then (q, insS S f q) else (128, S)
def bestF (n : Bs) (b : Nat × Bool) (x : Sb) : Nat × Bool := if matchL (fB x) n then (max b.1 x.2, true) else b
def bestS (S : List Sb) (n : Bs) : Nat × Bool := S.foldl (bestF n) (0, false)
def tryS : List Sb → List Sb → List Nat
  | _, [] => []
  | S, x :: r => (setS S x.1 x.2).1 :: tryS (setS S x.1 x.2).2 r

theorem ins_cons_lt (x : Sb) (r : List Sb) (f : ByteArray) (q : Nat) (h : lessB (fB x) (bl f) = true) : insS (x :: r) f q = x :: insS r f q := by
  unfold insS; rw [posS_cons, atS_cons, if_pos h, if_pos h]
  rw [List.take_succ_cons, Nat.add_right_comm, List.drop_succ_cons]; rfl
theorem ins_cons_eq (x : Sb) (r : List Sb) (f : ByteArray) (q : Nat) (h : fB x = bl f) : insS (x :: r) f q = (f, q) :: r := by
  unfold insS; rw [posS_cons, atS_cons, h, lessB_irr]; simp
theorem ins_cons_gt (x : Sb) (r : List Sb) (f : ByteArray) (q : Nat) (h1 : lessB (fB x) (bl f) = false) (h2 : fB x ≠ bl f) : insS (x :: r) f q = (f, q) :: x :: r := by
  unfold insS; rw [posS_cons, atS_cons, h1]; simp [h2]
theorem ins_mem : ∀ (S : List Sb) (f : ByteArray) (q : Nat) (y : Sb), y ∈ insS S f q → y = (f, q) ∨ y ∈ S
  | [], f, q, y, h => by simp [insS, posS] at h; exact Or.inl h
  | x :: r, f, q, y, h => by
    by_cases h1 : lessB (fB x) (bl f) = true
    · rw [ins_cons_lt x r f q h1] at h
      rcases List.mem_cons.1 h with h | h
      · right; rw [h]; simp
      · rcases ins_mem r f q y h with h | h
        · exact Or.inl h
        · right; simp [h]
    · by_cases h2 : fB x = bl f
      · rw [ins_cons_eq x r f q h2] at h
        rcases List.mem_cons.1 h with h | h
        · exact Or.inl h
        · right; simp [h]
      · rw [ins_cons_gt x r f q (by simpa using h1) h2] at h
        rcases List.mem_cons.1 h with h | h
        · exact Or.inl h
        · exact Or.inr h
theorem ins_sort : ∀ (S : List Sb) (f : ByteArray) (q : Nat), SortS S → SortS (insS S f q)
  | [], f, q, _ => by simp [insS, posS, SortS]
  | x :: r, f, q, hs => by
    obtain ⟨h1, h2⟩ := List.pairwise_cons.1 hs
    by_cases hl : lessB (fB x) (bl f) = true
    · rw [ins_cons_lt x r f q hl]
      refine List.pairwise_cons.2 ⟨fun y hy => ?_, ins_sort r f q h2⟩
      rcases ins_mem r f q y hy with rfl | hy
      · exact hl
      · exact h1 y hy
    · by_cases he : fB x = bl f
      · rw [ins_cons_eq x r f q he]
        refine List.pairwise_cons.2 ⟨fun y hy => ?_, h2⟩
        have := h1 y hy
        rw [he] at this
        exact this
      · have hgt : lessB (bl f) (fB x) = true := by
          rcases lessB_tri (fB x) (bl f) with h | h | h
          · exact absurd h he
          · exact absurd h hl
          · exact h
        rw [ins_cons_gt x r f q (by simpa using hl) he]
        refine List.pairwise_cons.2 ⟨fun y hy => ?_, hs⟩
        rcases List.mem_cons.1 hy with rfl | hy
        · exact hgt
        · exact lessB_trans hgt (h1 y hy)
theorem ins_len (S : List Sb) (f : ByteArray) (q : Nat) : (insS S f q).length = if atS S (bl f) then S.length else S.length + 1 := by
  have hp := posS_le S (bl f)
  unfold insS
  rw [List.length_append, List.length_take, List.length_cons, List.length_drop]
  have hat := atS_at S (bl f)
  cases h : atS S (bl f) with
  | false => simp only [Bool.false_eq_true, if_false]; omega
  | true =>
    rw [h] at hat
    have : posS S (bl f) < S.length := by
      rcases Nat.lt_or_ge (posS S (bl f)) S.length with h | h
      · exact h
      · rw [List.getElem?_eq_none h] at hat; cases hat
    simp only [if_true]; omega
theorem del_cons_lt (x : Sb) (r : List Sb) (f : Bs) (h : lessB (fB x) f = true) : delS (x :: r) f = x :: delS r f := by
  unfold delS; rw [posS_cons, atS_cons, if_pos h, if_pos h]
  split
  · rw [List.take_succ_cons, List.drop_succ_cons]; rfl
  · rfl
theorem del_cons_eq (x : Sb) (r : List Sb) (f : Bs) (h : fB x = f) : delS (x :: r) f = r := by
  unfold delS; rw [posS_cons, atS_cons, h, lessB_irr]; simp
theorem del_cons_gt (x : Sb) (r : List Sb) (f : Bs) (h1 : lessB (fB x) f = false) (h2 : fB x ≠ f) : delS (x :: r) f = x :: r := by
  unfold delS; rw [posS_cons, atS_cons, h1]; simp [h2]
/-- The reference's drop: all that are not that one. -/
theorem del_filter : ∀ (S : List Sb) (f : Bs), SortS S → S.filter (fun x => !(fB x == f)) = delS S f
  | [], _, _ => rfl
  | x :: r, f, hs => by
    obtain ⟨h1, h2⟩ := List.pairwise_cons.1 hs
    rw [List.filter_cons]
    by_cases he : fB x = f
    · rw [del_cons_eq x r f he, he]
      simp only [beq_self_eq_true, Bool.not_true, Bool.false_eq_true, if_false]
      rw [List.filter_eq_self]
      intro y hy
      have := h1 y hy
      have hne : fB y ≠ f := by
        rintro e
        rw [he, e, lessB_irr] at this
        cases this
      simp [hne]
    · have e1 : (!(fB x == f)) = true := by simp [he]
      rw [if_pos e1, del_filter r f h2]
      by_cases hl : lessB (fB x) f = true
      · rw [del_cons_lt x r f hl]
      · rw [del_cons_gt x r f (by simpa using hl) he]
        congr 1
        rw [← del_filter r f h2, List.filter_eq_self]
        intro y hy
        have hm := h1 y hy
        have hne : fB y ≠ f := by
          rintro e
          rw [e] at hm
          exact hl hm
        simp [hne]
theorem del_sort (S : List Sb) (f : Bs) (hs : SortS S) : SortS (delS S f) := by
  rw [← del_filter S f hs]
  exact hs.sublist List.filter_sublist
/-- The reference's set: it drops the filter first, and puts it ahead of the first one that is not less. -/
theorem ins_del : ∀ (S : List Sb) (f : ByteArray) (q : Nat), SortS S → (delS S (bl f)).take (posS (delS S (bl f)) (bl f)) ++ (f, q) :: (delS S (bl f)).drop (posS (delS S (bl f)) (bl f)) = insS S f q
  | [], f, q, _ => rfl
  | x :: r, f, q, hs => by
    obtain ⟨h1, h2⟩ := List.pairwise_cons.1 hs
    by_cases hl : lessB (fB x) (bl f) = true
    · rw [del_cons_lt x r _ hl, ins_cons_lt x r f q hl, ← ins_del r f q h2]
      rw [posS, if_pos hl, List.take_succ_cons, List.drop_succ_cons]; rfl
    · by_cases he : fB x = bl f
      · rw [del_cons_eq x r _ he, ins_cons_eq x r f q he]
        have : posS r (bl f) = 0 := by
          cases r with
          | nil => rfl
          | cons y t =>
            have := h1 y (by simp)
            rw [he] at this
            rw [posS, if_neg (by rw [lessB_asym this]; simp)]
        rw [this]; rfl
      · rw [del_cons_gt x r _ (by simpa using hl) he, ins_cons_gt x r f q (by simpa using hl) he, posS, if_neg hl]; rfl
end Go.Proofs.YtkphaihbdmjogaaDoor
