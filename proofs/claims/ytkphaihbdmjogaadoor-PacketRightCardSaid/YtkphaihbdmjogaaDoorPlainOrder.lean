/- Plain mathematics of what covers what: each filter covers itself, what is covered by one covered is covered, a name covers itself alone; levels joined are the text. No condition; no program. -/
import Derived.Test.YtkphaihbdmjogaaDoorPlainTopic
namespace Go.Proofs.YtkphaihbdmjogaaDoor

theorem levels_cases (s : Bs) : ∃ x r, levelsL s = x :: r ∧ headL s = x := by
  cases h : levelsL s with
  | nil => exact absurd h (levelsL_ne s)
  | cons x r => exact ⟨x, r, rfl, by unfold headL; rw [h]; rfl⟩

theorem head_of_headL {s : Bs} {b : UInt8} (h : (headL s).head? = some b) : s.head? = some b := by
  cases s with
  | nil => simp [headL, levelsL] at h
  | cons c t =>
    unfold headL levelsL at h
    split at h
    · simp at h
    · cases hl : levelsL t with
      | nil => exact absurd hl (levelsL_ne t)
      | cons y r => rw [hl] at h; simpa [consHead] using h
theorem headL_of_head {s : Bs} {b : UInt8} (h : s.head? = some b) (hb : b ≠ 47) : (headL s).head? = some b := by
  cases s with
  | nil => simp at h
  | cons c t =>
    simp at h
    subst h
    unfold headL levelsL
    rw [if_neg hb]
    cases hl : levelsL t with
    | nil => exact absurd hl (levelsL_ne t)
    | cons y r => simp [consHead]

theorem joinL_consHead (b : UInt8) (l : List Bs) (h : l ≠ []) : joinL (consHead b l) = b :: joinL l := by
  match l, h with
  | [x], _ => rfl
  | x :: y :: r, _ => rfl
theorem joinL_levels : ∀ s : Bs, joinL (levelsL s) = s
  | [] => rfl
  | b :: t => by
    have ih := joinL_levels t
    unfold levelsL
    split
    · rename_i hb
      subst hb
      cases hl : levelsL t with
      | nil => exact absurd hl (levelsL_ne t)
      | cons y r =>
        rw [hl] at ih
        show [] ++ [47] ++ joinL (y :: r) = 47 :: t
        rw [ih]; rfl
    · rw [joinL_consHead _ _ (levelsL_ne t), ih]
theorem levelsL_inj {a b : Bs} (h : levelsL a = levelsL b) : a = b := by
  rw [← joinL_levels a, h, joinL_levels]

theorem plain_levels : ∀ s : Bs, (levelsL s).all plainL = plainL s
  | [] => rfl
  | b :: t => by
    have ih := plain_levels t
    unfold levelsL
    split
    · rename_i hb
      subst hb
      rw [List.all_cons, ih]
      simp [plainL]
    · cases hl : levelsL t with
      | nil => exact absurd hl (levelsL_ne t)
      | cons y r =>
        rw [hl, List.all_cons] at ih
        show ((b :: y) :: r).all plainL = plainL (b :: t)
        rw [List.all_cons]
        have e1 : plainL (b :: y) = (!(b == 43 || b == 35) && plainL y) := rfl
        have e2 : plainL (b :: t) = (!(b == 43 || b == 35) && plainL t) := rfl
        rw [e1, e2, ← ih, Bool.and_assoc]

theorem filterLv_plain : ∀ T : List Bs, T.all plainL = true → filterLv T = true
  | [], _ => rfl
  | x :: r, h => by
    rw [List.all_cons, Bool.and_eq_true] at h
    unfold filterLv levelL
    rw [h.1, filterLv_plain r h.2]
    simp
theorem filter_of_name {s : Bs} (h : nameL s = true) : filterL s = true := by
  unfold nameL at h
  rw [Bool.and_eq_true, Bool.and_eq_true] at h
  unfold filterL
  rw [h.1.1, h.1.2, filterLv_plain _ ((plain_levels s).trans h.2)]
  rfl
theorem plain_ne {x : Bs} (h : plainL x = true) : (x == [35]) = false ∧ (x == [43]) = false := by
  constructor
  · rw [beq_eq_false_iff_ne]; rintro rfl; exact absurd h (by decide)
  · rw [beq_eq_false_iff_ne]; rintro rfl; exact absurd h (by decide)
theorem wild_of_name {s : Bs} (h : nameL s = true) : wildL s = false := by
  unfold nameL at h
  rw [Bool.and_eq_true] at h
  have hp := (plain_levels s).trans h.2
  obtain ⟨x, r, h1, h2⟩ := levels_cases s
  rw [h1, List.all_cons, Bool.and_eq_true] at hp
  unfold wildL
  rw [h2, (plain_ne hp.1).1, (plain_ne hp.1).2]; rfl

theorem coversLv_self : ∀ T : List Bs, coversLv T T = true
  | [] => rfl
  | x :: r => by
    unfold coversLv
    split
    · rfl
    · rename_i h
      simp only [beq_self_eq_true, Bool.or_true, Bool.true_and]
      rw [if_neg h]
      exact coversLv_self r
theorem wild_head {s : Bs} (h : wildL s = true) : (s.head? == some 36) = false := by
  unfold wildL at h
  rw [Bool.or_eq_true, beq_iff_eq, beq_iff_eq] at h
  rcases h with h | h
  · rw [head_of_headL (s := s) (b := 43) (by rw [h]; rfl)]; rfl
  · rw [head_of_headL (s := s) (b := 35) (by rw [h]; rfl)]; rfl
theorem covers_self (a : Bs) : coversL a a = filterL a := by
  unfold coversL
  rw [coversLv_self, Bool.and_self, Bool.and_true]
  cases hw : wildL a
  · simp
  · rw [wild_head hw]; simp

theorem coversLv_trans : ∀ A B C : List Bs, coversLv A B = true → coversLv B C = true → coversLv A C = true
  | [], B, C, h1, h2 => by
    have hB : B = [] := by
      unfold coversLv at h1
      simpa using h1
    subst hB
    exact h2
  | x :: a, B, C, h1, h2 => by
    unfold coversLv at h1 ⊢
    by_cases hx : (x == [35]) = true
    · rw [if_pos hx]
    · rw [if_neg hx] at h1 ⊢
      cases B with
      | nil => simp at h1
      | cons y b =>
        simp only at h1
        by_cases hy : (y == [35]) = true
        · rw [if_pos hy] at h1; simp at h1
        · rw [if_neg hy, Bool.and_eq_true] at h1
          unfold coversLv at h2
          rw [if_neg hy] at h2
          cases C with
          | nil => simp at h2
          | cons z c =>
            simp only at h2 ⊢
            by_cases hz : (z == [35]) = true
            · rw [if_pos hz] at h2; simp at h2
            · rw [if_neg hz, Bool.and_eq_true] at h2
              rw [if_neg hz, coversLv_trans a b c h1.2 h2.2, Bool.and_true]
              have h3 := h1.1
              have h4 := h2.1
              rw [Bool.or_eq_true, beq_iff_eq, beq_iff_eq] at h3 h4 ⊢
              rcases h3 with h3 | h3
              · exact .inl h3
              · rw [h3]; exact h4

theorem covers_trans {a b c : Bs} (h1 : coversL a b = true) (h2 : coversL b c = true) : coversL a c = true := by
  unfold coversL at *
  simp only [Bool.and_eq_true, Bool.not_eq_true', Bool.and_eq_false_iff] at *
  obtain ⟨⟨⟨fa, fb⟩, w1⟩, l1⟩ := h1
  obtain ⟨⟨⟨_, fc⟩, w2⟩, l2⟩ := h2
  refine ⟨⟨⟨fa, fc⟩, ?_⟩, coversLv_trans _ _ _ l1 l2⟩
  rcases w1 with w1 | w1
  · exact .inl w1
  · rcases w2 with w2 | w2
    · right
      rw [beq_eq_false_iff_ne]
      intro hc
      have hc' := headL_of_head hc (by decide)
      obtain ⟨y, b', e1, e2⟩ := levels_cases b
      obtain ⟨z, c', e3, e4⟩ := levels_cases c
      unfold wildL at w2
      rw [e2, Bool.or_eq_false_iff] at w2
      rw [e1, e3] at l2
      unfold coversLv at l2
      rw [w2.2] at l2
      simp only [Bool.false_eq_true, if_false] at l2
      by_cases hz : (z == [35]) = true
      · rw [if_pos hz] at l2; simp at l2
      · rw [if_neg hz, w2.1, Bool.false_or, Bool.and_eq_true, beq_iff_eq] at l2
        rw [e4, ← l2.1, ← e2] at hc'
        rw [head_of_headL hc'] at w1
        exact absurd w1 (by decide)
    · exact .inr w2

theorem coversLv_plain : ∀ A B : List Bs, A.all plainL = true → coversLv A B = (A == B)
  | [], B, _ => by
    unfold coversLv
    cases B <;> rfl
  | x :: a, B, h => by
    rw [List.all_cons, Bool.and_eq_true] at h
    obtain ⟨n1, n2⟩ := plain_ne h.1
    unfold coversLv
    rw [n1]
    simp only [Bool.false_eq_true, if_false]
    cases B with
    | nil => rfl
    | cons y b =>
      simp only
      rw [n2, Bool.false_or, coversLv_plain a b h.2]
      by_cases hy : (y == [35]) = true
      · rw [if_pos hy]
        have : y = [35] := by simpa using hy
        subst this
        show false = ((x == [35]) && a == b)
        rw [n1]; rfl
      · rw [if_neg hy]; rfl
theorem covers_name {a : Bs} (b : Bs) (h : nameL a = true) : coversL a b = (a == b) := by
  have hf := filter_of_name h
  have hp : (levelsL a).all plainL = true := by
    unfold nameL at h
    rw [Bool.and_eq_true] at h
    exact (plain_levels a).trans h.2
  have e : (levelsL a == levelsL b) = (a == b) := by
    rw [Bool.eq_iff_iff, beq_iff_eq, beq_iff_eq]
    exact ⟨levelsL_inj, fun h => by rw [h]⟩
  unfold coversL
  rw [hf, wild_of_name h, coversLv_plain _ _ hp, e]
  cases hab : a == b
  · simp
  · have : a = b := by simpa using hab
    subst this
    rw [hf]; rfl
end Go.Proofs.YtkphaihbdmjogaaDoor
