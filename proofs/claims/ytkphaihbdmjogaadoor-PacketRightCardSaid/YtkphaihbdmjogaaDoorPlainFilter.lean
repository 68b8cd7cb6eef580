/- Plain mathematics of filters: byte by byte, as the reference looks, is level by level. No program. -/
import Derived.Test.YtkphaihbdmjogaaDoorPlainOrder
namespace Go.Proofs.YtkphaihbdmjogaaDoor

/-- Whether each + and # of a text stands alone between two /, the text's ends aside; st: a level begins here. -/
def fA : Bool → Bs → Bool
  | _, [] => true
  | st, b :: t => (if b = 43 ∨ b = 35 then st && (t.isEmpty || (!(b == 35) && t.head? == some 47)) else true) && fA (b == 47) t
theorem fA_levels : ∀ (s x : Bs) (r : List Bs), levelsL s = x :: r → fA false s = (plainL x && filterLv r) ∧ fA true s = (levelL x r.isEmpty && filterLv r)
  | [], x, r, h => by
    simp [levelsL] at h
    obtain ⟨rfl, rfl⟩ := h
    exact ⟨rfl, rfl⟩
  | b :: t, x, r, h => by
    obtain ⟨y, q, hy⟩ : ∃ y q, levelsL t = y :: q := by
      cases hl : levelsL t with
      | nil => exact absurd hl (levelsL_ne t)
      | cons y q => exact ⟨y, q, rfl⟩
    have ih := fA_levels t y q hy
    by_cases hb : b = 47
    · subst hb
      unfold levelsL at h
      rw [if_pos rfl] at h
      injection h with h1 h2
      subst h1 h2
      have e : filterLv (levelsL t) = (levelL y q.isEmpty && filterLv q) := by rw [hy]; rfl
      have hne : (levelsL t).isEmpty = false := by rw [hy]; rfl
      have hf : ∀ st, fA st (47 :: t) = fA true t := fun st => by
        show ((if (47 : UInt8) = 43 ∨ (47 : UInt8) = 35 then _ else true) && fA ((47 : UInt8) == 47) t) = _
        rw [if_neg (by decide)]; rfl
      rw [hf, hf, ih.2, e, hne]
      exact ⟨rfl, rfl⟩
    · unfold levelsL at h
      rw [if_neg hb, hy] at h
      have h' : (b :: y) :: q = x :: r := h
      injection h' with h1 h2
      subst h1 h2
      have hb47 : (b == 47) = false := beq_eq_false_iff_ne.2 hb
      by_cases hw : b = 43 ∨ b = 35
      · have hp : plainL (b :: y) = false := by
          unfold plainL
          rcases hw with rfl | rfl <;> rfl
        have hf : ∀ st, fA st (b :: t) = ((st && (t.isEmpty || (!(b == 35) && t.head? == some 47))) && fA false t) := fun st => by
          show ((if b = 43 ∨ b = 35 then _ else true) && fA (b == 47) t) = _
          rw [if_pos hw, hb47]
        rw [hf, hf, hp, ih.1]
        refine ⟨by simp, ?_⟩
        unfold levelL
        rw [hp]
        cases t with
        | nil =>
          simp [levelsL] at hy
          obtain ⟨rfl, rfl⟩ := hy
          rcases hw with rfl | rfl <;> rfl
        | cons d t' =>
          by_cases hd : d = 47
          · subst hd
            unfold levelsL at hy
            rw [if_pos rfl] at hy
            injection hy with h1 h2
            subst h1 h2
            have hne : (levelsL t').isEmpty = false := by
              cases hl : levelsL t' with
              | nil => exact absurd hl (levelsL_ne t')
              | cons => rfl
            rw [hne]
            rcases hw with rfl | rfl
            · rfl
            · rfl
          · have hy2 : y ≠ [] := by
              unfold levelsL at hy
              rw [if_neg hd] at hy
              cases hl : levelsL t' with
              | nil => exact absurd hl (levelsL_ne t')
              | cons u v =>
                rw [hl] at hy
                have : (d :: u) :: v = y :: q := hy
                injection this with h1 _
                rw [← h1]; simp
            have e1 : ((b :: y) == [43]) = false := by rw [beq_eq_false_iff_ne]; intro e; injection e with _ e2; exact hy2 e2
            have e2 : ((b :: y) == [35]) = false := by rw [beq_eq_false_iff_ne]; intro e; injection e with _ e2; exact hy2 e2
            have e3 : ((d :: t').head? == some 47) = false := by
              rw [beq_eq_false_iff_ne]; intro e; injection e with e; exact hd e
            rw [e1, e2, e3]; simp
      · have hp : plainL (b :: y) = plainL y := by
          unfold plainL
          rw [List.all_cons]
          have h43 : (b == 43) = false := beq_eq_false_iff_ne.2 (fun e => hw (Or.inl e))
          have h35 : (b == 35) = false := beq_eq_false_iff_ne.2 (fun e => hw (Or.inr e))
          rw [h43, h35]; rfl
        have hf : ∀ st, fA st (b :: t) = fA false t := fun st => by
          show ((if b = 43 ∨ b = 35 then _ else true) && fA (b == 47) t) = _
          rw [if_neg hw, hb47, Bool.true_and]
        have e1 : ((b :: y) == [43]) = false := by rw [beq_eq_false_iff_ne]; intro e; injection e with e2 _; exact hw (Or.inl e2)
        have e2 : ((b :: y) == [35]) = false := by rw [beq_eq_false_iff_ne]; intro e; injection e with e2 _; exact hw (Or.inr e2)
        rw [hf, hf, ih.1, hp]
        unfold levelL
        rw [e1, e2, hp]
        exact ⟨rfl, rfl⟩
theorem fA_filter (s : Bs) : filterLv (levelsL s) = fA true s := by
  obtain ⟨y, q, hy⟩ : ∃ y q, levelsL s = y :: q := by
    cases hl : levelsL s with
    | nil => exact absurd hl (levelsL_ne s)
    | cons y q => exact ⟨y, q, rfl⟩
  rw [(fA_levels s y q hy).2, hy]; rfl
theorem fA_drop (s : Bs) (st : Bool) (k : Nat) (b : UInt8) (h : s[k]? = some b) : fA st (s.drop k) = ((if b = 43 ∨ b = 35 then st && (decide (s.length ≤ k + 1) || (!(b == 35) && s[k + 1]? == some 47)) else true) && fA (b == 47) (s.drop (k + 1))) := by
  obtain ⟨hk, hx⟩ := List.getElem?_eq_some_iff.1 h
  rw [List.drop_eq_getElem_cons hk, hx]
  have e1 : (s.drop (k + 1)).isEmpty = decide (s.length ≤ k + 1) := by rw [Bool.eq_iff_iff]; simp
  have e2 : (s.drop (k + 1)).head? = s[k + 1]? := by rw [List.head?_drop]
  rw [← e1, ← e2]
  rfl
end Go.Proofs.YtkphaihbdmjogaaDoor
