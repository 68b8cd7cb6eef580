/- Plain mathematics of the best of a name: it is that of a filter that takes it, and none that does has a greater one; more filters make it no less. No condition; no program. -/
import Derived.Test.YtbhmflkhcadaeaaDoorPlainSubs
namespace Go.Proofs.YtbhmflkhcadaeaaDoor

/-- What the best of a name is. -/
structure BestOf (S : List Sb) (n : Bs) (b : Nat) (s : Bool) : Prop where
  top : ∀ x ∈ S, matchL (fB x) n = true → x.2 ≤ b
  has : s = true → ∃ x ∈ S, matchL (fB x) n = true ∧ x.2 = b
  non : s = false → b = 0 ∧ ∀ x ∈ S, matchL (fB x) n = false
theorem best_snoc (S : List Sb) (x : Sb) (n : Bs) : bestS (S ++ [x]) n = bestF n (bestS S n) x := by unfold bestS; rw [List.foldl_append]; rfl
theorem bestS_of (n : Bs) (S : List Sb) : BestOf S n (bestS S n).1 (bestS S n).2 := by
  suffices h : ∀ k, k ≤ S.length → BestOf (S.take k) n (bestS (S.take k) n).1 (bestS (S.take k) n).2 by
    have := h S.length (Nat.le_refl _)
    rwa [List.take_length] at this
  intro k
  induction k with
  | zero =>
    intro _
    exact ⟨fun x h => by simp at h, fun h => by simp [bestS] at h, fun _ => ⟨rfl, fun x h => by simp at h⟩⟩
  | succ k ih =>
    intro hk
    have h := ih (by omega)
    obtain ⟨x, hx⟩ : ∃ x, S[k]? = some x := ⟨_, List.getElem?_eq_getElem (by omega)⟩
    rw [List.take_add_one, hx, Option.toList_some, best_snoc]
    generalize bestS (S.take k) n = r at *
    obtain ⟨b, s⟩ := r
    dsimp only at h
    unfold bestF
    cases hm : matchL (fB x) n with
    | true =>
      simp only [if_true]
      refine ⟨?_, ?_, fun h => by cases h⟩
      · intro y hy hmy
        rcases List.mem_append.1 hy with hy | hy
        · have := h.top y hy hmy; omega
        · rw [List.mem_singleton] at hy; subst hy; omega
      · intro _
        rcases Nat.le_total b x.2 with h1 | h1
        · exact ⟨x, by simp, hm, by omega⟩
        · cases s with
          | true =>
            obtain ⟨y, hy, h2, h3⟩ := h.has rfl
            exact ⟨y, by simp [hy], h2, by omega⟩
          | false =>
            have := (h.non rfl).1
            exact ⟨x, by simp, hm, by omega⟩
    | false =>
      simp only [Bool.false_eq_true, if_false]
      refine ⟨?_, ?_, ?_⟩
      · intro y hy hmy
        rcases List.mem_append.1 hy with hy | hy
        · exact h.top y hy hmy
        · rw [List.mem_singleton] at hy; subst hy; rw [hm] at hmy; cases hmy
      · intro hs
        obtain ⟨y, hy, h2, h3⟩ := h.has hs
        exact ⟨y, by simp [hy], h2, h3⟩
      · intro hs
        refine ⟨(h.non hs).1, fun y hy => ?_⟩
        rcases List.mem_append.1 hy with hy | hy
        · exact (h.non hs).2 y hy
        · rw [List.mem_singleton] at hy; subst hy; exact hm
theorem BestOf.mono {S R : List Sb} {n : Bs} {b c : Nat} {s t : Bool} (h : BestOf S n b s) (k : BestOf R n c t) (hsub : ∀ x ∈ S, x ∈ R) : b ≤ c ∧ (s = true → t = true) := by
  cases s with
  | false => exact ⟨by have := (h.non rfl).1; omega, fun h => by cases h⟩
  | true =>
    obtain ⟨x, hx, h1, h2⟩ := h.has rfl
    refine ⟨by have := k.top x (hsub x hx) h1; omega, fun _ => ?_⟩
    cases t with
    | true => rfl
    | false => have := (k.non rfl).2 x (hsub x hx); rw [h1] at this; cases this
/-- The filters whose best it is. -/
def bestAny (S : List Sb) (n : Bs) (b : Nat) : Bool := S.any fun x => matchL (fB x) n && x.2 == b
theorem BestOf.any {S : List Sb} {n : Bs} {b : Nat} {s : Bool} (h : BestOf S n b s) : bestAny S n b = s := by
  unfold bestAny
  cases s with
  | true =>
    obtain ⟨x, hx, h1, h2⟩ := h.has rfl
    exact List.any_eq_true.2 ⟨x, hx, by simp [h1, h2]⟩
  | false =>
    rw [List.any_eq_false]
    intro x hx
    rw [(h.non rfl).2 x hx]
    simp
theorem ins_sub {S : List Sb} {f : ByteArray} {q : Nat} (h : atS S (bl f) = false) : ∀ x ∈ S, x ∈ insS S f q := by
  intro x hx
  unfold insS
  rw [h]
  simp only [Bool.false_eq_true, if_false, Nat.add_zero]
  rw [← List.take_append_drop (posS S (bl f)) S] at hx
  rcases List.mem_append.1 hx with h | h
  · simp [h]
  · simp [h]
theorem ins_has {S : List Sb} {f : ByteArray} {q : Nat} : (f, q) ∈ insS S f q := by unfold insS; simp
theorem any_snoc {α : Type} (p : α → Bool) (L : List α) (k : Nat) (x : α) (hx : L[k]? = some x) : (L.take (k + 1)).any p = ((L.take k).any p || p x) := by
  rw [List.take_add_one, hx, List.any_append]; simp
end Go.Proofs.YtbhmflkhcadaeaaDoor
