/- Small lemmas about what is told: sizes, errors, where each lies in the row. No program's function is named. -/
import Derived.Test.YtfljdlaelanliaaDoorFrameG
namespace Go.Proofs.YtfljdlaelanliaaDoor
open Go.RowKit
/-- The pieces, one behind the other. -/
def catZ (L : List ByteArray) : Bs := L.flatMap bl
theorem catZ_snoc {L : List ByteArray} {k : Nat} {x : ByteArray} (h : L[k]? = some x) : catZ (L.take (k + 1)) = catZ (L.take k) ++ bl x := by
  have : L.take (k + 1) = L.take k ++ [x] := by rw [List.take_add_one, h]; rfl
  unfold catZ
  rw [this, List.flatMap_append]
  simp
theorem catZ_len (L : List ByteArray) : (catZ L).length = sumZ L := by
  unfold catZ sumZ
  induction L with
  | nil => rfl
  | cons x r ih => rw [List.flatMap_cons, List.length_append, ih, bl_len, List.map_cons, List.sum_cons]
theorem great_sum {L : List ByteArray} (h : greatZ L = false) : sumZ L ≤ 20000 := by
  unfold greatZ at h
  rw [Bool.or_eq_false_iff, decide_eq_false_iff_not] at h
  omega
theorem tell_ok (m : Nat) : ∀ (n : Nat) (L : Bs), L.length ≤ n → L.length ≤ 90000000 → ∀ p ∈ (tellR m L).1, PkOk p := by
  intro n
  induction n with
  | zero =>
    intro L hL _ p hp
    have : L = [] := List.eq_nil_of_length_eq_zero (by omega)
    subst this
    cases hp
  | succ n ih =>
    intro L hL hM p hp
    rcases hn : nextR m L with ⟨q, t, e⟩
    cases q with
    | none => rw [tell_none hn] at hp; cases hp
    | some p' =>
      have hs := next_short hn
      rw [tell_some hn] at hp
      rcases List.mem_cons.1 hp with rfl | hp
      · obtain ⟨_, h1, h2, h3, h4, h5⟩ := next_some hn
        obtain ⟨_, _, _, _, _, _, _, _, _, _, h6, _⟩ := dec_again (L.take (wholeR m L).1) p (decR (L.take (wholeR m L).1)).2.1 (by rw [h5, ← h4]) (by rw [List.length_take]; omega)
        exact h6
      · exact ih t (by omega) (by omega) p hp
/-- What is told, one by one. -/
theorem told_at {m : Nat} {L : Bs} {T : List TdE} (h : T.map tp = toldR m L) : ∀ (k : Nat) (x : TdE), T[k]? = some x → (x.2 = 0 ∧ (tellR m L).1[k]? = some x.1.1 ∧ k < (tellR m L).1.length) ∨ (x.2 ≠ 0 ∧ x.2 = (tellR m L).2.2 ∧ x.1.1 = Pk.zero ∧ T.length = k + 1) := by
  intro k x hx
  have h1 : (toldR m L)[k]? = some (tp x) := by rw [← h, List.getElem?_map, hx]; rfl
  have hl : T.length = (toldR m L).length := by rw [← h, List.length_map]
  unfold toldR at h1 hl
  by_cases hk : k < (tellR m L).1.length
  · rw [List.getElem?_append_left (by rw [List.length_map]; exact hk), List.getElem?_map] at h1
    cases hp : (tellR m L).1[k]? with
    | none => rw [hp] at h1; cases h1
    | some p =>
      rw [hp] at h1
      injection h1 with h1
      injection h1 with h2 h3
      left
      exact ⟨h3.symm, by rw [h2], hk⟩
  · rw [List.getElem?_append_right (by rw [List.length_map]; omega), List.length_map] at h1
    rw [List.length_append, List.length_map] at hl
    by_cases he : (tellR m L).2.2 ≠ 0
    · rw [if_pos he] at h1 hl
      have hlt := (List.getElem?_eq_some_iff.1 h1).1
      have hk0 : k - (tellR m L).1.length = 0 := by simp at hlt; omega
      rw [hk0] at h1
      injection h1 with h1
      injection h1 with h2 h3
      right
      refine ⟨by rw [← h3]; exact he, h3.symm, h2.symm, ?_⟩
      simp at hl
      omega
    · rw [if_neg he] at h1
      cases h1
theorem told_end {m : Nat} {L : Bs} {T : List TdE} (h : T.map tp = toldR m L) : ((tellR m L).2.2 = 0 ∧ T.length = (tellR m L).1.length) ∨ ((tellR m L).2.2 ≠ 0 ∧ T.length = (tellR m L).1.length + 1 ∧ ∃ x ∈ T, x.2 ≠ 0) := by
  have hl : T.length = (toldR m L).length := by rw [← h, List.length_map]
  unfold toldR at h hl
  by_cases he : (tellR m L).2.2 ≠ 0
  · rw [if_pos he] at h hl
    right
    rw [List.length_append, List.length_map] at hl
    refine ⟨he, hl, ?_⟩
    have hm : (Pk.zero, (tellR m L).2.2) ∈ T.map tp := by rw [h]; exact List.mem_append_right _ (List.mem_singleton.2 rfl)
    obtain ⟨x, hx, hxe⟩ := List.mem_map.1 hm
    refine ⟨x, hx, ?_⟩
    have : x.2 = (tellR m L).2.2 := congrArg Prod.snd hxe
    rw [this]; exact he
  · rw [if_neg he] at hl
    left
    rw [List.append_nil, List.length_map] at hl
    exact ⟨by omega, hl⟩
theorem told_len {P : List Pk} {T : List TdE} {er : Nat} (h : (er = 0 ∧ T.length = P.length) ∨ (er ≠ 0 ∧ T.length = P.length + 1 ∧ ∃ x ∈ T, x.2 ≠ 0)) : T.length ≤ P.length + 1 := by
  rcases h with ⟨_, h⟩ | ⟨_, h, _⟩ <;> omega
end Go.Proofs.YtfljdlaelanliaaDoor
