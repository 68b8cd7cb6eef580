/- Plain mathematics of SubsTurn: what is there can be set again; what is set and dropped leaves the others. No condition; no program. -/
import Derived.Test.YtbhmflkhcadaeaaDoorPlainSubs
namespace Go.Proofs.YtbhmflkhcadaeaaDoor

theorem ins_self : ∀ (S : List Sb) (f : ByteArray) (q : Nat), SortS S → (f, q) ∈ S → insS S f q = S ∧ atS S (bl f) = true
  | [], f, q, _, h => by cases h
  | x :: r, f, q, hs, h => by
    obtain ⟨h1, h2⟩ := List.pairwise_cons.1 hs
    rcases List.mem_cons.1 h with e | h
    · subst e
      refine ⟨ins_cons_eq _ r f q rfl, ?_⟩
      rw [atS_cons, show fB (f, q) = bl f from rfl, lessB_irr]; simp
    · have hl : lessB (fB x) (bl f) = true := h1 _ h
      obtain ⟨k1, k2⟩ := ins_self r f q h2 h
      refine ⟨by rw [ins_cons_lt x r f q hl, k1], by rw [atS_cons, if_pos hl]; exact k2⟩
theorem ins_filter : ∀ (S : List Sb) (f : ByteArray) (q : Nat), (insS S f q).filter (fun x => !(fB x == bl f)) = S.filter (fun x => !(fB x == bl f))
  | [], f, q => by simp [insS, posS, fB]
  | x :: r, f, q => by
    by_cases hl : lessB (fB x) (bl f) = true
    · rw [ins_cons_lt x r f q hl, List.filter_cons, List.filter_cons, ins_filter r f q]
    · by_cases he : fB x = bl f
      · rw [ins_cons_eq x r f q he, List.filter_cons, List.filter_cons, he]
        simp [fB]
      · rw [ins_cons_gt x r f q (by simpa using hl) he, List.filter_cons]
        simp [fB]
theorem del_ins (S : List Sb) (f : ByteArray) (q : Nat) (hs : SortS S) : delS (insS S f q) (bl f) = S.filter (fun x => !(fB x == bl f)) := by
  rw [← del_filter _ _ (ins_sort S f q hs), ins_filter]
theorem at_ins (S : List Sb) (f : ByteArray) (q : Nat) (hs : SortS S) : atS (insS S f q) (bl f) = true := by
  rw [← hasS_at _ _ (ins_sort S f q hs)]
  exact List.any_eq_true.2 ⟨(f, q), by unfold insS; simp, by simp [fB]⟩
theorem at_del (S : List Sb) (f : Bs) (hs : SortS S) : atS (delS S f) f = false := by
  rw [← hasS_at _ _ (del_sort S f hs), ← del_filter S f hs]
  unfold hasS
  rw [List.any_eq_false]
  intro x hx
  have := (List.mem_filter.1 hx).2
  simpa using this
end Go.Proofs.YtbhmflkhcadaeaaDoor
