/- What is told piece by piece is what is told of all. No program's function is named. -/
import Derived.Test.YtfljdlaelanliaaDoorPlainFrame3
namespace Go.Proofs.YtfljdlaelanliaaDoor
open Go.RowKit
theorem tdCells_app (T U : List TdE) : tdCells (T ++ U) = tdCells T ++ tdCells U := by unfold tdCells; rw [List.flatMap_append]
theorem tdCells_len : ∀ T : List TdE, (tdCells T).length = T.length * 25
  | [] => rfl
  | x :: r => by
    have : tdCells (x :: r) = tdC x ++ tdCells r := by unfold tdCells; rw [List.flatMap_cons]
    rw [this, List.length_append, tdCells_len r, tdC_len, List.length_cons]
    omega
theorem tdCells_one (T : List TdE) : ∀ u ∈ tdCells T, u.oneCell' = true := by
  intro u hu
  unfold tdCells at hu
  obtain ⟨x, _, hx⟩ := List.mem_flatMap.1 hu
  exact tdC_one x u hx
theorem own_none {w : World} {B n m c size : Nat} {e : TypeId} {a : Option Addr} {xs : List Value} (h : w.ownsRow B e size (.slice a n c) m xs) (ha : a = none) : c = 0 := by
  subst ha
  obtain ⟨hl, ⟨h1, _⟩ | ⟨g, cap, cur, h1, _⟩⟩ := h
  · injection h1
  · injection h1 with h2
    cases h2
theorem exit_past {Q : Exit → Act → World → Prop} {a : Act} {w : World} {id j : Nat} (hne : j ≠ id) (h : Q (.exit j) a w) : Exit.inBlock id Q (.exit j) a w := by
  unfold Exit.inBlock
  simp only
  rw [if_neg hne]
  exact h
/-- T was told of L, Lf is left of it. -/
structure Jt (m : Nat) (L Lf : Bs) (T : List TdE) : Prop where
  zero : ∀ y ∈ T, y.2 = 0
  tell : ∀ X, tellR m (L ++ X) = (T.map (fun y => y.1.1) ++ (tellR m (Lf ++ X)).1, (tellR m (Lf ++ X)).2)
  len : Lf.length ≤ L.length
theorem jt_nil (m : Nat) : Jt m [] [] [] := ⟨(by intro y hy; cases hy), fun X => rfl, Nat.le_refl _⟩
theorem jt_push {m : Nat} {L Lf : Bs} {T : List TdE} (h : Jt m L Lf T) (x : Bs) : Jt m (L ++ x) (Lf ++ x) T := ⟨h.zero, fun X => by rw [List.append_assoc, List.append_assoc]; exact h.tell (x ++ X), by rw [List.length_append, List.length_append]; have := h.len; omega⟩
theorem tp_fst {U : List TdE} {P : List (Pk × Nat)} (h : U.map tp = P) : U.map (fun y => y.1.1) = P.map Prod.fst := by
  rw [← h, List.map_map]; rfl
theorem told_fst {m : Nat} {L : Bs} (h : (tellR m L).2.2 = 0) : (toldR m L).map Prod.fst = (tellR m L).1 := by
  unfold toldR
  rw [if_neg (by rw [h]; simp), List.append_nil, List.map_map]
  exact List.map_id _
theorem jt_drain {m : Nat} {L Lf : Bs} {T U : List TdE} (h : Jt m L Lf T) (he : (tellR m Lf).2.2 = 0) (hU : U.map tp = toldR m Lf) : Jt m L (tellR m Lf).2.1 (T ++ U) := by
  refine ⟨fun y hy => ?_, fun X => ?_, ?_⟩
  · rcases List.mem_append.1 hy with hy | hy
    · exact h.zero y hy
    · have h1 : tp y ∈ toldR m Lf := by rw [← hU]; exact List.mem_map_of_mem hy
      unfold toldR at h1
      rw [if_neg (by rw [he]; simp), List.append_nil] at h1
      obtain ⟨p, _, hp⟩ := List.mem_map.1 h1
      exact (congrArg Prod.snd hp).symm
  · rw [h.tell X, tell_app m Lf.length Lf X (Nat.le_refl _), if_neg (by rw [he]; simp), List.map_append, tp_fst hU, told_fst he, List.append_assoc]
  · have h1 := tell_len m Lf.length Lf (Nat.le_refl _)
    have := h.len
    omega
theorem zero_tp {T : List TdE} (h : ∀ y ∈ T, y.2 = 0) : T.map tp = (T.map fun y => y.1.1).map (fun p => (p, 0)) := by
  rw [List.map_map]
  refine List.map_congr_left fun y hy => ?_
  show (y.1.1, y.2) = _
  rw [h y hy]
  rfl
theorem jt_end {m : Nat} {L Lf : Bs} {T U : List TdE} (h : Jt m L Lf T) (hU : U.map tp = toldR m Lf) : (T ++ U).map tp = toldR m L ∧ (tellR m L).2 = (tellR m Lf).2 := by
  have h1 := h.tell []
  rw [List.append_nil, List.append_nil] at h1
  refine ⟨?_, by rw [h1]⟩
  rw [List.map_append, hU, zero_tp h.zero]
  unfold toldR
  rw [h1]
  simp only [List.map_append, List.append_assoc]
theorem jt_err {m : Nat} {L Lf : Bs} {T U : List TdE} (h : Jt m L Lf T) (he : (tellR m Lf).2.2 ≠ 0) (hU : U.map tp = toldR m Lf) (X : Bs) : (T ++ U).map tp = toldR m (L ++ X) ∧ (tellR m (L ++ X)).2 = (tellR m Lf).2 := by
  have h1 := h.tell X
  rw [tell_app m Lf.length Lf X (Nat.le_refl _), if_pos he] at h1
  refine ⟨?_, by rw [h1]⟩
  rw [List.map_append, hU, zero_tp h.zero]
  unfold toldR
  rw [h1]
  simp only [List.map_append, List.append_assoc]
theorem jt_len {m : Nat} {L Lf : Bs} {T : List TdE} (h : Jt m L Lf T) : 2 * (T.length + (tellR m Lf).1.length) ≤ L.length := by
  have h1 := h.tell []
  rw [List.append_nil, List.append_nil] at h1
  have h2 := tell_len m L.length L (Nat.le_refl _)
  rw [h1] at h2
  simp only [List.length_append, List.length_map] at h2
  omega
theorem told_lens {m : Nat} {L : Bs} {U : List TdE} (h : U.map tp = toldR m L) : U.length ≤ (tellR m L).1.length + 1 := told_len (told_end h)
theorem take_drop_cat (A : List ByteArray) (k : Nat) : catZ A = catZ (A.take k) ++ catZ (A.drop k) := by
  unfold catZ
  rw [← List.flatMap_append, List.take_append_drop]
/-- The last of what was told. -/
theorem last_err {m : Nat} {L : Bs} {T U : List TdE} (h : U.map tp = toldR m L) (he : (tellR m L).2.2 ≠ 0) : ∃ x, (T ++ U)[(T ++ U).length - 1]? = some x ∧ x.2 ≠ 0 := by
  rcases told_end h with ⟨h1, _⟩ | ⟨_, hl, x, hx, hx2⟩
  · exact absurd h1 he
  · obtain ⟨k, hk⟩ := List.getElem?_of_mem hx
    rcases told_at h k x hk with ⟨h3, _⟩ | ⟨_, _, _, h4⟩
    · exact absurd h3 hx2
    · refine ⟨x, ?_, hx2⟩
      rw [List.length_append, List.getElem?_append_right (by omega)]
      rw [show T.length + U.length - 1 - T.length = k by omega]
      exact hk
end Go.Proofs.YtfljdlaelanliaaDoor
