/- Plain facts of rows of packets: the bytes of two rows, of a row's beginning. No condition. -/
import Derived.Test.YtfljdlaelanliaaDoorLaw04
namespace Go.Proofs.YtfljdlaelanliaaDoor
theorem okAll_append (A B : List PkE) : okAll (A ++ B) = (okAll A && okAll B) := by unfold okAll; rw [List.all_append]
theorem encAll_append (A B : List PkE) : encAll (A ++ B) = encAll A ++ encAll B := by unfold encAll; rw [List.flatMap_append]
theorem bB_append (L M : Bs) : bB (L ++ M) = bB L ++ bB M := by
  apply bl_inj
  unfold bl bB
  simp
theorem allS_two {A B : List PkE} (ha : okAll A = true) (hb : okAll B = true) : allS (A ++ B) = allS A ++ allS B ∧ allE (A ++ B) = 0 := by
  unfold allS allE
  rw [okAll_append, ha, hb]
  simp only [Bool.and_true, if_true]
  exact ⟨by rw [encAll_append, bB_append], trivial⟩
theorem allS_not {A B : List PkE} (h : okAll A = false ∨ okAll B = false) : allS (A ++ B) = ⟨#[]⟩ ∧ allE (A ++ B) = 4 := by
  unfold allS allE
  rw [okAll_append]
  rcases h with h | h <;> simp [h]
theorem allE_iff (A : List PkE) : (allE A = 0 ↔ okAll A = true) := by
  unfold allE
  cases okAll A <;> simp
theorem ok_each {A : List PkE} (h : okAll A = true) {x : PkE} (hx : x ∈ A) : 0 ≤ restP x.1 := by
  unfold okAll at h
  have := List.all_eq_true.1 h x hx
  simpa using this
/-- The bytes of a row's first k packets, joined one by one, and their sizes' sum. -/
theorem join_snoc {A : List PkE} (h : okAll A = true) {k : Nat} {x : PkE} (hx : A[k]? = some x) : bB (encAll (A.take (k + 1))) = bB (encAll (A.take k)) ++ encS x.1 := by
  rw [encAll_snoc A k x hx, bB_append, encS_good (ok_each h (List.mem_of_getElem? hx))]
theorem join_all {A : List PkE} (h : okAll A = true) : bB (encAll (A.take A.length)) = allS A := by
  rw [List.take_length]
  unfold allS
  rw [h]
  rfl
theorem sum_join : ∀ {A : List PkE}, okAll A = true → (∀ x ∈ A, PkOk x.1) → sumS A = (encAll A).length
  | [], _, _ => rfl
  | x :: r, h, hp => by
    have h2 : okAll [x] = true ∧ okAll r = true := by
      have := okAll_append [x] r
      rw [List.singleton_append, h] at this
      simpa using this.symm
    have ih := sum_join h2.2 (fun y hy => hp y (by simp [hy]))
    have hx : 0 ≤ restP x.1 := ok_each h (by simp)
    have h3 := size_good (hp x (by simp)) hx
    rw [encS_good hx] at h3
    have h4 : sizeN x.1 = (encB x.1).length := h3
    unfold sumS encAll at *
    rw [List.map_cons, List.sum_cons, List.flatMap_cons, List.length_append, ih, h4]
end Go.Proofs.YtfljdlaelanliaaDoor
