/- Plain mathematics of workers: a filter's hubs hold the hub of each name that it takes, and all the hubs of what it covers. No condition; no program. -/
import Derived.Test.YtnnggcaifbinbaaDoorPlainShard
import Derived.Test.YtnnggcaifbinbaaDoorPlainOrder
namespace Go.Proofs.YtnnggcaifbinbaaDoor

theorem fewB_nat {m : Nat} (h1 : 1 ≤ m) (h2 : m ≤ 64) : fewB (m : Int) = true := by
  unfold fewB; simp; omega
theorem covers_head {a b : Bs} (h : coversL a b = true) (hw : wildL a = false) : headL a = headL b := by
  unfold coversL at h
  rw [Bool.and_eq_true] at h
  have hl := h.2
  obtain ⟨x, ra, e1, e2⟩ := levels_cases a
  obtain ⟨y, rb, e3, e4⟩ := levels_cases b
  unfold wildL at hw
  rw [e2, Bool.or_eq_false_iff] at hw
  rw [e1, e3] at hl
  unfold coversLv at hl
  rw [hw.2] at hl
  simp only [Bool.false_eq_true, if_false] at hl
  by_cases hy : (y == [35]) = true
  · rw [if_pos hy] at hl; simp at hl
  · rw [if_neg hy, hw.1, Bool.false_or, Bool.and_eq_true, beq_iff_eq] at hl
    rw [e2, e4]; exact hl.1
theorem covers_filters {a b : Bs} (h : coversL a b = true) : filterL a = true ∧ filterL b = true := by
  unfold coversL at h
  simp only [Bool.and_eq_true] at h
  exact ⟨h.1.1.1, h.1.1.2⟩
theorem restL_lt (s : Bs) {m : Nat} (h1 : 1 ≤ m) : restL s m < m := Nat.mod_lt _ h1

theorem hubs_wild {a : Bs} {m : Nat} (h1 : 1 ≤ m) (h2 : m ≤ 64) (hf : filterL a = true) (hw : wildL a = true) : hubsL a (m : Int) = List.range m := by
  unfold hubsL; rw [fewB_nat h1 h2, hf, hw]; rfl
theorem hubs_tame {a : Bs} {m : Nat} (h1 : 1 ≤ m) (h2 : m ≤ 64) (hf : filterL a = true) (hw : wildL a = false) : hubsL a (m : Int) = [restL (headL a) m] := by
  unfold hubsL; rw [fewB_nat h1 h2, hf, hw]; rfl
theorem hubs_off {a : Bs} {n : Int} (hf : filterL a = false) : hubsL a n = [] := by
  unfold hubsL; rw [hf]; simp
theorem hub_name {b : Bs} {m : Nat} (h1 : 1 ≤ m) (h2 : m ≤ 64) (hn : nameL b = true) : hubL b (m : Int) = (restL (headL b) m : Nat) := by
  unfold hubL; rw [fewB_nat h1 h2, hn]; rfl

theorem any_mem {X : List Nat} {y : Nat} (h : y ∈ X) : (X.any fun z => (z : Int) == (y : Int)) = true :=
  List.any_eq_true.2 ⟨y, h, beq_self_eq_true _⟩

theorem takes_hub {a b : Bs} {m : Nat} (h1 : 1 ≤ m) (h2 : m ≤ 64) (h : matchL a b = true) : ((hubsL a (m : Int)).any fun z => (z : Int) == hubL b (m : Int)) = true := by
  unfold matchL at h
  rw [Bool.and_eq_true] at h
  rw [hub_name h1 h2 h.1]
  apply any_mem
  have hf := (covers_filters h.2).1
  cases hw : wildL a
  · rw [hubs_tame h1 h2 hf hw, covers_head h.2 hw]; simp
  · rw [hubs_wild h1 h2 hf hw]; exact List.mem_range.2 (restL_lt _ h1)
theorem covers_hubs {a b : Bs} {m : Nat} (h1 : 1 ≤ m) (h2 : m ≤ 64) (h : coversL a b = true) (y : Nat) (hy : y ∈ hubsL b (m : Int)) : ((hubsL a (m : Int)).any fun z => (z : Int) == (y : Int)) = true := by
  apply any_mem
  obtain ⟨hfa, hfb⟩ := covers_filters h
  cases hw : wildL a
  · have hh := covers_head h hw
    have hwb : wildL b = false := by
      unfold wildL at hw ⊢; rw [← hh]; exact hw
    rw [hubs_tame h1 h2 hfb hwb] at hy
    rw [hubs_tame h1 h2 hfa hw, hh]; exact hy
  · rw [hubs_wild h1 h2 hfa hw]
    rw [List.mem_range]
    cases hwb : wildL b
    · rw [hubs_tame h1 h2 hfb hwb] at hy
      have : y = restL (headL b) m := by simpa using hy
      rw [this]; exact restL_lt _ h1
    · rw [hubs_wild h1 h2 hfb hwb] at hy
      exact List.mem_range.1 hy
theorem hubs_len {a : Bs} {m : Nat} (h1 : 1 ≤ m) (h2 : m ≤ 64) : (hubsL a (m : Int)).length ≤ 64 ∧ decide (0 < (hubsL a (m : Int)).length) = filterL a := by
  cases hf : filterL a
  · rw [hubs_off hf]; simp
  · cases hw : wildL a
    · rw [hubs_tame h1 h2 hf hw]; simp
    · rw [hubs_wild h1 h2 hf hw]; simp; omega

theorem hubs_sorted {a : Bs} {m : Nat} (h1 : 1 ≤ m) (h2 : m ≤ 64) : (∀ i x : Nat, (hubsL a (m : Int))[i]? = some x → x < m) ∧ (∀ i x y : Nat, (hubsL a (m : Int))[i]? = some x → (hubsL a (m : Int))[i + 1]? = some y → x < y) := by
  cases hf : filterL a
  · rw [hubs_off hf]; simp
  · cases hw : wildL a
    · rw [hubs_tame h1 h2 hf hw]
      refine ⟨fun i x h => ?_, fun i x y h h' => ?_⟩
      · have := List.mem_of_getElem? h
        have : x = restL (headL a) m := by simpa using this
        rw [this]; exact restL_lt _ h1
      · simp at h'
    · rw [hubs_wild h1 h2 hf hw]
      refine ⟨fun i x h => ?_, fun i x y h h' => ?_⟩
      · exact List.mem_range.1 (List.mem_of_getElem? h)
      · rw [List.getElem?_eq_some_iff] at h h'
        obtain ⟨p, h⟩ := h
        obtain ⟨q, h'⟩ := h'
        simp at h h'
        omega
theorem hubs_name {a : Bs} {m : Nat} (h1 : 1 ≤ m) (h2 : m ≤ 64) (hn : nameL a = true) : hubsL a (m : Int) = [restL (headL a) m] :=
  hubs_tame h1 h2 (filter_of_name hn) (wild_of_name hn)
theorem home_one (a : Bs) : homeL a 1 = 0 := by
  have : restL a 1 = 0 := Nat.mod_one _
  unfold homeL fewB
  simp [this]
theorem home_nat {a : Bs} {m : Nat} (h1 : 1 ≤ m) (h2 : m ≤ 64) : homeL a (m : Int) = (restL a m : Nat) := by
  unfold homeL; rw [fewB_nat h1 h2]; rfl
theorem gate_nat {c m : Nat} (h1 : 1 ≤ m) (h2 : m ≤ 64) : gateL ((c : Int) + 1) (m : Int) = (c % m : Nat) := by
  unfold gateL; rw [fewB_nat h1 h2]
  rw [show decide (1 ≤ (c : Int) + 1) = true from decide_eq_true (by omega)]
  simp
end Go.Proofs.YtnnggcaifbinbaaDoor
