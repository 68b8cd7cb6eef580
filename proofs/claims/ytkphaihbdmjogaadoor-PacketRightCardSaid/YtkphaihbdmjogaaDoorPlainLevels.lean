/- Plain mathematics of texts put behind a slash: characters, levels, what is taken. No condition; no program. -/
import Derived.Test.YtkphaihbdmjogaaDoorPlainOrder
namespace Go.Proofs.YtkphaihbdmjogaaDoor
open Go.Lib

theorem bN_app_lt (x y : Bs) (k : Nat) (h : k < x.length) : bN (x ++ y) k = bN x k := by
  unfold bN; rw [List.getD_eq_getElem?_getD, List.getD_eq_getElem?_getD, List.getElem?_append_left h]
theorem bN_app_at (x y : Bs) (k : Nat) (h : k = x.length) : bN (x ++ 47 :: y) k = 47 := by
  unfold bN; rw [List.getD_eq_getElem?_getD, List.getElem?_append_right (by omega), h, Nat.sub_self]; rfl
theorem bN_out (x : Bs) (k : Nat) (h : x.length ≤ k) : bN x k = 0 := by
  unfold bN; rw [List.getD_eq_getElem?_getD, List.getElem?_eq_none h]; rfl
theorem chrN_cut (n m b0 b1 b2 b3 c1 c2 c3 : Nat) (hn : 1 ≤ n) (hm : n < m) (h1 : 1 < n → c1 = b1) (h2 : 2 < n → c2 = b2) (h3 : 3 < n → c3 = b3)
    (g1 : n = 1 → c1 = 47) (g2 : n = 2 → c2 = 47) (g3 : n = 3 → c3 = 47) : chrN m b0 c1 c2 c3 = chrN n b0 b1 b2 b3 := by
  have hc1 : c1 = b1 ∨ (n ≤ 1 ∧ c1 = 47) := by omega
  have hc2 : c2 = b2 ∨ (n ≤ 1) ∨ (n = 2 ∧ c2 = 47) := by omega
  have hc3 : c3 = b3 ∨ (n ≤ 2) ∨ (n = 3 ∧ c3 = 47) := by omega
  unfold chrN
  by_cases k1 : b0 < 128
  · rw [if_pos k1, if_pos k1]
  rw [if_neg k1, if_neg k1]
  by_cases k2 : 192 ≤ b0 ∧ b0 < 224
  · rw [if_pos k2, if_pos k2]
    by_cases q : 1 < n
    · rw [h1 q]; simp only [show ¬ m < 2 by omega, show ¬ n < 2 by omega]
    · rw [if_pos (by omega), if_pos (by omega)]
  rw [if_neg k2, if_neg k2]
  by_cases k3 : 224 ≤ b0 ∧ b0 < 240
  · rw [if_pos k3, if_pos k3]
    by_cases q : 2 < n
    · rw [h1 (by omega), h2 q]; simp only [show ¬ m < 3 by omega, show ¬ n < 3 by omega]
    · rw [if_pos (show _ ∨ _ by omega), if_pos (by omega)]
  rw [if_neg k3, if_neg k3]
  by_cases k4 : 240 ≤ b0 ∧ b0 < 248
  · rw [if_pos k4, if_pos k4]
    by_cases q : 3 < n
    · rw [h1 (by omega), h2 (by omega), h3 q]; simp only [show ¬ m < 4 by omega, show ¬ n < 4 by omega]
    · rw [if_pos (show _ ∨ _ by omega), if_pos (by omega)]
  rw [if_neg k4, if_neg k4]
/-- A slash behind bytes does not turn the character with which they begin. -/
theorem chrD_slash (x y : Bs) (h : x ≠ []) : chrD (x ++ 47 :: y) = chrD x := by
  have hx : 1 ≤ x.length := by cases x with | nil => exact absurd rfl h | cons => simp
  rw [chrD_N _ h, chrD_N _ (by simp)]
  have e0 : bN (x ++ 47 :: y) 0 = bN x 0 := bN_app_lt _ _ _ (by omega)
  rw [e0]
  exact chrN_cut _ _ _ _ _ _ _ _ _ hx (by simp) (fun q => bN_app_lt _ _ _ q) (fun q => bN_app_lt _ _ _ q) (fun q => bN_app_lt _ _ _ q)
    (fun q => bN_app_at _ _ _ q.symm) (fun q => bN_app_at _ _ _ q.symm) (fun q => bN_app_at _ _ _ q.symm)
theorem chrD_47 (y : Bs) : chrD (47 :: y) = (47, 1) := by
  rw [chrD_N _ (by simp)]
  have e0 : bN (47 :: y) 0 = 47 := rfl
  rw [e0]; rfl
theorem cntO_slash : ∀ (n : Nat) (x y : Bs), x.length ≤ n → (cntO (x ++ 47 :: y)).isSome = ((cntO x).isSome && (cntO y).isSome)
  | n, [], y, _ => by
    rw [List.nil_append, cntO_step _ (by simp), chrD_47, cntO_nil]
    simp
  | 0, b :: x, y, h => by simp at h
  | n + 1, b :: x, y, h => by
    have hc := chrD_slash (b :: x) y (by simp)
    rw [cntO_step (b :: x ++ 47 :: y) (by simp), cntO_step (b :: x) (by simp), hc]
    split
    · rfl
    · rename_i hz
      have hle := chrD_le (b :: x)
      rw [List.drop_append_of_le_length hle]
      have ih := cntO_slash n ((b :: x).drop (chrD (b :: x)).2) y (by rw [List.length_drop]; simp only [List.length_cons] at h ⊢; omega)
      rw [Option.isSome_map, Option.isSome_map, ih]

theorem levels_slash : ∀ (x y : Bs), levelsL (x ++ 47 :: y) = levelsL x ++ levelsL y
  | [], y => rfl
  | b :: x, y => by
    have ih := levels_slash x y
    rw [List.cons_append]
    show (if b = 47 then [] :: levelsL (x ++ 47 :: y) else consHead b (levelsL (x ++ 47 :: y))) = (if b = 47 then [] :: levelsL x else consHead b (levelsL x)) ++ levelsL y
    rw [ih]
    split
    · rfl
    · cases hl : levelsL x with
      | nil => exact absurd hl (levelsL_ne x)
      | cons z r => rfl

theorem valid_slash (x y : Bs) (h : (x ++ 47 :: y).length ≤ 65535) : validL (x ++ 47 :: y) = (validL x && validL y) := by
  unfold validL
  rw [cntO_slash _ x y (Nat.le_refl _)]
  simp only [List.length_append, List.length_cons] at h ⊢
  rw [decide_eq_true (show x.length + (y.length + 1) ≤ 65535 by omega), decide_eq_true (show x.length ≤ 65535 by omega), decide_eq_true (show y.length ≤ 65535 by omega)]
  simp
theorem plain_slash (x y : Bs) : plainL (x ++ 47 :: y) = (plainL x && plainL y) := by
  unfold plainL; rw [List.all_append, List.all_cons]; rfl
theorem head_slash (x y : Bs) : headL (x ++ 47 :: y) = headL x := by
  unfold headL; rw [levels_slash]
  cases hl : levelsL x with
  | nil => exact absurd hl (levelsL_ne x)
  | cons z r => rfl
theorem wild_slash (x y : Bs) : wildL (x ++ 47 :: y) = wildL x := by unfold wildL; rw [head_slash]
theorem head?_slash (x y : Bs) (h : x ≠ []) : (x ++ 47 :: y).head? = x.head? := by
  cases x with
  | nil => exact absurd rfl h
  | cons b t => rfl

/-- A filter's levels, but the last one: none of them is #. -/
theorem filterLv_snoc (x : Bs) : ∀ (T : List Bs), T ≠ [] → filterLv T = true → T.getLastD [] ≠ [35] → levelL x true = true → filterLv (T ++ [x]) = true
  | [], h, _, _, _ => absurd rfl h
  | [y], _, h, hl, hx => by
    simp only [filterLv, List.isEmpty_nil, Bool.and_true] at h
    have hy : levelL y false = true := by
      unfold levelL at h ⊢
      have : (y == [35]) = false := beq_eq_false_iff_ne.2 (by simpa using hl)
      rw [this] at h ⊢
      simpa using h
    simp only [List.cons_append, List.nil_append, filterLv, List.isEmpty_cons, List.isEmpty_nil, Bool.and_true]
    rw [hy, hx]; rfl
  | y :: z :: r, _, h, hl, hx => by
    rw [filterLv, Bool.and_eq_true] at h
    have ih := filterLv_snoc x (z :: r) (by simp) h.2 (by simpa using hl) hx
    show (levelL y ((z :: r) ++ [x]).isEmpty && filterLv ((z :: r) ++ [x])) = true
    rw [ih]
    have := h.1
    simp only [List.isEmpty_cons] at this
    simp [this]
theorem filter_slash {a m : Bs} (ha : filterL a = true) (hm : levelsL m = [m]) (hl : (levelsL a).getLastD [] ≠ [35]) (hx : levelL m true = true) (hv : validL m = true) (hs : (a ++ 47 :: m).length ≤ 65535) :
    filterL (a ++ 47 :: m) = true := by
  unfold filterL at ha ⊢
  rw [Bool.and_eq_true, Bool.and_eq_true] at ha
  rw [levels_slash, hm, valid_slash _ _ hs, ha.1.2, hv, filterLv_snoc m _ (levelsL_ne a) ha.2 hl hx]
  cases a <;> rfl

/-- What covers, its last level no #: as many levels. -/
theorem covers_len : ∀ (A B : List Bs), filterLv A = true → (A ≠ [] → A.getLastD [] ≠ [35]) → coversLv A B = true → A.length = B.length
  | [], B, _, _, h => by
    cases B with
    | nil => rfl
    | cons => simp [coversLv] at h
  | x :: A, B, hf, hl, h => by
    rw [filterLv, Bool.and_eq_true] at hf
    have hx : (x == [35]) = false := by
      cases hx : x == [35] with
      | false => rfl
      | true =>
        rw [beq_iff_eq] at hx
        subst hx
        cases A with
        | nil => exact absurd rfl (hl (by simp))
        | cons z r => have h3 := hf.1; simp [levelL, plainL] at h3
    unfold coversLv at h
    rw [if_neg (by rw [hx]; simp)] at h
    cases B with
    | nil => simp at h
    | cons y B =>
      simp only at h
      split at h
      · simp at h
      · rw [Bool.and_eq_true] at h
        have := covers_len A B hf.2 (fun hne => by
          have := hl (by simp)
          cases A with
          | nil => exact absurd rfl hne
          | cons z r => simpa using this) h.2
        simp [this]
theorem coversLv_snoc (x y : Bs) (hxy : coversLv [x] [y] = true) : ∀ (A B : List Bs), A.length = B.length → coversLv A B = true → coversLv (A ++ [x]) (B ++ [y]) = true
  | [], [], _, _ => hxy
  | [], _ :: _, h, _ => by simp at h
  | _ :: _, [], h, _ => by simp at h
  | a :: A, b :: B, hl, h => by
    have ih := coversLv_snoc x y hxy A B (by simpa using hl)
    rw [List.cons_append, List.cons_append]
    unfold coversLv at h ⊢
    by_cases ha : (a == [35]) = true
    · rw [if_pos ha]
    · rw [if_neg ha] at h ⊢
      simp only at h ⊢
      by_cases hb : (b == [35]) = true
      · rw [if_pos hb] at h; simp at h
      · rw [if_neg hb, Bool.and_eq_true] at h
        rw [if_neg hb, h.1, ih h.2]; rfl
theorem coversLv_hash : ∀ (A B : List Bs), A.length = B.length → coversLv A B = true → coversLv (A ++ [[35]]) B = true
  | [], [], _, _ => rfl
  | [], _ :: _, h, _ => by simp at h
  | _ :: _, [], h, _ => by simp at h
  | a :: A, b :: B, hl, h => by
    have ih := coversLv_hash A B (by simpa using hl)
    rw [List.cons_append]
    unfold coversLv at h ⊢
    by_cases ha : (a == [35]) = true
    · rw [if_pos ha]
    · rw [if_neg ha] at h ⊢
      simp only at h ⊢
      by_cases hb : (b == [35]) = true
      · rw [if_pos hb] at h; simp at h
      · rw [if_neg hb, Bool.and_eq_true] at h
        rw [if_neg hb, h.1, ih h.2]; rfl
/-- What covers, its last level #: it covers what is longer. -/
theorem coversLv_more (y : Bs) : ∀ (A B : List Bs), A.getLastD [] = [35] → coversLv A B = true → coversLv A (B ++ [y]) = true
  | [], B, hl, _ => by simp at hl
  | a :: A, B, hl, h => by
    unfold coversLv at h ⊢
    by_cases ha : (a == [35]) = true
    · rw [if_pos ha]
    · rw [if_neg ha] at h ⊢
      cases B with
      | nil => simp at h
      | cons b B =>
        simp only [List.cons_append] at h ⊢
        by_cases hb : (b == [35]) = true
        · rw [if_pos hb] at h; simp at h
        · rw [if_neg hb, Bool.and_eq_true] at h
          have hne : A ≠ [] := by
            rintro rfl
            exact ha (by simpa using hl)
          have ih := coversLv_more y A B (by
            cases A with
            | nil => exact absurd rfl hne
            | cons z r => simpa using hl) h.2
          rw [if_neg hb, h.1, ih]; rfl

theorem levels_one {m : Bs} (h : (levelsL m).length = 1) : levelsL m = [m] := by
  have hj := joinL_levels m
  match hl : levelsL m, h with
  | [x], _ => rw [hl] at hj; rw [← hj]; rfl

/-- Everything that the law asks of a filter, a name and a level more. -/
theorem levels_law {a n m : Bs} (ha : a.length ≤ 1000) (hn : n.length ≤ 1000) (hm : m.length ≤ 100) (hM : matchL a n = true) (hN : nameL (n ++ 47 :: m) = true) (h1 : (levelsL m).length = 1) :
    ((levelsL a).getLastD [] = [35] → matchL a (n ++ 47 :: m) = true) ∧
    ((levelsL a).getLastD [] ≠ [35] → matchL (a ++ 47 :: m) (n ++ 47 :: m) = true ∧ matchL (a ++ [47, 43]) (n ++ 47 :: m) = true ∧ matchL (a ++ [47, 35]) n = true ∧ matchL a (n ++ 47 :: m) = false) := by
  have hm1 := levels_one h1
  unfold matchL at hM
  rw [Bool.and_eq_true] at hM
  obtain ⟨hnN, hC⟩ := hM
  unfold coversL at hC
  rw [Bool.and_eq_true, Bool.and_eq_true, Bool.and_eq_true] at hC
  obtain ⟨⟨⟨hfa, hfn⟩, hw⟩, hcv⟩ := hC
  have hne : n ≠ [] := by rintro rfl; simp [nameL] at hnN
  have hh := head?_slash n m hne
  have hfN := filter_of_name hN
  have hN' := hN
  unfold nameL at hN'
  rw [Bool.and_eq_true, Bool.and_eq_true, plain_slash, Bool.and_eq_true, valid_slash _ _ (by simp; omega), Bool.and_eq_true] at hN'
  have hpm := hN'.2.2
  have hvm := hN'.1.2.2
  have hfl : filterLv (levelsL a) = true := by
    unfold filterL at hfa
    rw [Bool.and_eq_true] at hfa
    exact hfa.2
  refine ⟨fun hl => ?_, fun hl => ?_⟩
  · unfold matchL coversL
    rw [hN, hfa, hfN, hh, hw, levels_slash, hm1, coversLv_more m _ _ hl hcv]; rfl
  · have hlen := covers_len _ _ hfl (fun _ => hl) hcv
    have hmm : coversLv [m] [m] = true := coversLv_self _
    have hpl : coversLv [[43]] [m] = true := by
      simp [coversLv, (plain_ne hpm).1]
    have f1 : filterL (a ++ 47 :: m) = true := filter_slash hfa hm1 hl (by unfold levelL; rw [hpm]; simp) hvm (by simp; omega)
    have f2 : filterL (a ++ 47 :: [43]) = true := filter_slash hfa rfl hl rfl (by kernel_rfl) (by simp; omega)
    have f3 : filterL (a ++ 47 :: [35]) = true := filter_slash hfa rfl hl rfl (by kernel_rfl) (by simp; omega)
    refine ⟨?_, ?_, ?_, ?_⟩
    · unfold matchL coversL
      rw [hN, f1, hfN, wild_slash, hh, hw, levels_slash, levels_slash, hm1, coversLv_snoc m m hmm _ _ hlen hcv]; rfl
    · unfold matchL coversL
      rw [hN, f2, hfN, wild_slash, hh, hw, levels_slash, levels_slash, hm1, show levelsL [43] = [[43]] from rfl, coversLv_snoc [43] m hpl _ _ hlen hcv]; rfl
    · unfold matchL coversL
      rw [hnN, f3, hfn, wild_slash, hw, levels_slash, show levelsL [35] = [[35]] from rfl, coversLv_hash _ _ hlen hcv]; rfl
    · cases hq : matchL a (n ++ 47 :: m) with
      | false => rfl
      | true =>
        unfold matchL coversL at hq
        rw [Bool.and_eq_true, Bool.and_eq_true, levels_slash, hm1] at hq
        have := covers_len _ _ hfl (fun _ => hl) hq.2.2
        simp at this
        omega
end Go.Proofs.YtkphaihbdmjogaaDoor
