/- Plain mathematics of topics: levels, names, filters, what covers what. No condition; no program. -/
import Derived.Test.YtkphaihbdmjogaaDoorPlainText
import Derived.Lib.SplitLaws
namespace Go.Proofs.YtkphaihbdmjogaaDoor
open Go.Lib

abbrev Bs := List UInt8
def bl (s : ByteArray) : Bs := s.data.toList

def consHead (b : UInt8) : List Bs → List Bs
  | x :: r => (b :: x) :: r
  | [] => [[b]]
def levelsL : Bs → List Bs
  | [] => [[]]
  | b :: t => if b = 47 then [] :: levelsL t else consHead b (levelsL t)

theorem consHead_ne (b : UInt8) (l : List Bs) : consHead b l ≠ [] := by cases l <;> simp [consHead]
theorem levelsL_ne : ∀ s : Bs, levelsL s ≠ []
  | [] => by simp [levelsL]
  | b :: t => by
    unfold levelsL
    split
    · simp
    · exact consHead_ne _ _

theorem consHead_len (b : UInt8) (l : List Bs) (h : l ≠ []) : (consHead b l).length = l.length := by
  cases l with
  | nil => exact absurd rfl h
  | cons x r => simp [consHead]
theorem levelsL_len : ∀ s : Bs, (levelsL s).length ≤ s.length + 1
  | [] => by simp [levelsL]
  | b :: t => by
    have ih := levelsL_len t
    unfold levelsL
    split
    · simp; omega
    · rw [consHead_len _ _ (levelsL_ne t)]; simp; omega
theorem levelsL_mem : ∀ (s x : Bs), x ∈ levelsL s → x.length ≤ s.length
  | [], x, h => by simp [levelsL] at h; subst h; simp
  | b :: t, x, h => by
    unfold levelsL at h
    split at h
    · rcases List.mem_cons.1 h with rfl | h
      · simp
      · have := levelsL_mem t x h; simp; omega
    · cases hl : levelsL t with
      | nil => exact absurd hl (levelsL_ne t)
      | cons y r =>
        rw [hl] at h
        rcases List.mem_cons.1 h with rfl | h
        · have := levelsL_mem t y (by rw [hl]; simp); simp; omega
        · have := levelsL_mem t x (by rw [hl]; simp [h]); simp; omega

theorem splitK_consHead (c b : UInt8) (h : b ≠ c) : ∀ (k : Nat) (t : Bs), splitK [c] 0 k (b :: t) = consHead b (splitK [c] 0 k t)
  | 0, t => rfl
  | k + 1, t => by
    unfold splitK
    have hp : ([c] : Bs).isPrefixOf (b :: t) = false := by
      simp [List.isPrefixOf]
      exact fun e => h e.symm
    have hi : index (b :: t) [c] = if index t [c] == -1 then -1 else index t [c] + 1 := by
      rw [index]; simp only [hp, Bool.false_eq_true, if_false]
    have hge := index_ge t [c]
    by_cases hm : index t [c] = -1
    · rw [hi, hm]; rfl
    · have hm' : (index t [c] == -1) = false := by simpa using hm
      rw [hi, hm']
      simp only [Bool.false_eq_true, if_false]
      have hn : (index t [c] + 1 == -1) = false := by
        rw [beq_eq_false_iff_ne]; omega
      rw [hn]
      simp only [Bool.false_eq_true, if_false]
      obtain ⟨i, hi⟩ := Int.eq_ofNat_of_zero_le (show 0 ≤ index t [c] by omega)
      rw [hi]
      have e : ((i : Int) + 1).toNat = i + 1 := by omega
      rw [e]
      simp [consHead]
theorem splitK_levels : ∀ s : Bs, splitK [47] 0 (count s [47]) s = levelsL s
  | [] => rfl
  | b :: t => by
    unfold levelsL
    by_cases h : b = 47
    · subst h
      rw [if_pos rfl, count_cons_eq, Nat.add_comm, splitK]
      have hi : index (47 :: t) [47] = 0 := by rw [index]; simp [List.isPrefixOf]
      rw [hi]
      simp only [show ((0 : Int) == -1) = false from rfl, Bool.false_eq_true, if_false]
      simp only [Int.toNat_zero, List.take_zero, Nat.zero_add, List.length_singleton, List.drop_one, List.tail_cons]
      rw [splitK_levels t]
    · rw [if_neg h, count_cons_ne _ _ _ h, splitK_consHead _ _ h, splitK_levels t]

/-- The last one of some texts, a byte longer. -/
def growLast (l : List Bs) (b : UInt8) : List Bs := l.dropLast ++ [l.getLastD [] ++ [b]]
theorem growLast_consHead (c b : UInt8) (l : List Bs) (h : l ≠ []) : growLast (consHead c l) b = consHead c (growLast l b) := by
  cases l with
  | nil => exact absurd rfl h
  | cons x r =>
    cases r with
    | nil => simp [growLast, consHead]
    | cons y t => simp [growLast, consHead, List.getLastD]
theorem levelsL_snoc : ∀ (p : Bs) (b : UInt8), levelsL (p ++ [b]) = if b = 47 then levelsL p ++ [[]] else growLast (levelsL p) b
  | [], b => by
    simp only [List.nil_append, levelsL]
    split
    · rfl
    · rfl
  | c :: t, b => by
    rw [List.cons_append, levelsL, levelsL_snoc t b]
    conv => rhs; rw [levelsL]
    by_cases hb : b = 47
    · rw [if_pos hb, if_pos hb]
      by_cases hc : c = 47
      · rw [if_pos hc, if_pos hc]; rfl
      · rw [if_neg hc, if_neg hc]
        cases hl : levelsL t with
        | nil => exact absurd hl (levelsL_ne t)
        | cons x r => rfl
    · rw [if_neg hb, if_neg hb]
      by_cases hc : c = 47
      · rw [if_pos hc, if_pos hc]
        cases hl : levelsL t with
        | nil => exact absurd hl (levelsL_ne t)
        | cons x r => simp [growLast, List.getLastD]
      · rw [if_neg hc, if_neg hc, growLast_consHead _ _ _ (levelsL_ne t)]

def plainL (s : Bs) : Bool := s.all fun b => !(b == 43 || b == 35)
def nameL (s : Bs) : Bool := !s.isEmpty && validL s && plainL s
def levelL (x : Bs) (last : Bool) : Bool := x == [43] || x == [35] && last || plainL x
def filterLv : List Bs → Bool
  | [] => true
  | x :: r => levelL x r.isEmpty && filterLv r
def filterL (s : Bs) : Bool := !s.isEmpty && validL s && filterLv (levelsL s)
def headL (s : Bs) : Bs := (levelsL s).headD []
def wildL (s : Bs) : Bool := headL s == [43] || headL s == [35]
def firstL (s : Bs) : Bs × Bool := if filterL s && !wildL s then (headL s, true) else ([], false)
def coversLv : List Bs → List Bs → Bool
  | [], b => b.isEmpty
  | x :: a, b =>
    if x == [35] then true else
    match b with
    | [] => false
    | y :: b => if y == [35] then false else (x == [43] || x == y) && coversLv a b
def coversL (a b : Bs) : Bool := filterL a && filterL b && !(wildL a && b.head? == some 36) && coversLv (levelsL a) (levelsL b)
def matchL (f n : Bs) : Bool := nameL n && coversL f n
def joinL : List Bs → Bs
  | [] => []
  | [x] => x
  | x :: y :: r => x ++ [47] ++ joinL (y :: r)
end Go.Proofs.YtkphaihbdmjogaaDoor
