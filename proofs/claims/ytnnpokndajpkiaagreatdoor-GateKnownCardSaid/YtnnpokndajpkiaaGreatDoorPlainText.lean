import Derived.Lib.TrimUEq
import Derived.Lib.TrimU
import Derived.Lib.MapLaws
namespace Go.Proofs.YtnnpokndajpkiaaGreatDoor
open Go.Lib
def chrD (l : List UInt8) : Nat × Nat := if l = [] ∨ (decodeL l).1 = 0 ∨ ((decodeL l).1 = 65533 ∧ (decodeL l).2 = 1) then (0, 0) else decodeL l
def cntF : Nat → List UInt8 → Option Nat
  | 0, _ => some 0
  | f + 1, l => if l = [] then some 0 else if (chrD l).2 = 0 then none else (cntF f (l.drop (chrD l).2)).map (· + 1)
def cntO (l : List UInt8) : Option Nat := cntF l.length l
theorem cntF_fuel : ∀ (n m : Nat) (l : List UInt8), l.length ≤ n → l.length ≤ m → cntF n l = cntF m l
  | 0, m, l, hn, _ => by
    have : l = [] := List.eq_nil_of_length_eq_zero (by omega); subst this; cases m <;> simp [cntF]
  | n + 1, 0, l, _, hm => by
    have : l = [] := List.eq_nil_of_length_eq_zero (by omega); subst this; simp [cntF]
  | n + 1, m + 1, l, hn, hm => by
    simp only [cntF]; split
    · rfl
    · split
      · rfl
      · rw [cntF_fuel n m _ (by simp; omega) (by simp; omega)]
theorem cntO_nil : cntO [] = some 0 := rfl
theorem cntO_step (l : List UInt8) (h : l ≠ []) : cntO l = if (chrD l).2 = 0 then none else (cntO (l.drop (chrD l).2)).map (· + 1) := by
  unfold cntO; cases l with
  | nil => exact absurd rfl h
  | cons b t =>
    simp only [List.length_cons, cntF, if_neg h]; split
    · rfl
    · rw [cntF_fuel _ _ _ (by simp; omega) (Nat.le_refl _)]
def told (o : Option Nat) : Int := match o with | some k => k | none => -1
def countL (l : List UInt8) : Int := if l.length ≤ 65535 then told (cntO l) else -1
def validL (l : List UInt8) : Bool := decide (l.length ≤ 65535) && (cntO l).isSome
theorem told_nonneg (o : Option Nat) : decide (0 ≤ told o) = o.isSome := by
  cases o with
  | none => simp [told]
  | some k => simp [told]
theorem countL_valid (l : List UInt8) : decide (0 ≤ countL l) = validL l := by
  unfold countL validL; by_cases h : l.length ≤ 65535
  · rw [if_pos h, told_nonneg]; simp [h]
  · rw [if_neg h]; simp [h]
def cut (d : Nat × Nat) : Nat × Nat := if d.1 = 0 ∨ (d.1 = 65533 ∧ d.2 = 1) then (0, 0) else d
theorem cut_ok (c k : Nat) (h : c ≠ 0) (h2 : k ≠ 1 ∨ c < 65533) : cut (c, k) = (c, k) := by
  unfold cut; rw [if_neg]; simp only
  omega
end Go.Proofs.YtnnpokndajpkiaaGreatDoor
