import Derived.Lib.TrimUEq
import Derived.Lib.TrimU
import Derived.Lib.MapLaws
namespace Go.Proofs.YtnnpokndajpkiaaDoor
open Go.Lib
def chrD (l : List UInt8) : Nat × Nat := if l = [] ∨ (decodeL l).1 = 0 ∨ ((decodeL l).1 = 65533 ∧ (decodeL l).2 = 1) then (0, 0) else decodeL l
theorem chrD_le (l : List UInt8) : (chrD l).2 ≤ l.length := by
  unfold chrD; split
  · simp
  · rename_i h
    have h : l ≠ [] := fun e => h (Or.inl e)
    exact decodeL_le l h
def cntF : Nat → List UInt8 → Option Nat
  | 0, _ => some 0
  | f + 1, l => if l = [] then some 0 else if (chrD l).2 = 0 then none else (cntF f (l.drop (chrD l).2)).map (· + 1)
def cntO (l : List UInt8) : Option Nat := cntF l.length l
theorem cntF_fuel : ∀ (n m : Nat) (l : List UInt8), l.length ≤ n → l.length ≤ m → cntF n l = cntF m l
  | 0, m, l, hn, _ => by
    have : l = [] := List.eq_nil_of_length_eq_zero (by omega); subst this; cases m <;> simp [cntF]
  | n + 1, 0, l, _, hm => by
    have : l = [] := List.eq_nil_of_length_eq_zero (by omega); subst this; simp [cntF]
  | n + 1, m + 1, l, hn, hm => by
    simp only [cntF]; split
    · rfl
    · split
      · rfl
      · rw [cntF_fuel n m _ (by simp; omega) (by simp; omega)]
theorem cntO_nil : cntO [] = some 0 := rfl
theorem cntO_step (l : List UInt8) (h : l ≠ []) : cntO l = if (chrD l).2 = 0 then none else (cntO (l.drop (chrD l).2)).map (· + 1) := by
  unfold cntO; cases l with
  | nil => exact absurd rfl h
  | cons b t =>
    simp only [List.length_cons, cntF, if_neg h]; split
    · rfl
    · rw [cntF_fuel _ _ _ (by simp; omega) (Nat.le_refl _)]
def told (o : Option Nat) : Int := match o with | some k => k | none => -1
def countL (l : List UInt8) : Int := if l.length ≤ 65535 then told (cntO l) else -1
def validL (l : List UInt8) : Bool := decide (l.length ≤ 65535) && (cntO l).isSome
theorem told_nonneg (o : Option Nat) : decide (0 ≤ told o) = o.isSome := by
  cases o with
  | none => simp [told]
  | some k => simp [told]
theorem countL_valid (l : List UInt8) : decide (0 ≤ countL l) = validL l := by
  unfold countL validL; by_cases h : l.length ≤ 65535
  · rw [if_pos h, told_nonneg]; simp [h]
  · rw [if_neg h]; simp [h]
def szB (c : Nat) : Nat := if c < 128 then 1 else if 192 ≤ c ∧ c < 224 then 2 else if 224 ≤ c ∧ c < 240 then 3 else if 240 ≤ c ∧ c < 248 then 4 else 0
def chrN (n b0 b1 b2 b3 : Nat) : Nat × Nat :=
  if b0 < 128 then (if b0 < 1 then (0, 0) else (b0, 1))
  else if 192 ≤ b0 ∧ b0 < 224 then
    (if n < 2 ∨ b1 < 128 ∨ 191 < b1 ∨ 64 * (b0 - 192) + b1 - 128 < 128 then (0, 0) else (64 * (b0 - 192) + b1 - 128, 2))
  else if 224 ≤ b0 ∧ b0 < 240 then
    (if n < 3 ∨ b1 < 128 ∨ 191 < b1 ∨ b2 < 128 ∨ 191 < b2 ∨ 64 * (64 * (b0 - 224) + b1 - 128) + b2 - 128 < 2048 ∨ (55296 ≤ 64 * (64 * (b0 - 224) + b1 - 128) + b2 - 128 ∧ 64 * (64 * (b0 - 224) + b1 - 128) + b2 - 128 ≤ 57343) then (0, 0)
     else (64 * (64 * (b0 - 224) + b1 - 128) + b2 - 128, 3))
  else if 240 ≤ b0 ∧ b0 < 248 then
    (if n < 4 ∨ b1 < 128 ∨ 191 < b1 ∨ b2 < 128 ∨ 191 < b2 ∨ b3 < 128 ∨ 191 < b3 ∨ 64 * (64 * (64 * (b0 - 240) + b1 - 128) + b2 - 128) + b3 - 128 < 65536 ∨ 1114111 < 64 * (64 * (64 * (b0 - 240) + b1 - 128) + b2 - 128) + b3 - 128 then (0, 0)
     else (64 * (64 * (64 * (b0 - 240) + b1 - 128) + b2 - 128) + b3 - 128, 4))
  else (0, 0)
def cut (d : Nat × Nat) : Nat × Nat := if d.1 = 0 ∨ (d.1 = 65533 ∧ d.2 = 1) then (0, 0) else d
theorem cut_ok (c k : Nat) (h : c ≠ 0) (h2 : k ≠ 1 ∨ c < 65533) : cut (c, k) = (c, k) := by
  unfold cut; rw [if_neg]; simp only
  omega
set_option maxRecDepth 100000 in
set_option maxHeartbeats 4000000 in
theorem chrN_eq (n b0 b1 b2 b3 : Nat) (_hn : 1 ≤ n) (h0 : b0 < 256) (h1 : b1 < 256) (h2 : b2 < 256) (h3 : b3 < 256) :
    chrN n b0 b1 b2 b3 = cut (decodeN n b0 b1 b2 b3) := by
  by_cases c1 : b0 < 128
  · unfold decodeN chrN
    rw [if_pos c1, if_pos c1]; split
    · have : b0 = 0 := by omega
      subst this; rfl
    · rw [cut_ok _ _ (by omega) (by omega)]
  by_cases c2 : 192 ≤ b0 ∧ b0 < 224
  · have e : 64 * (b0 - 192) + b1 - 128 = b0 % 32 * 64 + b1 % 64 ∨ b1 < 128 ∨ 191 < b1 := by omega
    by_cases d : 1 < n ∧ b1 / 64 = 2
    · by_cases g : b0 % 32 * 64 + b1 % 64 ≥ 128
      · have hd : decodeN n b0 b1 b2 b3 = (b0 % 32 * 64 + b1 % 64, 2) := by
          unfold decodeN; rw [if_neg c1, if_pos ⟨by omega, d⟩, if_pos g]
        have hr : chrN n b0 b1 b2 b3 = (64 * (b0 - 192) + b1 - 128, 2) := by
          unfold chrN; rw [if_neg c1, if_pos c2, if_neg (by omega)]
        rw [hd, hr, cut_ok _ _ (by omega) (by omega)]; apply Prod.ext <;> simp only <;> omega
      · have hd : decodeN n b0 b1 b2 b3 = (65533, 1) := by
          unfold decodeN; rw [if_neg c1, if_pos ⟨by omega, d⟩, if_neg g]
        have hr : chrN n b0 b1 b2 b3 = (0, 0) := by
          unfold chrN; rw [if_neg c1, if_pos c2, if_pos (by omega)]
        rw [hd, hr]; rfl
    · have hd : decodeN n b0 b1 b2 b3 = (65533, 1) := by
        unfold decodeN; rw [if_neg c1, if_neg (by omega), if_neg (by omega), if_neg (by omega)]
      have hr : chrN n b0 b1 b2 b3 = (0, 0) := by
        unfold chrN; rw [if_neg c1, if_pos c2, if_pos (by omega)]
      rw [hd, hr]; rfl
  by_cases c3 : 224 ≤ b0 ∧ b0 < 240
  · have e : 64 * (64 * (b0 - 224) + b1 - 128) + b2 - 128 = b0 % 16 * 4096 + b1 % 64 * 64 + b2 % 64 ∨ b1 < 128 ∨ 191 < b1 ∨ b2 < 128 ∨ 191 < b2 := by omega
    by_cases d : (1 < n ∧ b1 / 64 = 2) ∧ (2 < n ∧ b2 / 64 = 2)
    · by_cases g : b0 % 16 * 4096 + b1 % 64 * 64 + b2 % 64 ≥ 2048 ∧ (b0 % 16 * 4096 + b1 % 64 * 64 + b2 % 64 < 55296 ∨ (57344 ≤ b0 % 16 * 4096 + b1 % 64 * 64 + b2 % 64 ∧ b0 % 16 * 4096 + b1 % 64 * 64 + b2 % 64 ≤ 1114111))
      · have hd : decodeN n b0 b1 b2 b3 = (b0 % 16 * 4096 + b1 % 64 * 64 + b2 % 64, 3) := by
          unfold decodeN; rw [if_neg c1, if_neg (by omega), if_pos ⟨by omega, d⟩, if_pos g]
        have hr : chrN n b0 b1 b2 b3 = (64 * (64 * (b0 - 224) + b1 - 128) + b2 - 128, 3) := by
          unfold chrN; rw [if_neg c1, if_neg c2, if_pos c3, if_neg (by omega)]
        rw [hd, hr, cut_ok _ _ (by omega) (by omega)]; apply Prod.ext <;> simp only <;> omega
      · have hd : decodeN n b0 b1 b2 b3 = (65533, 1) := by
          unfold decodeN; rw [if_neg c1, if_neg (by omega), if_pos ⟨by omega, d⟩, if_neg g]
        have hr : chrN n b0 b1 b2 b3 = (0, 0) := by
          unfold chrN; rw [if_neg c1, if_neg c2, if_pos c3, if_pos (by omega)]
        rw [hd, hr]; rfl
    · have hd : decodeN n b0 b1 b2 b3 = (65533, 1) := by
        unfold decodeN; rw [if_neg c1, if_neg (by omega), if_neg (fun h => d ⟨h.2.1, h.2.2⟩), if_neg (by omega)]
      have hr : chrN n b0 b1 b2 b3 = (0, 0) := by
        unfold chrN; rw [if_neg c1, if_neg c2, if_pos c3, if_pos (by omega)]
      rw [hd, hr]; rfl
  by_cases c4 : 240 ≤ b0 ∧ b0 < 248
  · have e : 64 * (64 * (64 * (b0 - 240) + b1 - 128) + b2 - 128) + b3 - 128 = b0 % 8 * 262144 + b1 % 64 * 4096 + b2 % 64 * 64 + b3 % 64 ∨ b1 < 128 ∨ 191 < b1 ∨ b2 < 128 ∨ 191 < b2 ∨ b3 < 128 ∨ 191 < b3 := by omega
    by_cases d : (1 < n ∧ b1 / 64 = 2) ∧ (2 < n ∧ b2 / 64 = 2) ∧ (3 < n ∧ b3 / 64 = 2)
    · by_cases g : b0 % 8 * 262144 + b1 % 64 * 4096 + b2 % 64 * 64 + b3 % 64 ≥ 65536 ∧ (b0 % 8 * 262144 + b1 % 64 * 4096 + b2 % 64 * 64 + b3 % 64 < 55296 ∨ (57344 ≤ b0 % 8 * 262144 + b1 % 64 * 4096 + b2 % 64 * 64 + b3 % 64 ∧ b0 % 8 * 262144 + b1 % 64 * 4096 + b2 % 64 * 64 + b3 % 64 ≤ 1114111))
      · have hd : decodeN n b0 b1 b2 b3 = (b0 % 8 * 262144 + b1 % 64 * 4096 + b2 % 64 * 64 + b3 % 64, 4) := by
          unfold decodeN; rw [if_neg c1, if_neg (by omega), if_neg (by omega), if_pos ⟨by omega, d⟩, if_pos g]
        have hr : chrN n b0 b1 b2 b3 = (64 * (64 * (64 * (b0 - 240) + b1 - 128) + b2 - 128) + b3 - 128, 4) := by
          unfold chrN; rw [if_neg c1, if_neg c2, if_neg c3, if_pos c4, if_neg (by omega)]
        rw [hd, hr, cut_ok _ _ (by omega) (by omega)]; apply Prod.ext <;> simp only <;> omega
      · have hd : decodeN n b0 b1 b2 b3 = (65533, 1) := by
          unfold decodeN; rw [if_neg c1, if_neg (by omega), if_neg (by omega), if_pos ⟨by omega, d⟩, if_neg g]
        have hr : chrN n b0 b1 b2 b3 = (0, 0) := by
          unfold chrN; rw [if_neg c1, if_neg c2, if_neg c3, if_pos c4, if_pos (by omega)]
        rw [hd, hr]; rfl
    · have hd : decodeN n b0 b1 b2 b3 = (65533, 1) := by
        unfold decodeN; rw [if_neg c1, if_neg (by omega), if_neg (by omega), if_neg (fun h => d h.2)]
      have hr : chrN n b0 b1 b2 b3 = (0, 0) := by
        unfold chrN; rw [if_neg c1, if_neg c2, if_neg c3, if_pos c4, if_pos (by omega)]
      rw [hd, hr]; rfl
  · have hd : decodeN n b0 b1 b2 b3 = (65533, 1) := by
      unfold decodeN; rw [if_neg c1, if_neg (by omega), if_neg (by omega)]; split
      · rw [if_neg (by omega)]
      · rfl
    have hr : chrN n b0 b1 b2 b3 = (0, 0) := by
      unfold chrN; rw [if_neg c1, if_neg c2, if_neg c3, if_neg c4]
    rw [hd, hr]; rfl
def bN (l : List UInt8) (k : Nat) : Nat := (l.getD k 0).toNat
theorem bN_lt (l : List UInt8) (k : Nat) : bN l k < 256 := (l.getD k 0).toNat_lt
theorem chrD_N (l : List UInt8) (h : l ≠ []) : chrD l = chrN l.length (bN l 0) (bN l 1) (bN l 2) (bN l 3) := by
  have hl : 1 ≤ l.length := by cases l with | nil => exact absurd rfl h | cons => simp
  rw [chrN_eq _ _ _ _ _ hl (bN_lt _ _) (bN_lt _ _) (bN_lt _ _) (bN_lt _ _)]; unfold chrD bN cut; rw [decodeL_N]; simp only [h, false_or]
end Go.Proofs.YtnnpokndajpkiaaDoor
