/- Plain mathematics of the hash: of two texts that differ in one byte it is another one. No condition; no program. -/
import Derived.Test.YtnnggcaifbinbaaDoorPlainShard
namespace Go.Proofs.YtnnggcaifbinbaaDoor

def inv64 : Nat := 14886173955864302971
theorem prime_back (x : Nat) (h : x < two64) : ((x * prime) % two64 * inv64) % two64 = x := by
  rw [Nat.mod_mul_mod, Nat.mul_assoc, show prime * inv64 = 1 + 887285111055 * two64 by decide, Nat.mul_add, Nat.mul_one, ← Nat.mul_assoc, Nat.add_mul_mod_self_right, Nat.mod_eq_of_lt h]
theorem xor_lt64 {h : Nat} (b : UInt8) (hh : h < two64) : h ^^^ b.toNat < two64 :=
  Nat.xor_lt_two_pow (n := 64) hh (Nat.lt_trans b.toNat_lt (by decide))
theorem hashB_xor {h1 h2 : Nat} {b1 b2 : UInt8} (l1 : h1 < two64) (l2 : h2 < two64) (e : hashB h1 b1 = hashB h2 b2) : h1 ^^^ b1.toNat = h2 ^^^ b2.toNat := by
  unfold hashB at e
  rw [← prime_back _ (xor_lt64 b1 l1), e, prime_back _ (xor_lt64 b2 l2)]
theorem xor_right_cancel {a b c : Nat} (h : a ^^^ c = b ^^^ c) : a = b := by
  have := congrArg (· ^^^ c) h
  simpa [Nat.xor_assoc] using this
theorem xor_left_cancel {a b c : Nat} (h : c ^^^ a = c ^^^ b) : a = b := by
  rw [Nat.xor_comm c, Nat.xor_comm c] at h
  exact xor_right_cancel h
theorem hashFrom_inj : ∀ (s : Bs) (h1 h2 : Nat), h1 < two64 → h2 < two64 → hashFrom h1 s = hashFrom h2 s → h1 = h2
  | [], _, _, _, _, h => h
  | b :: s, h1, h2, l1, l2, h => by
    rw [hashFrom_cons, hashFrom_cons] at h
    have h := hashFrom_inj s _ _ (hashB_lt h1 b) (hashB_lt h2 b) h
    exact xor_right_cancel (hashB_xor l1 l2 h)
theorem hash_turn (p q : Bs) (b c : UInt8) : hashL (p ++ c :: q) = hashL (p ++ b :: q) ↔ c = b := by
  constructor
  · intro h
    unfold hashL at h
    rw [hashFrom_append, hashFrom_append, hashFrom_cons, hashFrom_cons] at h
    have hp : hashFrom basis p < two64 := hashFrom_lt p _ (by decide)
    have h := hashFrom_inj q _ _ (hashB_lt _ c) (hashB_lt _ b) h
    exact UInt8.toNat_inj.1 (xor_left_cancel (hashB_xor hp hp h))
  · rintro rfl; rfl
/-- A byte turned by another one, as the machine does it. -/
theorem hash_set (s : Bs) (k : Nat) (b : UInt8) (hk : s[k]? = some b) (by_ : UInt8) : (hashL (s.set k (b ^^^ by_)) == hashL s) = (by_ == 0) := by
  obtain ⟨h1, h2⟩ := List.getElem?_eq_some_iff.1 hk
  have e1 : s = s.take k ++ b :: s.drop (k + 1) := by
    conv => lhs; rw [← List.take_append_drop k s, List.drop_eq_getElem_cons h1, h2]
  have e2 : s.set k (b ^^^ by_) = s.take k ++ (b ^^^ by_) :: s.drop (k + 1) := by
    rw [List.set_eq_take_append_cons_drop, if_pos h1]
  rw [Bool.eq_iff_iff, beq_iff_eq, beq_iff_eq, e2]
  conv => lhs; rhs; rw [e1]
  rw [hash_turn]
  constructor
  · intro h
    have h := congrArg UInt8.toNat h
    rw [UInt8.toNat_xor] at h
    have h : b.toNat ^^^ by_.toNat = b.toNat ^^^ 0 := by simpa using h
    exact UInt8.toNat_inj.1 (xor_left_cancel h)
  · rintro rfl; simp
end Go.Proofs.YtnnggcaifbinbaaDoor
