/- Plain mathematics of the hash and of the workers: the document's xor, bit by bit, is the xor; a hash of texts is that of them joined. No condition; no program. -/
import Derived.Test.YtnnggcaifbinbaaDoorPlainTopic
namespace Go.Proofs.YtnnggcaifbinbaaDoor

def prime : Nat := 1099511628211
def basis : Nat := 14695981039346656037
def two64 : Nat := 18446744073709551616
def hashB (h : Nat) (b : UInt8) : Nat := ((h ^^^ b.toNat) * prime) % two64
def hashFrom (h : Nat) (s : Bs) : Nat := s.foldl hashB h
def hashL (s : Bs) : Nat := hashFrom basis s
theorem hashB_lt (h : Nat) (b : UInt8) : hashB h b < two64 := Nat.mod_lt _ (by decide)
theorem hashFrom_lt : ∀ (s : Bs) (h : Nat), h < two64 → hashFrom h s < two64
  | [], h, hh => hh
  | b :: s, h, _ => hashFrom_lt s _ (hashB_lt h b)
theorem hashL_lt (s : Bs) : hashL s < two64 := hashFrom_lt s _ (by decide)
theorem hashFrom_append (h : Nat) (s t : Bs) : hashFrom h (s ++ t) = hashFrom (hashFrom h s) t := List.foldl_append ..
theorem hashFrom_cons (h : Nat) (b : UInt8) (t : Bs) : hashFrom h (b :: t) = hashFrom (hashB h b) t := rfl

/-- The xor of two numbers, of its first k bits. -/
theorem xor_bits (x y k : Nat) : (x ^^^ y) % 2 ^ (k + 1) = (x ^^^ y) % 2 ^ k + (if x / 2 ^ k % 2 = y / 2 ^ k % 2 then 0 else 2 ^ k) := by
  rw [Nat.pow_succ, Nat.mod_mul]
  congr 1
  have h1 : (x ^^^ y) / 2 ^ k % 2 = if x / 2 ^ k % 2 = y / 2 ^ k % 2 then 0 else 1 := by
    have hb : (x ^^^ y).testBit k = (x.testBit k ^^ y.testBit k) := Nat.testBit_xor ..
    rw [Nat.testBit_eq_decide_div_mod_eq, Nat.testBit_eq_decide_div_mod_eq, Nat.testBit_eq_decide_div_mod_eq] at hb
    have hx : x / 2 ^ k % 2 < 2 := Nat.mod_lt _ (by decide)
    have hy : y / 2 ^ k % 2 < 2 := Nat.mod_lt _ (by decide)
    have hz : (x ^^^ y) / 2 ^ k % 2 < 2 := Nat.mod_lt _ (by decide)
    generalize x / 2 ^ k % 2 = a at *
    generalize y / 2 ^ k % 2 = b at *
    generalize (x ^^^ y) / 2 ^ k % 2 = c at *
    match a, hx, b, hy, c, hz with
    | 0, _, 0, _, 0, _ => rfl
    | 0, _, 1, _, 1, _ => rfl
    | 1, _, 0, _, 1, _ => rfl
    | 1, _, 1, _, 0, _ => rfl
    | 0, _, 0, _, 1, _ => simp at hb
    | 0, _, 1, _, 0, _ => simp at hb
    | 1, _, 0, _, 0, _ => simp at hb
    | 1, _, 1, _, 1, _ => simp at hb
  rw [h1]
  split <;> simp
/-- A number whose low byte is taken out, and the xor of that byte put back. -/
theorem xor_low (h b : Nat) (hb : b < 256) : h - h % 256 + ((h % 256) ^^^ b) % 256 = h ^^^ b := by
  have hl : (h % 256) ^^^ b < 256 := Nat.xor_lt_two_pow (n := 8) (Nat.mod_lt _ (by decide)) hb
  rw [Nat.mod_eq_of_lt hl]
  have e1 : (h ^^^ b) % 256 = (h % 256) ^^^ b := by
    have := Nat.xor_mod_two_pow (a := h) (b := b) (n := 8)
    rw [show (2 : Nat) ^ 8 = 256 from rfl] at this
    rw [this, Nat.mod_eq_of_lt hb]
  have e2 : (h ^^^ b) / 256 = h / 256 := by
    have := Nat.xor_div_two_pow (a := h) (b := b) (n := 8)
    rw [show (2 : Nat) ^ 8 = 256 from rfl] at this
    rw [this, Nat.div_eq_of_lt hb, Nat.xor_zero]
  have h1 := Nat.div_add_mod h 256
  have h2 := Nat.div_add_mod (h ^^^ b) 256
  rw [e1, e2] at h2
  omega

def restL (s : Bs) (n : Nat) : Nat := hashL s % n
def fewB (n : Int) : Bool := decide (1 ≤ n) && decide (n ≤ 64)
def homeL (s : Bs) (n : Int) : Int := if fewB n then (restL s n.toNat : Int) else -1
def gateL (c n : Int) : Int := if fewB n && decide (1 ≤ c) then (c - 1) % n else -1
def hubL (s : Bs) (n : Int) : Int := if fewB n && nameL s then (restL (headL s) n.toNat : Int) else -1
def hubsL (s : Bs) (n : Int) : List Nat :=
  if fewB n && filterL s then (if wildL s then List.range n.toNat else [restL (headL s) n.toNat]) else []
end Go.Proofs.YtnnggcaifbinbaaDoor
