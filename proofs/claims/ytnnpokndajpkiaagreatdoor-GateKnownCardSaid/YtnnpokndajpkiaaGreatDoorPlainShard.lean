import Derived.Test.YtnnpokndajpkiaaGreatDoorJoinA
namespace Go.Proofs.YtnnpokndajpkiaaGreatDoor
def prime : Nat := 1099511628211
def basis : Nat := 14695981039346656037
def two64 : Nat := 18446744073709551616
def hashB (h : Nat) (b : UInt8) : Nat := ((h ^^^ b.toNat) * prime) % two64
def hashFrom (h : Nat) (s : Bs) : Nat := s.foldl hashB h
def hashL (s : Bs) : Nat := hashFrom basis s
theorem hashB_lt (h : Nat) (b : UInt8) : hashB h b < two64 := Nat.mod_lt _ (by decide)
theorem hashFrom_lt : ∀ (s : Bs) (h : Nat), h < two64 → hashFrom h s < two64
  | [], h, hh => hh
  | b :: s, h, _ => hashFrom_lt s _ (hashB_lt h b)
theorem hashL_lt (s : Bs) : hashL s < two64 := hashFrom_lt s _ (by decide)
theorem hashFrom_append (h : Nat) (s t : Bs) : hashFrom h (s ++ t) = hashFrom (hashFrom h s) t := List.foldl_append ..
def restL (s : Bs) (n : Nat) : Nat := hashL s % n
def fewB (n : Int) : Bool := decide (1 ≤ n) && decide (n ≤ 64)
def homeL (s : Bs) (n : Int) : Int := if fewB n then (restL s n.toNat : Int) else -1
def gateL (c n : Int) : Int := if fewB n && decide (1 ≤ c) then (c - 1) % n else -1
end Go.Proofs.YtnnpokndajpkiaaGreatDoor
