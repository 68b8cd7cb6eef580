/- A word of its two bytes. No condition; nothing of the program is named. -/
import Derived.Test.YtcghokbcjbbbhaaDoorBase
import Derived.Laws.Bits64b
import Derived.Laws.BitsLemmas
namespace Go.Proofs.YtcghokbcjbbbhaaDoor
open Go.RowKit
theorem word_or (a : Nat) (ha : a < 256) (b : Nat) (hb : b < 256) : bits BinOp.or IntKind.i64 (wrap64 (wrap64 (a : Int) * 256)) (wrap64 (b : Int)) = ((a * 256 + b : Nat) : Int) := by
  have e1 : wrap64 (wrap64 (a : Int) * 256) = ((a * 256 : Nat) : Int) := by
    unfold wrap64
    omega
  have e2 : wrap64 (b : Int) = (b : Int) := by
    unfold wrap64
    omega
  rw [e1, e2]
  have h1 : (BitVec.ofInt 64 ((a * 256 : Nat) : Int)).toNat = a * 256 := by
    rw [BitVec.ofInt_natCast, BitVec.toNat_ofNat]; exact Nat.mod_eq_of_lt (by omega)
  have h2 : (BitVec.ofInt 64 (b : Int)).toNat = b := by
    rw [BitVec.ofInt_natCast, BitVec.toNat_ofNat]; exact Nat.mod_eq_of_lt (by omega)
  have h3 : a * 256 ||| b = a * 256 + b := by
    have := Nat.shiftLeft_add_eq_or_of_lt (i := 8) (b := b) (by omega) a
    rw [Nat.shiftLeft_eq] at this
    exact this.symm
  show IntKind.i64.wrap ((BitVec.ofInt 64 ((a * 256 : Nat) : Int) ||| BitVec.ofInt 64 (b : Int)).toNat : Int) = _
  rw [BitVec.toNat_or, h1, h2, h3]
  rw [IntKind.wrap_i64]
  omega
end Go.Proofs.YtcghokbcjbbbhaaDoor
