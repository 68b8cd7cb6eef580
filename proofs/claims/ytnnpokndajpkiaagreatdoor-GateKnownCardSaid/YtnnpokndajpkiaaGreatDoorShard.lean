import Derived.Test.YtnnpokndajpkiaaGreatDoorJoinI
import Derived.Test.YtnnpokndajpkiaaGreatDoorJoinA
import Derived.Laws.EntriesVeiled
import Derived.StillTailTactics
import Derived.Test.YtnnpokndajpkiaaGreatDoorPlainShard
namespace Go.Proofs.YtnnpokndajpkiaaGreatDoor
open Go.RowKit
def catL (A : List ByteArray) : Bs := (A.map bl).flatten
theorem hash_round (h : Nat) (b : UInt8) (hh : h < 18446744073709551616) : IntKind.u64.wrap (bits .xor .u64 (h : Int) (b.toNat : Int) * 1099511628211) = ((hashB h b : Nat) : Int) := by
  have hb := b.toNat_lt; rw [u64_xor_nat h b.toNat hh (by omega), IntKind.wrap_u64]; unfold hashB prime two64; rw [Int.natCast_emod, Int.natCast_mul]; rfl
theorem shard_Hash (a : Option Addr) (c : Nat) (A : List ByteArray) (w : World) (hA : A.length ≤ 9223372036854775807) (hs : ∀ x ∈ A, x.size ≤ 9223372036854775807) (ha : CellsA w a (A.map Value.string)) :
    Calls Tryz.prog 101 #[.slice a A.length c] w fun e w' => e = .returned (.int .u64 (hashL (catL A) : Nat)) ∧ w = w' := by
  have fin : ∀ (n : Nat) (w' : World), hashL (catL A) = n → w = w' → Ending.returned (.int .u64 (n : Int)) = .returned (.int .u64 (hashL (catL A) : Nat)) ∧ w = w' := by
    rintro n w' rfl rfl; exact ⟨rfl, rfl⟩
  have FIN := Lib.hid fin; clear fin; have HS := Lib.hid hs; clear hs; go_enter Tryz.func101, Tryz.ntmps101
  go_wp2_with fail
  go_loopw [3, 9] (fun h i wr => ∃ k n : Nat, k ≤ A.length ∧ i = .int .i64 k ∧ h = .int .u64 n ∧ n < 18446744073709551616 ∧ Hid (hashFrom n (catL (A.drop k)) = hashL (catL A)) ∧ w = wr) (fun _ i _ => A.length - (intOf i).toNat)
  case atStart => exact ⟨0, basis, by omega, rfl, rfl, by decide, rfl, rfl⟩
  case round =>
    obtain ⟨k, n, hk, rfl, rfl, hn, HP, rfl⟩ := hrel; by_cases hlt : k < A.length
    · obtain ⟨x, hx⟩ : ∃ x, A[k]? = some x := ⟨_, List.getElem?_eq_getElem hlt⟩
      obtain ⟨b, o, rfl, hcell⟩ := ha.text hx; have hxs := HS.out x (List.mem_of_getElem? hx); have hc : catL (A.drop k) = bl x ++ catL (A.drop (k + 1)) := by
        obtain ⟨h2, h3⟩ := List.getElem?_eq_some_iff.1 hx; rw [List.drop_eq_getElem_cons h2, h3]; simp [catL]
      have HQ := Lib.hid (show hashFrom (hashFrom n (bl x)) (catL (A.drop (k + 1))) = hashL (catL A) by rw [← hashFrom_append, ← hc, HP.out]); clear hc hx; go_wp2_with fail
      go_loopw [3, 6, 15] (fun h _ i wr => ∃ j m : Nat, j ≤ x.size ∧ i = .int .i64 j ∧ h = .int .u64 m ∧ m < 18446744073709551616 ∧ Hid (hashFrom m ((bl x).drop j) = hashFrom n (bl x)) ∧ w = wr) (fun _ _ i _ => x.size - (intOf i).toNat)
      case atStart => exact ⟨0, n, by omega, rfl, rfl, hn, rfl, rfl⟩
      case round =>
        obtain ⟨j, m, hj, rfl, rfl, hm, HM, rfl⟩ := hrel; by_cases hjt : j < x.size
        · have hd : (bl x).drop j = (x[j]'hjt) :: (bl x).drop (j + 1) := List.drop_eq_getElem_cons (by rw [bl_len]; exact hjt)
          obtain ⟨y, hy⟩ : ∃ y, x[j]'hjt = y := ⟨_, rfl⟩
          rw [hy] at hd; have HN := Lib.hid (show hashFrom (hashB m y) ((bl x).drop (j + 1)) = hashFrom n (bl x) by rw [← HM.out, hd]; rfl); clear hd; have hr := hash_round m y hm; have hlt2 := hashB_lt m y; unfold two64 at hlt2; have hyb := y.toNat_lt; go_wp2_with fail
          go_roundw
          case rel => exact ⟨j + 1, hashB m y, by omega, by first | rfl | (rw [Int.natCast_add]; rfl) | trivial, by first | rfl | (exact congrArg (Value.int .u64) hr) | trivial, hlt2, HN, by first | rfl | trivial⟩
          all_goals (try (simp only [intOf]; omega))
        · have : j = x.size := by omega
          subst this; have HE := Lib.hid (show m = hashFrom n (bl x) by rw [← HM.out, List.drop_eq_nil_of_le (by rw [bl_len]; exact Nat.le_refl _)]; rfl); clear HM; go_wp2_with fail
          go_roundw
          case rel => exact ⟨k + 1, m, by omega, by first | rfl | (rw [Int.natCast_add]; rfl) | trivial, by first | rfl | trivial, hm, by rw [HE.out]; exact HQ.out, by first | rfl | trivial⟩
          all_goals (try (simp only [intOf]; omega))
    · have : k = A.length := by omega
      subst this; go_wp2_with fail
      go_ret
      exact FIN.out _ _ (by rw [← HP.out, List.drop_eq_nil_of_le (Nat.le_refl _)]; rfl) rfl
end Go.Proofs.YtnnpokndajpkiaaGreatDoor
