/- A text's byte at a place. No condition; nothing of the program is named. -/
import Derived.Test.YtcghokbcjbbbhaaDoorJoinD
namespace Go.Proofs.YtcghokbcjbbbhaaDoor
open Go.RowKit
theorem at_bl (s : ByteArray) (k : Nat) (b : UInt8) (h : (bl s)[k]? = some b) : ∃ hk : k < s.size, s[k]'hk = b := by
  obtain ⟨hk, hb⟩ := List.getElem?_eq_some_iff.1 h
  have hk' : k < s.size := by rw [← bl_len]; exact hk
  have h2 := get_bl s k hk'
  rw [h] at h2
  injection h2 with h2
  exact ⟨hk', h2.symm⟩
theorem head_at {s : ByteArray} {A L R : Bs} {b : UInt8} {M : Bs} (hs : bl s = A ++ R) (h : A = L ++ b :: M) : ∃ hk : L.length < s.size, s[L.length]'hk = b := by
  apply at_bl
  rw [hs, h]
  simp
end Go.Proofs.YtcghokbcjbbbhaaDoor
