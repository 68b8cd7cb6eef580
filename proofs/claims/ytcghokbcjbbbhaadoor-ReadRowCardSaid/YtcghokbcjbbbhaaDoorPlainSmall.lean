/- Plain mathematics: the bytes of a packet that is not great are few. No program. -/
import Derived.Test.YtcghokbcjbbbhaaDoorJoinB
namespace Go.Proofs.YtcghokbcjbbbhaaDoor
theorem flat_small (t : Nat) : ∀ S : List Sb, (S.flatMap (subB t)).length ≤ (S.map (·.1.size)).sum + 3 * S.length
  | [] => Nat.le_refl _
  | x :: r => by
    have ih := flat_small t r
    rw [List.flatMap_cons, List.length_append, List.map_cons, List.sum_cons, List.length_cons]
    have : (subB t x).length ≤ x.1.size + 3 := by
      unfold subB
      rw [List.length_append, dataB_len]
      split <;> simp <;> omega
    omega
theorem rest_small {p : Pk} (h : Small p) : (restB p).length ≤ 10400 := by
  have hp := h.parts
  have hf := h.few
  unfold restB
  split
  · have hm : mqtt.size = 4 := rfl
    unfold connectB
    cases p.hasWill <;> cases p.hasUser <;> cases p.hasPass <;> simp [dataB_len, wordB, hm] <;> omega
  split
  · simp
  · have := flat_small p.ty p.subs
    unfold otherB
    by_cases h3 : p.ty = 3 <;> by_cases hi : p.id = 0 <;> simp [h3, hi, dataB_len, wordB, blen] at this ⊢ <;> omega
theorem enc_small {p : Pk} (h : Small p) : (encB p).length ≤ 10420 := by
  have h1 := rest_small h
  have h2 : restP p ≤ 268435455 := by unfold restP restOf; split <;> omega
  unfold encB
  rw [List.length_cons, List.length_append, lenB_len _ (by omega)]
  have : lenS (restP p).toNat ≤ 4 := by unfold lenS; (repeat' split) <;> omega
  omega
end Go.Proofs.YtcghokbcjbbbhaaDoor
