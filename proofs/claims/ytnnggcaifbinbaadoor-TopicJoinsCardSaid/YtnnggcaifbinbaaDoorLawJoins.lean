/- The walk of TopicJoins. Conditions: the slice's texts lie in its cells, its capacity is no smaller than its length; the decoder's tables lie as Go lays them. -/
import Derived.Test.YtnnggcaifbinbaaDoorRefJoin
namespace Go.Proofs.YtnnggcaifbinbaaDoor
open Go.RowKit

def sumL (L : List ByteArray) : Nat := (L.map ByteArray.size).sum
theorem joinL_len : ∀ L : List ByteArray, (joinL (L.map bl)).length ≤ sumL L + L.length
  | [] => by simp [joinL]
  | [x] => by simp [joinL, sumL, bl_len]
  | x :: y :: r => by
    have ih := joinL_len (y :: r)
    simp only [List.map_cons, joinL, List.length_append, List.length_singleton, bl_len, sumL, List.sum_cons, List.length_cons, List.length_nil] at ih ⊢
    omega

set_option maxRecDepth 100000 in
theorem law07_TopicJoins (a : Option Addr) (c : Nat) (L : List ByteArray) (w : World) (hE : Env w) (hc : L.length ≤ c) (hN : L.length ≤ 140737488355328) (hz : ∀ x ∈ L, x.size ≤ 140737488355328) (ha : CellsA w a (L.map Value.string)) :
    Calls Tryd.prog 12 #[.slice a L.length c] w fun e w' => e = .returned (.bool true) ∧ Below w.heap.size w w' := by
  go_enter Tryd.func12, Tryd.ntmps12
  go_wp2_with fail
  go_loopw [3, 4] (fun n i wr => ∃ (k t : Nat), k ≤ L.length ∧ i = .int .i64 k ∧ n = .int .i64 t ∧ t ≤ 3000 ∧ k ≤ 100 ∧ Hid (sumL (L.take k) = t) ∧ w = wr) (fun _ i _ => L.length - (intOf i).toNat)
  case atStart => exact ⟨0, 0, by omega, rfl, rfl, by omega, by omega, rfl, rfl⟩
  case round =>
    obtain ⟨k, t, hk, rfl, rfl, ht, hk100, HP, rfl⟩ := hrel
    by_cases hlt : k < L.length
    · obtain ⟨x, hx⟩ : ∃ x, L[k]? = some x := ⟨_, List.getElem?_eq_getElem hlt⟩
      obtain ⟨b, o, rfl, hcell⟩ := ha.text hx
      have hxz := hz x (List.mem_of_getElem? hx)
      have HT := Lib.hid (show sumL (L.take (k + 1)) = t + x.size by
        rw [List.take_add_one, hx, ← HP.out]; simp [sumL])
      clear hx
      by_cases c1 : (3000 : Int) < (t : Int) + (x.size : Int)
      · go_wp2_with (first
          | (go_at_call 15; refine (law07_awake _ hE).mono ?_; rintro e w1 ⟨rfl, hb1⟩))
        go_ret
        exact ⟨rfl, hb1⟩
      · by_cases c2 : (100 : Int) ≤ (k : Int)
        · go_wp2_with (first
            | (go_at_call 15; refine (law07_awake _ hE).mono ?_; rintro e w1 ⟨rfl, hb1⟩))
          go_ret
          exact ⟨rfl, hb1⟩
        · go_wp2_with fail
          go_roundw
          case rel => exact ⟨k + 1, t + x.size, by omega, by go_num, by go_num, by omega, by omega, HT.out, by first | rfl | trivial⟩
          case measure => simp [intOf]; omega
    · have : k = L.length := by omega
      subst this
      have hj := joinL_len L
      have h1 := HP.out
      rw [List.take_length] at h1
      have hJ := Lib.hid (topic_Join a c L w hc ha hN (by omega))
      have hR := Lib.hid (fun w1 (h : CellsA w1 a (L.map Value.string)) => ref07_Join a c L w1 hN h (by omega))
      clear h1 hj
      generalize joinL (L.map bl) = J at *
      have e3 := eqTwo ⟨J.toArray⟩ ⟨J.toArray⟩ true (beq_self_eq_true _)
      go_wp2_with (first
        | (go_at_call 45; refine Calls.mono hJ.out ?_; rintro e w1 ⟨rfl, hb⟩; replace hE := hE.below hb; replace ha := ha.below hb)
        | (go_at_call 46; refine Calls.mono (hR.out _ ha) ?_; rintro e w1 ⟨rfl, rfl⟩)
        | (go_at_call 15; refine (law07_awake _ hE).mono ?_; rintro e w1 ⟨rfl, hb1⟩; replace hb := Below.then hb hb1))
      go_ret
      exact ⟨rfl, hb⟩
end Go.Proofs.YtnnggcaifbinbaaDoor
