/- The walk of ShardHash. Conditions: the slice's texts lie in its cells, its capacity is no smaller than its length; the decoder's tables lie as Go lays them. -/
import Derived.Test.YtnnggcaifbinbaaDoorLaw08
import Derived.Test.YtnnggcaifbinbaaDoorTexts
namespace Go.Proofs.YtnnggcaifbinbaaDoor
open Go.RowKit

theorem catL_take_succ (L : List ByteArray) (k : Nat) (x : ByteArray) (hx : L[k]? = some x) : catL (L.take (k + 1)) = catL (L.take k) ++ bl x := by
  unfold catL
  rw [List.take_add_one, hx]; simp
theorem catL_len_le (m : Nat) : ∀ L : List ByteArray, (∀ x ∈ L, x.size ≤ m) → (catL L).length ≤ L.length * m
  | [], _ => by simp [catL]
  | x :: r, h => by
    have ih := catL_len_le m r (fun y hy => h y (by simp [hy]))
    have hx := h x (by simp)
    have e : catL (x :: r) = bl x ++ catL r := by simp [catL]
    rw [e, List.length_append, bl_len, List.length_cons, Nat.add_mul, Nat.one_mul]
    omega

theorem law08_joined (a : Option Addr) (c : Nat) (L : List ByteArray) (w : World) (hN : L.length ≤ 50) (hz : ∀ x ∈ L, x.size ≤ 2000) (ha : CellsA w a (L.map Value.string)) :
    Calls Tryd.prog 33 #[.slice a L.length c] w fun e w' => e = .returned (.string ⟨(catL L).toArray⟩) ∧ w = w' := by
  have fin : ∀ (r : ByteArray) (w' : World), bl r = catL L → w = w' → Ending.returned (.string r) = .returned (.string ⟨(catL L).toArray⟩) ∧ w = w' := by
    rintro r w' h rfl; rw [← h]; exact ⟨by simp [bl], rfl⟩
  have FIN := Lib.hid fin; clear fin
  have HZ := Lib.hid hz; clear hz
  go_enter Tryd.func33, Tryd.ntmps33
  go_wp2_with fail
  go_loopw [3, 4] (fun v i wr => ∃ (k : Nat) (r : ByteArray), k ≤ L.length ∧ i = .int .i64 k ∧ v = .string r ∧ r.size ≤ k * 2000 ∧ Hid (bl r = catL (L.take k)) ∧ w = wr) (fun _ i _ => L.length - (intOf i).toNat)
  case atStart => exact ⟨0, ⟨#[]⟩, by omega, rfl, rfl, by decide, rfl, rfl⟩
  case round =>
    obtain ⟨k, r, hk, rfl, rfl, hrs, HP, rfl⟩ := hrel
    by_cases hlt : k < L.length
    · obtain ⟨x, hx⟩ : ∃ x, L[k]? = some x := ⟨_, List.getElem?_eq_getElem hlt⟩
      obtain ⟨b, o, rfl, hcell⟩ := ha.text hx
      have hxs := HZ.out x (List.mem_of_getElem? hx)
      have HT := Lib.hid (catL_take_succ L k x hx)
      have hsz : ¬ 9223372036854775807 < r.size + x.size := by omega
      clear hx
      go_wp2_with fail
      go_roundw
      case rel => exact ⟨k + 1, r ++ x, by omega, by go_num, by first | rfl | trivial, by simp; omega, by rw [Hid, HT.out, ← HP.out]; unfold bl; simp, by first | rfl | trivial⟩
      case measure => simp [intOf]; omega
    · have : k = L.length := by omega
      subst this
      go_wp2_with fail
      go_ret
      exact FIN.out _ _ (by rw [HP.out, List.take_length]) rfl

set_option maxRecDepth 100000 in
theorem law08_ShardHash (a : Option Addr) (c : Nat) (L : List ByteArray) (w : World) (hE : Env w) (hc : L.length ≤ c) (hN : L.length ≤ 140737488355328) (hz : ∀ x ∈ L, x.size ≤ 140737488355328) (ha : CellsA w a (L.map Value.string)) :
    Calls Tryd.prog 6 #[.slice a L.length c] w fun e w' => e = .returned (.bool true) ∧ Below w.heap.size w w' := by
  have hAw := Lib.hid (fun w hE => law08_awake w hE)
  by_cases hsm : L.length ≤ 50
  · have c1 : ¬ (50 : Int) < (L.length : Int) := by omega
    have hLg := Lib.hid (law07_Long a c L w (by omega) ha)
    cases hl : anyLong (L.map bl)
    · rw [hl] at hLg
      clear hl
      go_enter Tryd.func6, Tryd.ntmps6
      go_wp2_with (first
        | (go_at_call 22; refine Calls.mono hLg.out ?_; rintro e w1 ⟨rfl, rfl⟩))
      have hb := Below.refl w.heap.size w
      go_loopw [3] (fun i wr => ∃ (k : Nat), k ≤ L.length ∧ i = .int .i64 k ∧ Hid (∀ x ∈ L.take k, x.size ≤ 2000) ∧ w = wr) (fun i _ => L.length - (intOf i).toNat)
      case atStart => exact ⟨0, by omega, rfl, by intro x hx; simp at hx, rfl⟩
      case round =>
        obtain ⟨k, hk, rfl, HP, rfl⟩ := hrel
        by_cases hlt : k < L.length
        · obtain ⟨x, hx⟩ : ∃ x, L[k]? = some x := ⟨_, List.getElem?_eq_getElem hlt⟩
          obtain ⟨b, o, rfl, hcell⟩ := ha.text hx
          have hxz := hz x (List.mem_of_getElem? hx)
          by_cases c2 : (2000 : Int) < (x.size : Int)
          · clear hx
            go_wp2_with (first
              | (go_at_call 30; refine (hAw.out _ hE).mono ?_; rintro e w2 ⟨rfl, hb1⟩; replace hb := Below.then hb hb1))
            go_ret
            exact ⟨rfl, hb⟩
          · have HQ := Lib.hid (show ∀ y ∈ L.take (k + 1), y.size ≤ 2000 by
              intro y hy
              rw [List.take_add_one, hx] at hy
              rcases List.mem_append.1 hy with h | h
              · exact HP.out y h
              · simp at h; subst h; omega)
            clear hx
            go_wp2_with fail
            go_roundw
            case rel => exact ⟨k + 1, by omega, by go_num, HQ.out, by first | rfl | trivial⟩
            case measure => simp [intOf]; omega
        · have : k = L.length := by omega
          subst this
          have hq := HP.out
          rw [List.take_length] at hq
          have hlen := catL_len_le 2000 L hq
          have hH := Lib.hid (shard_Hash a c L w (by omega) (fun x hx => by have := hq x hx; omega) ha)
          have hJ := Lib.hid (law08_joined a c L w hsm hq ha)
          have hsz : ByteArray.size ⟨(catL L).toArray⟩ ≤ 9223372036854775807 := by
            show (catL L).toArray.size ≤ _
            simp; omega
          have hR := Lib.hid (fun w => ref08_Hash ⟨(catL L).toArray⟩ w hsz)
          rw [show bl ⟨(catL L).toArray⟩ = catL L by simp [bl]] at hR
          clear hq hlen HP
          obtain ⟨n, hn⟩ : ∃ n, hashL (catL L) = n := ⟨_, rfl⟩
          rw [hn] at hH hR
          have e1 : ((n : Int) == (n : Int)) = true := beq_self_eq_true _
          clear hn
          go_wp2_with (first
            | (go_at_call 31; refine Calls.mono hH.out ?_; rintro e w2 ⟨rfl, rfl⟩)
            | (go_at_call 33; refine Calls.mono hJ.out ?_; rintro e w2 ⟨rfl, rfl⟩)
            | (go_at_call 32; refine Calls.mono (hR.out _) ?_; rintro e w2 ⟨rfl, hb1⟩; replace hE := hE.below hb1; replace hb := Below.then hb hb1)
            | (go_at_call 30; refine (hAw.out _ hE).mono ?_; rintro e w2 ⟨rfl, hb1⟩; replace hb := Below.then hb hb1))
          go_ret
          exact ⟨rfl, hb⟩
    · rw [hl] at hLg
      go_enter Tryd.func6, Tryd.ntmps6
      go_wp2_with (first
        | (go_at_call 22; refine Calls.mono hLg.out ?_; rintro e w1 ⟨rfl, rfl⟩)
        | (go_at_call 30; refine (hAw.out _ hE).mono ?_; rintro e w2 ⟨rfl, hb⟩))
      go_ret
      exact ⟨rfl, hb⟩
  · have c1 : (50 : Int) < (L.length : Int) := by omega
    clear hsm
    go_enter Tryd.func6, Tryd.ntmps6
    go_wp2_with (first
      | (go_at_call 30; refine (hAw.out _ hE).mono ?_; rintro e w2 ⟨rfl, hb⟩))
    go_ret
    exact ⟨rfl, hb⟩
end Go.Proofs.YtnnggcaifbinbaaDoor
