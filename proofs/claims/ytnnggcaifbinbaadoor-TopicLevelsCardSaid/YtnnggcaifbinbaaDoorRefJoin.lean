/- The walk of the reference's join. Conditions: what is joined is shorter than the model's bound. -/
import Derived.Test.YtnnggcaifbinbaaDoorJoin
namespace Go.Proofs.YtnnggcaifbinbaaDoor
open Go.RowKit

theorem joinL_snoc (x : Bs) : ∀ A : List Bs, A ≠ [] → joinL (A ++ [x]) = joinL A ++ [47] ++ x
  | [], h => absurd rfl h
  | [y], _ => rfl
  | y :: z :: r, _ => by
    have ih := joinL_snoc x (z :: r) (by simp)
    show y ++ [47] ++ joinL ((z :: r) ++ [x]) = _
    rw [ih]
    show _ = y ++ [47] ++ joinL (z :: r) ++ [47] ++ x
    simp
theorem joinL_take_le (T : List Bs) (k : Nat) : (joinL (T.take k)).length ≤ (joinL T).length := by
  induction T generalizing k with
  | nil => simp
  | cons x r ih =>
    cases k with
    | zero => simp [joinL]
    | succ k =>
      rw [List.take_succ_cons]
      cases r with
      | nil => simp [joinL]
      | cons y r =>
        cases k with
        | zero => simp [joinL]
        | succ k =>
          have h := ih (k + 1)
          rw [List.take_succ_cons] at h ⊢
          simp only [joinL, List.length_append] at h ⊢
          omega

theorem ref07_Join (a : Option Addr) (c : Nat) (L : List ByteArray) (w : World) (hN : L.length ≤ 140737488355328) (ha : CellsA w a (L.map Value.string)) (hlen : (joinL (L.map bl)).length ≤ 140737488355328) :
    Calls Tryd.prog 46 #[.slice a L.length c] w fun e w' => e = .returned (.string ⟨(joinL (L.map bl)).toArray⟩) ∧ w = w' := by
  have fin : ∀ (r : ByteArray) (w' : World), bl r = joinL (L.map bl) → w = w' → Ending.returned (.string r) = .returned (.string ⟨(joinL (L.map bl)).toArray⟩) ∧ w = w' := by
    rintro r w' h rfl; rw [← h]; exact ⟨by simp [bl], rfl⟩
  have FIN := Lib.hid fin; clear fin
  go_enter Tryd.func46, Tryd.ntmps46
  go_wp2_with fail
  go_loopw [3, 4] (fun v i wr => ∃ (k : Nat) (r : ByteArray), k ≤ L.length ∧ i = .int .i64 k ∧ v = .string r ∧ Hid (bl r = joinL ((L.map bl).take k)) ∧ w = wr) (fun _ i _ => L.length - (intOf i).toNat)
  case atStart => exact ⟨0, ⟨#[]⟩, by omega, rfl, rfl, rfl, rfl⟩
  case round =>
    obtain ⟨k, r, hk, rfl, rfl, HP, rfl⟩ := hrel
    by_cases hlt : k < L.length
    · obtain ⟨x, hx⟩ : ∃ x, L[k]? = some x := ⟨_, List.getElem?_eq_getElem hlt⟩
      obtain ⟨b, o, rfl, hcell⟩ := ha.text hx
      have ht : (L.map bl).take (k + 1) = (L.map bl).take k ++ [bl x] := by
        rw [List.take_add_one, List.getElem?_map, hx]; rfl
      have hle := joinL_take_le (L.map bl) (k + 1)
      have hrl : r.size = (joinL ((L.map bl).take k)).length := by rw [← HP.out, bl_len]
      have hxl := bl_len x
      by_cases hk0 : k = 0
      · subst hk0
        rw [Nat.add_zero] at hcell
        have hj : joinL ((L.map bl).take (0 + 1)) = bl x := by rw [ht]; rfl
        have hr0 : r.size = 0 := by rw [hrl]; rfl
        have hsz : ¬ 9223372036854775807 < r.size + x.size := by rw [hj] at hle; omega
        have HJ := Lib.hid (show bl r = [] from HP.out)
        have HK := Lib.hid hj
        clear ht hle hrl hxl hx hj
        go_wp2_with fail
        go_roundw
        case rel => exact ⟨1, r ++ x, by omega, by go_num, by first | rfl | trivial, by rw [Hid, HK.out]; have h := HJ.out; unfold bl at h ⊢; simp [h], by first | rfl | trivial⟩
        case measure => simp [intOf]; omega
      · have hj : joinL ((L.map bl).take (k + 1)) = joinL ((L.map bl).take k) ++ [47] ++ bl x := by
          rw [ht]
          exact joinL_snoc _ _ (by intro h; have h := congrArg List.length h; rw [List.length_take, List.length_map, List.length_nil] at h; omega)
        rw [hj] at hle
        simp only [List.length_append, List.length_singleton] at hle
        have hs1 : ¬ 9223372036854775807 < r.size + 1 := by omega
        have hs2 : ¬ 9223372036854775807 < r.size + 1 + x.size := by omega
        have HK := Lib.hid hj
        have k1 : decide ((0 : Int) < (k : Int)) = true := decide_eq_true (by omega)
        have k2 : decide (0 < k) = true := decide_eq_true (by omega)
        clear ht hle hrl hxl hx hj
        go_wp2_with fail
        go_roundw
        case rel => exact ⟨k + 1, r ++ ⟨#[47]⟩ ++ x, by omega, by go_num, by first | rfl | trivial, by rw [Hid, HK.out, ← HP.out]; unfold bl; simp, by first | rfl | trivial⟩
        case measure => simp [intOf]; omega
    · have : k = L.length := by omega
      subst this
      go_wp2_with fail
      go_ret
      exact FIN.out _ _ (by rw [HP.out, List.take_of_length_le (by simp)]) rfl
end Go.Proofs.YtnnggcaifbinbaaDoor
