import Derived.Test.YtnnpokndajpkiaaDoorRefPacket
import Derived.Test.YtnnpokndajpkiaaDoorPacketSame
import Derived.Deep.DeepCutAuto
namespace Go.Proofs.YtnnpokndajpkiaaDoor
open Go.RowKit
def fieldsB (t : Nat) : ByteArray := if t = 1 then b1 [108, 99, 107, 110, 119, 117, 115] else if t = 2 then b1 [101, 111] else if t = 3 then b1 [100, 113, 114, 105, 116, 112] else if t = 4 ∨ t = 5 ∨ t = 6 ∨ t = 7 ∨ t = 11 then b1 [105] else if t = 8 ∨ t = 10 then b1 [105, 98] else if t = 9 then b1 [105, 109] else if t = 12 ∨ t = 13 ∨ t = 14 then b1 [] else b1 [45]
set_option maxRecDepth 100000 in
theorem fields_0 (w : World) : Calls Tryd.prog 85 #[.int .u8 0] w fun e w' => e = .returned (.string (fieldsB 0)) ∧ Below w.heap.size w w' := by
  go_enter Tryd.func85, Tryd.ntmps85
  go_wp2_with fail
  go_ret
  exact ⟨rfl, by go_grown⟩
set_option maxRecDepth 100000 in
theorem fields_1 (w : World) : Calls Tryd.prog 85 #[.int .u8 1] w fun e w' => e = .returned (.string (fieldsB 1)) ∧ Below w.heap.size w w' := by
  go_enter Tryd.func85, Tryd.ntmps85
  go_wp2_with fail
  go_ret
  exact ⟨rfl, by go_grown⟩
set_option maxRecDepth 100000 in
theorem fields_2 (w : World) : Calls Tryd.prog 85 #[.int .u8 2] w fun e w' => e = .returned (.string (fieldsB 2)) ∧ Below w.heap.size w w' := by
  go_enter Tryd.func85, Tryd.ntmps85
  go_wp2_with fail
  go_ret
  exact ⟨rfl, by go_grown⟩
set_option maxRecDepth 100000 in
theorem fields_3 (w : World) : Calls Tryd.prog 85 #[.int .u8 3] w fun e w' => e = .returned (.string (fieldsB 3)) ∧ Below w.heap.size w w' := by
  go_enter Tryd.func85, Tryd.ntmps85
  go_wp2_with fail
  go_ret
  exact ⟨rfl, by go_grown⟩
set_option maxRecDepth 100000 in
theorem fields_4 (w : World) : Calls Tryd.prog 85 #[.int .u8 4] w fun e w' => e = .returned (.string (fieldsB 4)) ∧ Below w.heap.size w w' := by
  go_enter Tryd.func85, Tryd.ntmps85
  go_wp2_with fail
  go_ret
  exact ⟨rfl, by go_grown⟩
set_option maxRecDepth 100000 in
theorem fields_5 (w : World) : Calls Tryd.prog 85 #[.int .u8 5] w fun e w' => e = .returned (.string (fieldsB 5)) ∧ Below w.heap.size w w' := by
  go_enter Tryd.func85, Tryd.ntmps85
  go_wp2_with fail
  go_ret
  exact ⟨rfl, by go_grown⟩
set_option maxRecDepth 100000 in
theorem fields_6 (w : World) : Calls Tryd.prog 85 #[.int .u8 6] w fun e w' => e = .returned (.string (fieldsB 6)) ∧ Below w.heap.size w w' := by
  go_enter Tryd.func85, Tryd.ntmps85
  go_wp2_with fail
  go_ret
  exact ⟨rfl, by go_grown⟩
set_option maxRecDepth 100000 in
theorem fields_7 (w : World) : Calls Tryd.prog 85 #[.int .u8 7] w fun e w' => e = .returned (.string (fieldsB 7)) ∧ Below w.heap.size w w' := by
  go_enter Tryd.func85, Tryd.ntmps85
  go_wp2_with fail
  go_ret
  exact ⟨rfl, by go_grown⟩
set_option maxRecDepth 100000 in
theorem fields_8 (w : World) : Calls Tryd.prog 85 #[.int .u8 8] w fun e w' => e = .returned (.string (fieldsB 8)) ∧ Below w.heap.size w w' := by
  go_enter Tryd.func85, Tryd.ntmps85
  go_wp2_with fail
  go_ret
  exact ⟨rfl, by go_grown⟩
set_option maxRecDepth 100000 in
theorem fields_9 (w : World) : Calls Tryd.prog 85 #[.int .u8 9] w fun e w' => e = .returned (.string (fieldsB 9)) ∧ Below w.heap.size w w' := by
  go_enter Tryd.func85, Tryd.ntmps85
  go_wp2_with fail
  go_ret
  exact ⟨rfl, by go_grown⟩
set_option maxRecDepth 100000 in
theorem fields_10 (w : World) : Calls Tryd.prog 85 #[.int .u8 10] w fun e w' => e = .returned (.string (fieldsB 10)) ∧ Below w.heap.size w w' := by
  go_enter Tryd.func85, Tryd.ntmps85
  go_wp2_with fail
  go_ret
  exact ⟨rfl, by go_grown⟩
set_option maxRecDepth 100000 in
theorem fields_11 (w : World) : Calls Tryd.prog 85 #[.int .u8 11] w fun e w' => e = .returned (.string (fieldsB 11)) ∧ Below w.heap.size w w' := by
  go_enter Tryd.func85, Tryd.ntmps85
  go_wp2_with fail
  go_ret
  exact ⟨rfl, by go_grown⟩
set_option maxRecDepth 100000 in
theorem fields_12 (w : World) : Calls Tryd.prog 85 #[.int .u8 12] w fun e w' => e = .returned (.string (fieldsB 12)) ∧ Below w.heap.size w w' := by
  go_enter Tryd.func85, Tryd.ntmps85
  go_wp2_with fail
  go_ret
  exact ⟨rfl, by go_grown⟩
set_option maxRecDepth 100000 in
theorem fields_13 (w : World) : Calls Tryd.prog 85 #[.int .u8 13] w fun e w' => e = .returned (.string (fieldsB 13)) ∧ Below w.heap.size w w' := by
  go_enter Tryd.func85, Tryd.ntmps85
  go_wp2_with fail
  go_ret
  exact ⟨rfl, by go_grown⟩
set_option maxRecDepth 100000 in
theorem fields_14 (w : World) : Calls Tryd.prog 85 #[.int .u8 14] w fun e w' => e = .returned (.string (fieldsB 14)) ∧ Below w.heap.size w w' := by
  go_enter Tryd.func85, Tryd.ntmps85
  go_wp2_with fail
  go_ret
  exact ⟨rfl, by go_grown⟩
set_option maxRecDepth 100000 in
theorem fields_o (t : Nat) (h : 15 ≤ t) (h2 : t < 256) (w : World) : Calls Tryd.prog 85 #[.int .u8 (t : Int)] w fun e w' => e = .returned (.string (fieldsB t)) ∧ Below w.heap.size w w' := by
  have HF := Lib.hid (show fieldsB t = b1 [45] by unfold fieldsB; (repeat' (rw [if_neg (by omega)]))); have h1 : (15 : Int) ≤ (t : Int) := by omega
  have h3 : (t : Int) < 256 := by omega
  go_enter Tryd.func85, Tryd.ntmps85
  go_wp2_with fail
  go_ret
  exact ⟨by rw [HF.out]; rfl, by go_grown⟩
theorem ref03_Fields (t : Nat) (ht : t < 256) (w : World) : Calls Tryd.prog 85 #[.int .u8 (t : Int)] w fun e w' => e = .returned (.string (fieldsB t)) ∧ Below w.heap.size w w' := by
  match t, ht with
  | 0, _ => exact fields_0 w
  | 1, _ => exact fields_1 w
  | 2, _ => exact fields_2 w
  | 3, _ => exact fields_3 w
  | 4, _ => exact fields_4 w
  | 5, _ => exact fields_5 w
  | 6, _ => exact fields_6 w
  | 7, _ => exact fields_7 w
  | 8, _ => exact fields_8 w
  | 9, _ => exact fields_9 w
  | 10, _ => exact fields_10 w
  | 11, _ => exact fields_11 w
  | 12, _ => exact fields_12 w
  | 13, _ => exact fields_13 w
  | 14, _ => exact fields_14 w
  | n + 15, ht => exact fields_o (n + 15) (by omega) ht w
end Go.Proofs.YtnnpokndajpkiaaDoor
