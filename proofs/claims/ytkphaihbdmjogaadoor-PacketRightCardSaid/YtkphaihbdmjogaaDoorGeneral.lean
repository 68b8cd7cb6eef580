/- Small lemmas on texts and slices of texts that all walks use. No condition; nothing of the program is named. -/
import Derived.Test.YtkphaihbdmjogaaDoorBase
import Derived.Test.YtkphaihbdmjogaaDoorPlainOrder
namespace Go.Proofs.YtkphaihbdmjogaaDoor
open Go.RowKit

theorem beqF {a b : Bs} (h : ¬ a = b) : (a == b) = false := beq_eq_false_iff_ne.2 h
/-- A slice of texts. -/
def Texts (w : World) (v : Value) (L : List ByteArray) : Prop := ∃ a c, v = .slice a L.length c ∧ CellsA w a (L.map Value.string)
theorem Texts.below {w w' : World} {v : Value} {L : List ByteArray} (h : Texts w v L) (hb : Below w.heap.size w w') : Texts w' v L := by
  obtain ⟨a, c, h1, h2⟩ := h
  exact ⟨a, c, h1, h2.below hb⟩
theorem CellsA.text {w : World} {a : Option Addr} {L : List ByteArray} (h : CellsA w a (L.map Value.string)) {k : Nat} {x : ByteArray} (hx : L[k]? = some x) : ∃ b o, a = some ⟨b, o, none⟩ ∧ w.cell? ⟨b, o + k, none⟩ = some (.string x) :=
  h k _ (by rw [List.getElem?_map, hx]; rfl)
/-- What a function leaves that hands back texts: a slice that reads as they are told; below, nothing has turned. -/
def RetTexts (T : List Bs) (w : World) (e : Ending) (w' : World) : Prop :=
  ∃ (L : List ByteArray) (a : Option Addr) (c : Nat), e = .returned (.slice a L.length c) ∧ L.map bl = T ∧ CellsA w' a (L.map Value.string) ∧ Below w.heap.size w w'
theorem filterLv_drop (T : List Bs) (k : Nat) (x : Bs) (h : T[k]? = some x) : filterLv (T.drop k) = (levelL x (T.drop (k + 1)).isEmpty && filterLv (T.drop (k + 1))) := by
  obtain ⟨hk, hx⟩ := List.getElem?_eq_some_iff.1 h
  rw [List.drop_eq_getElem_cons hk, hx]
  rfl
theorem drop_empty {α : Type} (T : List α) (k : Nat) : (T.drop (k + 1)).isEmpty = decide (T.length ≤ k + 1) := by
  rw [Bool.eq_iff_iff]
  simp
theorem empty_toList (s : ByteArray) : s.toList.isEmpty = (bl s).isEmpty := by rw [Lib.toList_data]; rfl
theorem cell_draws (w : World) (n : Nat) (p : Addr) : (w.drewN n).cell? p = w.cell? p := rfl
theorem eq35 (x : ByteArray) (v : Bool) (h : (bl x == [35]) = v) : (x.toList == [35]) = v := by rw [Lib.toList_data]; exact h
theorem eq43 (x : ByteArray) (v : Bool) (h : (bl x == [43]) = v) : (x.toList == [43]) = v := by rw [Lib.toList_data]; exact h
theorem eqTwo (x y : ByteArray) (v : Bool) (h : (bl x == bl y) = v) : (x.toList == y.toList) = v := by rw [Lib.toList_data, Lib.toList_data]; exact h
def Quiet (v : Bool) (w : World) (e : Ending) (w' : World) : Prop := e = .returned (.bool v) ∧ ∃ n, w' = w.drewN n
theorem get_bl (s : ByteArray) (k : Nat) (h : k < s.size) : (bl s)[k]? = some (s[k]'h) := by
  have h' : k < s.data.toList.length := by rw [← Lib.size_eq]; exact h
  show s.data.toList[k]? = _
  rw [List.getElem?_eq_getElem h']; rfl
theorem bl_len (s : ByteArray) : (bl s).length = s.size := (Lib.size_eq s).symm
theorem take_snoc (s : ByteArray) (k : Nat) (h : k < s.size) : (bl s).take (k + 1) = (bl s).take k ++ [s[k]'h] := by
  rw [List.take_add_one, get_bl s k h]; rfl
theorem empty_size (s : ByteArray) : (bl s).isEmpty = decide (s.size = 0) := by
  rw [Bool.eq_iff_iff, decide_eq_true_eq, ← bl_len, List.isEmpty_iff_length_eq_zero]
end Go.Proofs.YtkphaihbdmjogaaDoor
