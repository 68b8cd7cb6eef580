/- Acts done to a list, in their cells; whether acts or filters are more than the statements go through. Conditions: the rows lie in their cells. -/
import Derived.Test.YtbhmflkhcadaeaaDoorSubsSame
namespace Go.Proofs.YtbhmflkhcadaeaaDoor
open Go.RowKit

/-- A row whose elements have m cells each. -/
theorem rowV_at {α : Type} {g : α → List Value} {m : Nat} (hg : ∀ x, (g x).length = m) : ∀ (L : List α) (i : Nat) (x : α) (j : Nat) (u : Value), L[i]? = some x → (g x)[j]? = some u → (L.flatMap g)[i * m + j]? = some u
  | [], i, x, j, u, h, _ => by simp at h
  | y :: r, 0, x, j, u, h, hu => by
    simp at h
    subst h
    rw [List.flatMap_cons, Nat.zero_mul, Nat.zero_add, List.getElem?_append_left (List.getElem?_eq_some_iff.1 hu).1]
    exact hu
  | y :: r, i + 1, x, j, u, h, hu => by
    have ih := rowV_at hg r i x j u (by simpa using h) hu
    have he : (i + 1) * m + j = m + (i * m + j) := by rw [Nat.succ_mul]; omega
    rw [List.flatMap_cons, he, List.getElem?_append_right (by rw [hg]; omega), hg, Nat.add_sub_cancel_left]
    exact ih
theorem CellsA.elem {w : World} {a : Option Addr} {α : Type} {g : α → List Value} {m : Nat} (hg : ∀ x, (g x).length = m) {L : List α} (h : CellsA w a (L.flatMap g)) {i : Nat} {x : α} (hx : L[i]? = some x) (u0 : Value) (h0 : (g x)[0]? = some u0) :
    ∃ b o, a = some ⟨b, o, none⟩ ∧ ∀ j u, (g x)[j]? = some u → w.cell? ⟨b, o + i * m + j, none⟩ = some u := by
  obtain ⟨b, o, ha, _⟩ := h _ _ (rowV_at hg L i x 0 u0 hx h0)
  refine ⟨b, o, ha, fun j u hu => ?_⟩
  obtain ⟨b', o', ha', hc⟩ := h _ _ (rowV_at hg L i x j u hx hu)
  rw [ha] at ha'
  injection ha' with e
  injection e with e1 e2
  subst e1 e2
  rw [Nat.add_assoc]; exact hc

/-- Something done to a list. -/
structure Ac where
  d : Nat
  f : ByteArray
  q : Nat
  n : ByteArray
def acV (x : Ac) : List Value := [.int .u8 (x.d : Int), .string x.f, .int .u8 (x.q : Int), .string x.n]
def acCells (L : List Ac) : List Value := L.flatMap acV
theorem CellsA.act {w : World} {a : Option Addr} {L : List Ac} (h : CellsA w a (acCells L)) {i : Nat} {x : Ac} (hx : L[i]? = some x) :
    ∃ b o, a = some ⟨b, o, none⟩ ∧ w.cell? ⟨b, o + i * 4, none⟩ = some (.int .u8 (x.d : Int)) ∧ w.cell? ⟨b, o + i * 4 + 1, none⟩ = some (.string x.f) ∧ w.cell? ⟨b, o + i * 4 + 2, none⟩ = some (.int .u8 (x.q : Int)) ∧ w.cell? ⟨b, o + i * 4 + 3, none⟩ = some (.string x.n) := by
  obtain ⟨b, o, ha, hc⟩ := CellsA.elem (m := 4) (fun _ => rfl) h hx _ rfl
  exact ⟨b, o, ha, hc 0 _ rfl, hc 1 _ rfl, hc 2 _ rfl, hc 3 _ rfl⟩

def greatS (T : List Sb) : Bool := T.any (fun x => decide (300 < x.1.size)) || decide (60 < T.length)
def longA (x : Ac) : Bool := decide (300 < x.f.size) || decide (300 < x.n.size)
def greatA (L : List Ac) : Bool := L.any longA || decide (80 < L.length)
theorem any_take {α : Type} {p : α → Bool} {L : List α} {k : Nat} {x : α} (hx : L[k]? = some x) (h : (L.take k).any p = false) (hp : p x = false) : (L.take (k + 1)).any p = false := by
  rw [List.take_add_one, hx, List.any_append, h]; simp [hp]
theorem any_at {α : Type} {p : α → Bool} {L : List α} {k : Nat} {x : α} (hx : L[k]? = some x) (hp : p x = true) : L.any p = true := List.any_eq_true.2 ⟨x, List.mem_of_getElem? hx, hp⟩

set_option maxRecDepth 100000 in
theorem law15_Great (a : Option Addr) (c : Nat) (T : List Sb) (w : World) (hn : T.length ≤ 9223372036854775807) (ha : CellsA w a (subCells T)) :
    Calls Tryd.prog 13 #[.slice a T.length c] w fun e w' => e = .returned (.bool (greatS T)) ∧ w = w' := by
  have FIN := Lib.hid (show ∀ (v : Bool) (w' : World), greatS T = v → w = w' → Ending.returned (.bool v) = .returned (.bool (greatS T)) ∧ w = w' from by rintro v w' rfl rfl; exact ⟨rfl, rfl⟩)
  go_enter Tryd.func13, Tryd.ntmps13
  go_wp2_with fail
  go_loopw [3] (fun i wr => ∃ k : Nat, k ≤ T.length ∧ i = .int .i64 k ∧ Hid ((T.take k).any (fun x => decide (300 < x.1.size)) = false) ∧ w = wr) (fun i _ => T.length - (intOf i).toNat)
  case atStart => exact ⟨0, by omega, rfl, rfl, rfl⟩
  case round =>
    obtain ⟨k, hk, rfl, HP, rfl⟩ := hrel
    by_cases hlt : k < T.length
    · obtain ⟨x, hx⟩ : ∃ x, T[k]? = some x := ⟨_, List.getElem?_eq_getElem hlt⟩
      obtain ⟨b, o, rfl, c1, c2⟩ := ha.sub hx
      by_cases h3 : (300 : Int) < (x.1.size : Int)
      · have HF := Lib.hid (show greatS T = true by unfold greatS; rw [any_at hx (by simp; omega), Bool.true_or])
        clear hx
        go_wp2_with fail
        go_ret
        exact FIN.out _ _ HF.out rfl
      · have HF := Lib.hid (any_take hx HP.out (by simp; omega))
        clear hx
        go_wp2_with fail
        go_roundw
        case rel => exact ⟨k + 1, by omega, by go_num, HF.out, by first | rfl | trivial⟩
        case measure => simp [intOf]; omega
    · have : k = T.length := by omega
      subst this
      have HF := HP.out
      rw [List.take_length] at HF
      replace HF := Lib.hid HF
      cases h6 : decide ((60 : Int) < (T.length : Int)) with
      | true =>
        have HV := Lib.hid (show greatS T = true by unfold greatS; rw [HF.out]; simp; simp at h6; omega)
        go_wp2_with fail
        go_ret
        first | exact FIN.out _ _ HV.out rfl | (rw [h6]; exact FIN.out _ _ HV.out rfl)
      | false =>
        have HV := Lib.hid (show greatS T = false by unfold greatS; rw [HF.out]; simp; simp at h6; omega)
        go_wp2_with fail
        go_ret
        first | exact FIN.out _ _ HV.out rfl | (rw [h6]; exact FIN.out _ _ HV.out rfl)

set_option maxRecDepth 100000 in
theorem law15_GreatActs (a : Option Addr) (c : Nat) (L : List Ac) (w : World) (hn : L.length ≤ 9223372036854775807) (ha : CellsA w a (acCells L)) :
    Calls Tryd.prog 9 #[.slice a L.length c] w fun e w' => e = .returned (.bool (greatA L)) ∧ w = w' := by
  have FIN := Lib.hid (show ∀ (v : Bool) (w' : World), greatA L = v → w = w' → Ending.returned (.bool v) = .returned (.bool (greatA L)) ∧ w = w' from by rintro v w' rfl rfl; exact ⟨rfl, rfl⟩)
  go_enter Tryd.func9, Tryd.ntmps9
  go_wp2_with fail
  go_loopw [3] (fun i wr => ∃ k : Nat, k ≤ L.length ∧ i = .int .i64 k ∧ Hid ((L.take k).any longA = false) ∧ w = wr) (fun i _ => L.length - (intOf i).toNat)
  case atStart => exact ⟨0, by omega, rfl, rfl, rfl⟩
  case round =>
    obtain ⟨k, hk, rfl, HP, rfl⟩ := hrel
    by_cases hlt : k < L.length
    · obtain ⟨x, hx⟩ : ∃ x, L[k]? = some x := ⟨_, List.getElem?_eq_getElem hlt⟩
      obtain ⟨b, o, rfl, c1, c2, c3, c4⟩ := ha.act hx
      by_cases h3 : (300 : Int) < (x.f.size : Int)
      · have HF := Lib.hid (show greatA L = true by unfold greatA; rw [any_at hx (by unfold longA; simp; omega), Bool.true_or])
        clear hx
        go_wp2_with fail
        go_ret
        exact FIN.out _ _ HF.out rfl
      · by_cases h4 : (300 : Int) < (x.n.size : Int)
        · have HF := Lib.hid (show greatA L = true by unfold greatA; rw [any_at hx (by unfold longA; simp; omega), Bool.true_or])
          clear hx
          go_wp2_with fail
          go_ret
          exact FIN.out _ _ HF.out rfl
        · have HF := Lib.hid (any_take hx HP.out (by unfold longA; simp; omega))
          clear hx
          go_wp2_with fail
          go_roundw
          case rel => exact ⟨k + 1, by omega, by go_num, HF.out, by first | rfl | trivial⟩
          case measure => simp [intOf]; omega
    · have : k = L.length := by omega
      subst this
      have HF := HP.out
      rw [List.take_length] at HF
      replace HF := Lib.hid HF
      cases h6 : decide ((80 : Int) < (L.length : Int)) with
      | true =>
        have HV := Lib.hid (show greatA L = true by unfold greatA; rw [HF.out]; simp; simp at h6; omega)
        go_wp2_with fail
        go_ret
        first | exact FIN.out _ _ HV.out rfl | (rw [h6]; exact FIN.out _ _ HV.out rfl)
      | false =>
        have HV := Lib.hid (show greatA L = false by unfold greatA; rw [HF.out]; simp; simp at h6; omega)
        go_wp2_with fail
        go_ret
        first | exact FIN.out _ _ HV.out rfl | (rw [h6]; exact FIN.out _ _ HV.out rfl)
end Go.Proofs.YtbhmflkhcadaeaaDoor
