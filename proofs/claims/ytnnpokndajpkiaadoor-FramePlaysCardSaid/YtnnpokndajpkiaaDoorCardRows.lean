import Derived.Test.YtnnpokndajpkiaaDoorJoinA
import Derived.Deep.Slices
import Derived.Deep.Fields
import Derived.ChangeSame
import Derived.ProofKit
import Derived.OpenShut
namespace Go.Proofs.YtnnpokndajpkiaaDoor
open Go.RowKit Go.ChangeShapes Go.WideShapes Go.Deep
theorem exists_list {α : Type} {R : Nat → α → Prop} : ∀ n : Nat, (∀ i, i < n → ∃ x, R i x) → ∃ L : List α, L.length = n ∧ ∀ i x, L[i]? = some x → R i x
  | 0, _ => ⟨[], rfl, fun i x h => by simp at h⟩
  | n + 1, h => by
    obtain ⟨L, hl, hL⟩ := exists_list n (fun i hi => h i (by omega)); obtain ⟨x, hx⟩ := h n (by omega); refine ⟨L ++ [x], by simp [hl], fun i y hy => ?_⟩; rcases Nat.lt_trichotomy i n with h1 | h1 | h1
    · rw [List.getElem?_append_left (by omega)] at hy
      exact hL i y hy
    · subst h1
      rw [List.getElem?_append_right (by omega), hl, Nat.sub_self] at hy; simp at hy
      subst hy; exact hx
    · rw [List.getElem?_eq_none (by simp; omega)] at hy
      cases hy
theorem rowV_inv {α : Type} {g : α → List Value} {m : Nat} (hg : ∀ x, (g x).length = m) : ∀ (L : List α) (j : Nat) (u : Value), (L.flatMap g)[j]? = some u → ∃ i x r, L[i]? = some x ∧ (g x)[r]? = some u ∧ j = i * m + r
  | [], j, u, h => by simp at h
  | y :: t, j, u, h => by
    rw [List.flatMap_cons] at h; rcases Nat.lt_or_ge j m with hj | hj
    · rw [List.getElem?_append_left (by rw [hg]; exact hj)] at h
      exact ⟨0, y, j, rfl, h, by omega⟩
    · rw [List.getElem?_append_right (by rw [hg]; exact hj), hg] at h
      obtain ⟨i, x, r, h1, h2, h3⟩ := rowV_inv hg t (j - m) u h; exact ⟨i + 1, x, r, by simpa using h1, h2, by rw [Nat.succ_mul]; omega⟩
theorem cellsA_elems {α : Type} {g : α → List Value} {m : Nat} (hg : ∀ x, (g x).length = m) {L : List α} {W : World} {a : Addr} (h : ∀ i x, L[i]? = some x → ∀ r u, (g x)[r]? = some u → W.cell? ((a.add (i * m)).add r) = some u) : CellsA W (some a) (L.flatMap g) := by
  intro j u hu; obtain ⟨i, x, r, h1, h2, h3⟩ := rowV_inv hg L j u hu; have hc := h i x h1 r u h2; obtain ⟨xb, xo, spot⟩ := a; have hm : 0 < m := by
    have := (List.getElem?_eq_some_iff.1 h2).1; rw [hg] at this; omega
  have hL : 0 < L.length := by have := (List.getElem?_eq_some_iff.1 h1).1; omega
  obtain ⟨y, hy⟩ : ∃ y, L[0]? = some y := ⟨_, List.getElem?_eq_getElem hL⟩
  obtain ⟨u0, hu0⟩ : ∃ u0, (g y)[0]? = some u0 := ⟨_, List.getElem?_eq_getElem (by rw [hg]; exact hm)⟩
  have hspot : spot = none := by
    have := World.cell?_spot (h 0 y hy 0 u0 hu0); simpa [Addr.add] using this
  subst hspot; refine ⟨xb, xo, rfl, ?_⟩; rw [Addr.add_lit, Addr.add_lit] at hc; rw [h3, ← Nat.add_assoc]; exact hc
section
variable {H : Type} {enc : TypeId × Value → H} {P : Program} {W : World} {base : Nat} {spare : Nat → Bool} {held : Bool}
theorem open_rows {α : Type} {g : α → List Value} {m : Nat} (hg : ∀ x, (g x).length = m) (R : α → Prop) {t e : TypeId} (ht : P.underlying t = some (.slice e)) (hm : P.cellsOf e = m)
    (hR : ∀ (fuel : Nat) (cs : List Value) (y : DataW H × List MemPlace), DataW.trod enc P W base spare held fuel e cs = some y → ∃ x, cs = g x ∧ R x)
    {fuel : Nat} {cs : List Value} {x : DataW H × List MemPlace} (h : DataW.trod enc P W base spare held fuel t cs = some x) :
    ∃ (a : Option Addr) (c : Nat) (L : List α), cs = [.slice a L.length c] ∧ (a = none → c = 0) ∧ L.length ≤ c ∧ c ≤ maxLen ∧ CellsA W a (L.flatMap g) ∧ ∀ x ∈ L, R x := by
  rcases open_slice ht h with ⟨rfl, _⟩ | ⟨a, len, cap, k, n, D, Pl, rfl, hb, hl, hmx, hk, hx, hi⟩
  · exact ⟨none, 0, [], rfl, fun _ => rfl, Nat.le_refl _, by unfold maxLen; omega, CellsA.nil _ _, fun x h => by cases h⟩
  · have hlk : len ≤ k := by rw [hk]; split <;> omega
    obtain ⟨L, hL, hall⟩ := exists_list (R := fun i (x : α) => R x ∧ ∀ r u, (g x)[r]? = some u → W.cell? ((a.add (i * m)).add r) = some u) len (fun i hil => by
      obtain ⟨cs', h1, h2⟩ := hi i (by omega); rw [hm] at h1; obtain ⟨_, h3, h4⟩ := World.cells?_some h1; obtain ⟨x, rfl, hx⟩ := hR _ _ _ h2; exact ⟨x, hx, fun r u hu => (h4 r (by have := (List.getElem?_eq_some_iff.1 hu).1; rw [hg] at this; exact this)).trans hu⟩)
    subst hL; refine ⟨some a, cap, L, rfl, fun h => (by cases h), hl, hmx, cellsA_elems hg (fun i x hx => (hall i x hx).2), fun x hx => ?_⟩; obtain ⟨i, hi'⟩ := List.getElem?_of_mem hx; exact (hall i x hi').1
theorem nat_of_u8 {n : Int} (h : (Lit.int .u8 n).wf = true) : ∃ m : Nat, n = (m : Int) ∧ m < 256 := by
  simp [Lit.wf] at h
  rw [show IntKind.u8.min = 0 from rfl, show IntKind.u8.max = 255 from rfl] at h; exact ⟨n.toNat, by omega, by omega⟩
end
end Go.Proofs.YtnnpokndajpkiaaDoor
