import Derived.Test.YtnnpokndajpkiaaGreatDoorJoinZC
namespace Go.Proofs.YtnnpokndajpkiaaGreatDoor
open Go.RowKit
attribute [local irreducible] Ok
structure AcWf (q : Ac) : Prop where
  cn : q.cn < 9223372036854775808
  ok : ∀ p ∈ q.it.ps, p.1.ty < 256 ∧ p.1.qos < 256 ∧ p.1.id < 65536 ∧ p.1.level < 256 ∧ p.1.keep < 65536 ∧ p.1.wqos < 256 ∧ p.1.code < 256 ∧ ∀ x ∈ p.1.subs, x.2 < 256
theorem bigN_ok {p : Pk} (hw : p.ty < 256 ∧ p.qos < 256 ∧ p.id < 65536 ∧ p.level < 256 ∧ p.keep < 65536 ∧ p.wqos < 256 ∧ p.code < 256 ∧ ∀ x ∈ p.subs, x.2 < 256) (hb : bigN (notP p) = false) : PkOk p := by
  unfold bigN at hb; rw [Bool.or_eq_false_iff, Bool.or_eq_false_iff] at hb; obtain ⟨h1, h2, h3⟩ := hb; have ht : ∀ t ∈ txN (notP p), t.size ≤ 300 := fun t ht => by
    have h := List.any_eq_false.1 h1 t ht; simp only [decide_eq_true_eq] at h; omega
  have hs : ∀ x ∈ p.subs, x.1.size ≤ 300 := fun x hx => by
    have h := List.any_eq_false.1 h2 x hx; simp only [decide_eq_true_eq] at h; omega
  have h4 : p.subs.length ≤ 20 := by
    have h := of_decide_eq_false h3; have e : (notP p).p.subs.length = p.subs.length := rfl; omega
  have p1 : p.topic.size ≤ 300 := ht p.topic (by simp [txN, notP]); have p2 : p.payload.size ≤ 300 := ht p.payload (by simp [txN, notP]); have p3 : p.client.size ≤ 300 := ht p.client (by simp [txN, notP]); have p4 : p.wtopic.size ≤ 300 := ht p.wtopic (by simp [txN, notP]); have p5 : p.wpayload.size ≤ 300 := ht p.wpayload (by simp [txN, notP]); have p6 : p.user.size ≤ 300 := ht p.user (by simp [txN, notP]); have p7 : p.pass.size ≤ 300 := ht p.pass (by simp [txN, notP]); have p8 : p.codes.size ≤ 300 := ht p.codes (by simp [txN, notP]); obtain ⟨w1, w2, w3, w4, w5, w6, w7, w8⟩ := hw; exact ⟨w1, w2, w3, w4, w5, w6, w7, by omega, by omega, by omega, by omega, by omega, by omega, by omega, by omega, by omega, fun x hx => ⟨by have := hs x hx; omega, w8 x hx⟩⟩
theorem small_acts {xs : List Ac} (h : big20 xs = false) (hw : ∀ q ∈ xs, AcWf q) : xs.length ≤ 100 ∧ sumL xs ≤ 5000 ∧ ∀ q ∈ xs, AcGood q ∧ q.it.cl.size ≤ 300 ∧ q.bs.size ≤ 2000 := by
  unfold big20 at h; obtain ⟨h1, h2⟩ := Bool.or_eq_false_iff.1 h; have h3 := of_decide_eq_false h2; have h4 := badL_sum xs 0 (by decide) h1; have h5 : ∀ (l : List Ac) (n : Nat), badL n l = false → ∀ q ∈ l, ∃ n, badA n q = false := by
    intro l; induction l with
    | nil => intro n _ q hq; cases hq
    | cons x l ih =>
      intro n hb q hq; obtain ⟨b1, b2⟩ := Bool.or_eq_false_iff.1 (show (badA n x || badL (n + x.bs.size) l) = false from hb); rcases List.mem_cons.1 hq with rfl | hq
      · exact ⟨n, b1⟩
      · exact ih _ b2 q hq
  refine ⟨by omega, by omega, fun q hq => ?_⟩; obtain ⟨n, hb⟩ := h5 xs 0 h1 q hq; unfold badA badP at hb; simp only [Bool.or_eq_false_iff, decide_eq_false_iff_not] at hb; obtain ⟨b1, _, b3, b4, b5⟩ := hb; refine ⟨⟨by omega, fun p hp => ?_⟩, by omega, by omega⟩; have h6 := List.any_eq_false.1 b5 p hp; exact bigN_ok ((hw q hq).ok p hp) (by simpa using h6)
theorem may_nat {W u m : Int} (h : mayN W u m = true) : ∃ W' u' m' : Nat, W = W' ∧ u = u' ∧ m = m' ∧ 1 ≤ W' ∧ W' ≤ 64 ∧ u' < W' ∧ 16 ≤ m' ∧ m' ≤ 65536 := by
  simp only [mayN, Bool.and_eq_true, decide_eq_true_eq] at h; exact ⟨W.toNat, u.toNat, m.toNat, by omega, by omega, by omega, by omega, by omega, by omega, by omega, by omega⟩
theorem read_notes (m W : Nat) (c : Cn) (now ops : Int) : (readC m W c now ops).2.2.1.length ≤ 1 := by
  have h1 : ∀ c, (cutR W c ops).2.2.1.length ≤ 1 := fun c => by
    unfold cutR; split
    · exact Nat.le_refl _
    · exact Nat.zero_le _
  have h2 : ∀ c p, (liveR W c p ops).2.2.1.length ≤ 1 := fun c p => by
    unfold liveR; split
    · exact Nat.zero_le _
    split
    · exact Nat.le_refl _
    split
    · exact Nat.le_refl _
    split
    · exact Nat.zero_le _
    · exact Nat.le_refl _
  have h3 : ∀ c p, (freshR W c p ops).2.2.1.length ≤ 1 := fun c p => by
    unfold freshR; split
    · exact Nat.le_refl _
    · exact Nat.zero_le _
  unfold readC; split
  · exact Nat.zero_le _
  split
  · exact h1 _
  split
  · split
    · exact h2 _ _
    · exact h3 _ _
  split
  · exact h1 _
  · exact Nat.zero_le _
end Go.Proofs.YtnnpokndajpkiaaGreatDoor
