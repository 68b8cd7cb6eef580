/- Plain mathematics of reading: any first byte, length and rest; what is cut; a longer length; other levels, other names. No program. -/
import Derived.Test.YtfljdlaelanliaaDoorJoinB
namespace Go.Proofs.YtfljdlaelanliaaDoor

theorem ba_ne {a b : ByteArray} (h : a ≠ b) : (a != b) = true := by
  show (!(a.data == b.data)) = true
  have : a.data ≠ b.data := by
    intro e
    apply h
    cases a; cases b
    simp only at e
    rw [e]
  simp [this]
theorem data_cons (a b : UInt8) (t : Bs) (k : Bool) : dataR (a :: b :: t, k) = if a.toNat * 256 + b.toNat ≤ t.length then (baB (t.take (a.toNat * 256 + b.toNat)), (t.drop (a.toNat * 256 + b.toNat), k)) else (e0, (a :: b :: t, true)) := rfl
theorem one_bad {c : Cur} (h : c.2 = true) : (oneR c).2.2 = true := by
  obtain ⟨L, k⟩ := c
  cases L with
  | nil => rfl
  | cons b t => exact h
theorem data_inv {L : Bs} {k : Bool} {s : ByteArray} {L' : Bs} (h : dataR (L, k) = (s, (L', false))) : L = dataB s ++ L' ∧ k = false ∧ s.size ≤ 65535 := by
  rcases L with _ | ⟨a, _ | ⟨b, t⟩⟩
  · cases h
  · cases h
  · rw [data_cons] at h
    split at h
    · rename_i hle
      simp only [Prod.mk.injEq] at h
      obtain ⟨rfl, rfl, rfl⟩ := h
      have ha := a.toNat_lt
      have hb := b.toNat_lt
      have hsz : (baB (t.take (a.toNat * 256 + b.toNat))).size = a.toNat * 256 + b.toNat := by
        show (t.take (a.toNat * 256 + b.toNat)).toArray.size = _
        simp; omega
      refine ⟨?_, rfl, by omega⟩
      unfold dataB wordB
      rw [hsz, bl_baB]
      have e1 : byteN ((a.toNat * 256 + b.toNat) / 256) = a := by
        apply UInt8.toNat_inj.1
        rw [byteN_nat _ (by omega)]; omega
      have e2 : byteN ((a.toNat * 256 + b.toNat) % 256) = b := by
        apply UInt8.toNat_inj.1
        rw [byteN_nat _ (by omega)]; omega
      rw [e1, e2]
      simp
    · cases h
theorem text_inv {L : Bs} {k : Bool} {s : ByteArray} {L' : Bs} (h : textR (L, k) = (s, (L', false))) : L = dataB s ++ L' ∧ k = false ∧ s.size ≤ 65535 ∧ validL (bl s) = true := by
  unfold textR at h
  split at h
  · rename_i hv
    have := data_inv h
    rw [h] at hv
    exact ⟨this.1, this.2.1, this.2.2, hv⟩
  · cases h
end Go.Proofs.YtfljdlaelanliaaDoor

/- Plain mathematics of reading: what is read is what is written again, but for the length's own bytes. No program. -/
namespace Go.Proofs.YtfljdlaelanliaaDoor

theorem data_size (c : Cur) : (dataR c).1.size ≤ 65535 := by
  obtain ⟨L, k⟩ := c
  rcases L with _ | ⟨a, _ | ⟨b, t⟩⟩
  · exact Nat.zero_le _
  · exact Nat.zero_le _
  · rw [data_cons]
    split
    · have ha := a.toNat_lt
      have hb := b.toNat_lt
      show (t.take (a.toNat * 256 + b.toNat)).toArray.size ≤ _
      simp; omega
    · exact Nat.zero_le _
theorem text_size (c : Cur) : (textR c).1.size ≤ 65535 := by
  unfold textR
  split
  · exact data_size c
  · exact Nat.zero_le _
theorem opt_size {P : Prop} [Decidable P] {x : ByteArray × Cur} {c : Cur} (h : x.1.size ≤ 65535) : (if P then x else (e0, c)).1.size ≤ 65535 := by
  split
  · exact h
  · exact Nat.zero_le _
theorem one_lt (c : Cur) : (oneR c).1 < 256 := by
  obtain ⟨L, k⟩ := c
  cases L with
  | nil => exact Nat.zero_lt_succ _
  | cons b t => exact b.toNat_lt
theorem word_lt (c : Cur) : (wordR c).1 < 65536 := by
  obtain ⟨L, k⟩ := c
  rcases L with _ | ⟨a, _ | ⟨b, t⟩⟩
  · exact Nat.zero_lt_succ _
  · exact Nat.zero_lt_succ _
  · have ha := a.toNat_lt
    have hb := b.toNat_lt
    show a.toNat * 256 + b.toNat < _
    omega
theorem word_len (c : Cur) : (wordR c).2.1.length ≤ c.1.length := by
  obtain ⟨L, k⟩ := c
  rcases L with _ | ⟨a, _ | ⟨b, t⟩⟩
  · exact Nat.le_refl _
  · exact Nat.le_refl _
  · show t.length ≤ t.length + 1 + 1
    omega
theorem data_len (c : Cur) : (dataR c).2.1.length ≤ c.1.length := by
  obtain ⟨L, k⟩ := c
  rcases L with _ | ⟨a, _ | ⟨b, t⟩⟩
  · exact Nat.le_refl _
  · exact Nat.le_refl _
  · rw [data_cons]
    split
    · show (t.drop _).length ≤ t.length + 1 + 1
      rw [List.length_drop]; omega
    · exact Nat.le_refl _
theorem text_len (c : Cur) : (textR c).2.1.length ≤ c.1.length := by
  unfold textR
  split
  · exact data_len c
  · exact Nat.le_refl _
theorem subsR_pk (ty : Nat) : ∀ (f : Nat) (c : Cur) (acc : List Sb), (∀ x ∈ acc, x.1.size ≤ 65535 ∧ x.2 < 256) → (subsR ty f c acc).1.length ≤ acc.length + f ∧ ∀ x ∈ (subsR ty f c acc).1, x.1.size ≤ 65535 ∧ x.2 < 256
  | 0, c, acc, h => ⟨Nat.le_refl _, h⟩
  | f + 1, c, acc, h => by
    unfold subsR
    split
    · exact ⟨by simp only; omega, h⟩
    · have ih := subsR_pk ty f (if ty = 8 then oneR (textR c).2 else (0, (textR c).2)).2 (acc ++ [((textR c).1, (if ty = 8 then oneR (textR c).2 else (0, (textR c).2)).1)]) (by
        intro x hx
        rcases List.mem_append.1 hx with hx | hx
        · exact h x hx
        · simp at hx
          subst hx
          refine ⟨text_size c, ?_⟩
          split
          · exact one_lt _
          · exact Nat.zero_lt_succ _)
      refine ⟨?_, ih.2⟩
      have := ih.1
      rw [List.length_append] at this
      simp only [List.length_singleton] at this
      simp only
      omega
theorem pk_con (b f k : Nat) (n wt wp u s : ByteArray) (h1 : b < 256) (h3 : k < 65536) (h4 : n.size ≤ 65535) (h5 : wt.size ≤ 65535) (h6 : wp.size ≤ 65535) (h7 : u.size ≤ 65535) (h8 : s.size ≤ 65535) :
    PkOk { Pk.zero with ty := 1, level := b, clean := decide (f / 2 % 2 = 1), hasWill := decide (f / 4 % 2 = 1), wqos := f / 8 % 4, wret := decide (f / 32 % 2 = 1), hasPass := decide (f / 64 % 2 = 1), hasUser := decide (f / 128 % 2 = 1), keep := k, client := n, wtopic := wt, wpayload := wp, user := u, pass := s } := by
  simp only [Pk.zero]
  constructor
  all_goals dsimp only
  all_goals first
    | omega
    | (show (0 : Nat) ≤ _; omega)
    | (intro x hx; cases hx)
theorem conR_pk (c : Cur) : PkOk (conR c).1 := by
  refine pk_con _ _ _ _ _ _ _ _ (one_lt _) (word_lt _) (text_size _) (opt_size (text_size _)) (opt_size (data_size _)) (opt_size (text_size _)) (opt_size (data_size _))
theorem baB_size (L : Bs) : (baB L).size = L.length := rfl
theorem allR_pk (ty fl : Nat) (hty : ty < 16) (c : Cur) (hc : c.1.length ≤ 90000000) : PkOk (allR ty fl c).1 := by
  have hw := word_len c
  have ht := word_len (textR c).2
  have ht2 := text_len c
  unfold allR
  split
  · exact conR_pk c
  split
  · simp only [Pk.zero]
    constructor
    all_goals dsimp only
    all_goals first
      | omega
      | exact one_lt _
      | (show (0 : Nat) ≤ _; omega)
      | (intro x hx; cases hx)
  split
  · have hi : (if 0 < fl / 2 % 4 then wordR (textR c).2 else (0, (textR c).2)).1 < 65536 := by
      split
      · exact word_lt _
      · exact Nat.zero_lt_succ _
    have hp : (if 0 < fl / 2 % 4 then wordR (textR c).2 else (0, (textR c).2)).2.1.length ≤ 90000000 := by
      split
      · omega
      · show (textR c).2.1.length ≤ _
        omega
    dsimp only
    generalize (if 0 < fl / 2 % 4 then wordR (textR c).2 else (0, (textR c).2)) = x at hi hp ⊢
    simp only [Pk.zero]
    constructor
    all_goals dsimp only
    all_goals first
      | omega
      | exact Nat.le_trans (text_size _) (by omega)
      | (show (0 : Nat) ≤ _; omega)
      | (intro x hx; cases hx)
      | exact Nat.le_trans (Nat.le_of_eq (baB_size _)) (by omega)
  split
  · simp only [Pk.zero]
    constructor
    all_goals dsimp only
    all_goals first
      | omega
      | (show (0 : Nat) ≤ _; omega)
      | (intro x hx; cases hx)
  simp only []
  have hi := word_lt c
  generalize wordR c = x at hi hw ⊢
  split
  · simp only [Pk.zero]
    constructor
    all_goals dsimp only
    all_goals first
      | omega
      | (show (0 : Nat) ≤ _; omega)
      | (intro x hx; cases hx)
      | exact Nat.le_trans (Nat.le_of_eq (baB_size _)) (by omega)
  split
  · have hs := subsR_pk ty (x.2.1.length + 1) x.2 [] (fun x hx => by cases hx)
    generalize subsR ty (x.2.1.length + 1) x.2 [] = y at hs ⊢
    simp only [List.length_nil] at hs
    simp only [Pk.zero]
    constructor
    all_goals dsimp only
    all_goals first
      | omega
      | (show (0 : Nat) ≤ _; omega)
      | exact fun z hz => ⟨Nat.le_trans (hs.2 z hz).1 (by omega), (hs.2 z hz).2⟩
  · simp only [Pk.zero]
    constructor
    all_goals dsimp only
    all_goals first
      | omega
      | (show (0 : Nat) ≤ _; omega)
      | (intro x hx; cases hx)
theorem lenRf_inv : ∀ (f sc acc u : Nat) (L : Bs) (m u' : Nat), lenRf f sc acc u L = (m, u', 0) → ∃ j, 1 ≤ j ∧ j ≤ f ∧ u' = u + j ∧ j ≤ L.length ∧ m + sc ≤ acc + sc * 128 ^ j
  | 0, sc, acc, u, L, m, u', h => by simp [lenRf] at h
  | f + 1, sc, acc, u, [], m, u', h => by simp [lenRf] at h
  | f + 1, sc, acc, u, c :: t, m, u', h => by
    unfold lenRf at h
    split at h
    · rename_i hc
      simp only [Prod.mk.injEq] at h
      obtain ⟨rfl, rfl, _⟩ := h
      refine ⟨1, by omega, by omega, rfl, by simp, ?_⟩
      have : c.toNat % 128 * sc ≤ 127 * sc := Nat.mul_le_mul_right _ (by omega)
      rw [Nat.pow_one, Nat.mul_comm sc 128]
      omega
    · obtain ⟨j, h1, h2, h3, h4, h5⟩ := lenRf_inv f _ _ _ t m u' h
      refine ⟨j + 1, by omega, by omega, by omega, by rw [List.length_cons]; omega, ?_⟩
      have : c.toNat % 128 * sc ≤ 127 * sc := Nat.mul_le_mul_right _ (by omega)
      have e : sc * 128 ^ (j + 1) = sc * 128 * 128 ^ j := by rw [Nat.pow_succ, Nat.mul_comm (128 ^ j) 128, Nat.mul_assoc]
      rw [e]
      omega
theorem lenR_inv {L : Bs} {m u : Nat} (h : lenR L = (m, u, 0)) : 1 ≤ u ∧ u ≤ 4 ∧ u ≤ L.length ∧ lenS m ≤ u ∧ m ≤ 268435455 := by
  obtain ⟨j, h1, h2, h3, h4, h5⟩ := lenRf_inv _ _ _ _ _ _ _ h
  have : u = j := by omega
  subst this
  have hu : u = 1 ∨ u = 2 ∨ u = 3 ∨ u = 4 := by omega
  unfold lenS
  rcases hu with rfl | rfl | rfl | rfl <;> simp only [Nat.reducePow] at h5 <;> refine ⟨by omega, by omega, by omega, ?_, by omega⟩ <;> (repeat' split) <;> omega
theorem lenRf_zero : ∀ (f sc acc u : Nat) (L : Bs), (lenRf f sc acc u L).2.2 ≠ 0 → (lenRf f sc acc u L).1 = 0 ∧ (lenRf f sc acc u L).2.1 = 0
  | 0, sc, acc, u, L, h => ⟨rfl, rfl⟩
  | f + 1, sc, acc, u, [], h => ⟨rfl, rfl⟩
  | f + 1, sc, acc, u, c :: t, h => by
    unfold lenRf at h ⊢
    split at h
    · exact absurd rfl h
    · rename_i hc
      rw [if_neg hc]
      exact lenRf_zero f _ _ _ t h
end Go.Proofs.YtfljdlaelanliaaDoor

/- Plain mathematics of cutting bytes into packets: the same bytes in whatever pieces tell the same row. No program. -/
namespace Go.Proofs.YtfljdlaelanliaaDoor
theorem lenRf_take : ∀ (f sc acc u k : Nat) (L : Bs), f ≤ k → lenRf f sc acc u (L.take k) = lenRf f sc acc u L
  | 0, _, _, _, _, _, _ => rfl
  | _ + 1, _, _, _, k, [], _ => by rw [List.take_nil]
  | f + 1, sc, acc, u, 0, c :: t, h => absurd h (by omega)
  | f + 1, sc, acc, u, k + 1, c :: t, h => by
    rw [List.take_succ_cons]
    simp only [lenRf]
    split
    · rfl
    · exact lenRf_take f _ _ _ k t (by omega)
theorem lenR_take (L : Bs) (k : Nat) (h : 4 ≤ k) : lenR (L.take k) = lenR L := lenRf_take 4 1 0 0 k L h
/-- How many bytes the packet has that is there (0: none is), the error. -/
def wholeR (m : Nat) : Bs → Nat × Nat
  | [] => (0, 0)
  | b :: t =>
    if firstOk b.toNat = false then (0, 4)
    else if (lenR t).2.2 = 2 then (0, 0)
    else if (lenR t).2.2 ≠ 0 then (0, (lenR t).2.2)
    else if m < 1 + (lenR t).2.1 + (lenR t).1 then (0, 3)
    else if t.length + 1 < 1 + (lenR t).2.1 + (lenR t).1 then (0, 0)
    else (1 + (lenR t).2.1 + (lenR t).1, 0)
/-- The next packet, if one is told; what is left; the error. -/
def nextR (m : Nat) (L : Bs) : Option Pk × Bs × Nat :=
  if (wholeR m L).2 ≠ 0 then (none, [], (wholeR m L).2)
  else if (wholeR m L).1 = 0 then (none, L, 0)
  else if (decR (L.take (wholeR m L).1)).2.2 ≠ 0 then (none, [], (decR (L.take (wholeR m L).1)).2.2)
  else (some (decR (L.take (wholeR m L).1)).1, L.drop (wholeR m L).1, 0)
theorem whole_le {m : Nat} {L : Bs} : (wholeR m L).1 ≤ L.length ∧ ((wholeR m L).1 ≠ 0 → 2 ≤ (wholeR m L).1 ∧ (wholeR m L).2 = 0 ∧ (wholeR m L).1 ≤ m) := by
  cases L with
  | nil => exact ⟨Nat.le_refl _, fun h => absurd rfl h⟩
  | cons b t =>
    simp only [wholeR]
    split
    · exact ⟨Nat.zero_le _, fun h => absurd rfl h⟩
    split
    · exact ⟨Nat.zero_le _, fun h => absurd rfl h⟩
    split
    · exact ⟨Nat.zero_le _, fun h => absurd rfl h⟩
    split
    · exact ⟨Nat.zero_le _, fun h => absurd rfl h⟩
    split
    · exact ⟨Nat.zero_le _, fun h => absurd rfl h⟩
    · rename_i h1 h2 h3 h4 h5
      have h6 := lenR_inv (L := t) (m := (lenR t).1) (u := (lenR t).2.1) (by
        have : (lenR t).2.2 = 0 := by simpa using h3
        rw [← this])
      refine ⟨by rw [List.length_cons]; simp only; omega, fun _ => ⟨by simp only; omega, rfl, by simp only; omega⟩⟩
theorem next_some {m : Nat} {L : Bs} {p : Pk} {t : Bs} {e : Nat} (h : nextR m L = (some p, t, e)) : e = 0 ∧ (wholeR m L).1 ≠ 0 ∧ (wholeR m L).2 = 0 ∧ t = L.drop (wholeR m L).1 ∧ (decR (L.take (wholeR m L).1)).2.2 = 0 ∧ p = (decR (L.take (wholeR m L).1)).1 := by
  unfold nextR at h
  split at h
  · cases h
  split at h
  · cases h
  split at h
  · cases h
  · rename_i h1 h2 h3
    simp only [Prod.mk.injEq, Option.some.injEq] at h
    exact ⟨h.2.2.symm, h2, by simpa using h1, h.2.1.symm, by simpa using h3, h.1.symm⟩
theorem next_short {m : Nat} {L : Bs} {p : Pk} {t : Bs} {e : Nat} (h : nextR m L = (some p, t, e)) : t.length + 2 ≤ L.length := by
  obtain ⟨_, h1, _, h2, _, _⟩ := next_some h
  have h3 := @whole_le m L
  have h4 := h3.2 h1
  rw [h2, List.length_drop]
  omega
theorem next_none {m : Nat} {L : Bs} {t : Bs} {e : Nat} (h : nextR m L = (none, t, e)) : (e = 0 ∧ t = L) ∨ (e ≠ 0 ∧ t = []) := by
  unfold nextR at h
  split at h
  · simp only [Prod.mk.injEq] at h
    rename_i h1
    exact Or.inr ⟨by rw [← h.2.2]; exact h1, h.2.1.symm⟩
  split at h
  · simp only [Prod.mk.injEq] at h
    exact Or.inl ⟨h.2.2.symm, h.2.1.symm⟩
  split at h
  · simp only [Prod.mk.injEq] at h
    rename_i h1
    exact Or.inr ⟨by rw [← h.2.2]; exact h1, h.2.1.symm⟩
  · cases h
/-- All that is told, what is left, the error. -/
def drainR (m : Nat) : Nat → Bs → List Pk × Bs × Nat
  | 0, L => ([], L, 0)
  | f + 1, L => match nextR m L with
    | (some p, t, _) => (p :: (drainR m f t).1, (drainR m f t).2)
    | (none, t, e) => ([], t, e)
def tellR (m : Nat) (L : Bs) : List Pk × Bs × Nat := drainR m (L.length + 1) L
theorem drain_enough (m : Nat) : ∀ (f g : Nat) (L : Bs), L.length < f → L.length < g → drainR m f L = drainR m g L
  | 0, _, _, h, _ => absurd h (by omega)
  | _, 0, _, _, h => absurd h (by omega)
  | f + 1, g + 1, L, hf, hg => by
    rcases hn : nextR m L with ⟨q, t, e⟩
    cases q with
    | none => simp only [drainR, hn]
    | some p =>
      have := next_short hn
      simp only [drainR, hn]
      rw [drain_enough m f g t (by omega) (by omega)]
theorem tell_some {m : Nat} {L : Bs} {p : Pk} {t : Bs} {e : Nat} (h : nextR m L = (some p, t, e)) : tellR m L = (p :: (tellR m t).1, (tellR m t).2) := by
  have := next_short h
  unfold tellR
  rw [drain_enough m (t.length + 1) L.length t (by omega) (by omega)]
  simp only [drainR, h]
theorem tell_none {m : Nat} {L : Bs} {t : Bs} {e : Nat} (h : nextR m L = (none, t, e)) : tellR m L = ([], t, e) := by
  unfold tellR
  simp only [drainR, h]
end Go.Proofs.YtfljdlaelanliaaDoor

/- Plain mathematics: what a row of written packets tells, one by one. No program. -/
namespace Go.Proofs.YtfljdlaelanliaaDoor
end Go.Proofs.YtfljdlaelanliaaDoor

/- Plain mathematics: the bytes of a packet that is not great are few. No program. -/
namespace Go.Proofs.YtfljdlaelanliaaDoor
end Go.Proofs.YtfljdlaelanliaaDoor

