/- Plain mathematics of reading: any first byte, length and rest; what is cut; a longer length; other levels, other names. No program. -/
import Derived.Test.YtcghokbcjbbbhaaDoorJoinB
namespace Go.Proofs.YtcghokbcjbbbhaaDoor

theorem dec_gen (b : UInt8) (hf : firstOk b.toNat = true) (LB : Bs) (n : Nat) (hl : ∀ X, lenR (LB ++ X) = (n, LB.length, 0)) (R : Bs) (hR : R.length = n) (t : Bs) :
    decR (b :: (LB ++ (R ++ t))) = if (bodyR b.toNat R).2 ≠ 0 then (Pk.zero, 0, (bodyR b.toNat R).2) else ((bodyR b.toNat R).1, 1 + LB.length + n, 0) := by
  simp only [decR]
  rw [hf, hl]
  simp only [ne_eq, not_true_eq_false, if_false, Bool.true_eq_false]
  rw [if_neg (by rw [List.length_append, List.length_append]; omega)]
  have e3 : ((LB ++ (R ++ t)).drop LB.length).take n = R := by rw [List.drop_left, ← hR, List.take_left]
  rw [e3]
theorem lenR_long (n : Nat) (h : n < 128) (X : Bs) : lenR ([byteN (n + 128), 0] ++ X) = (n, 2, 0) := by
  have e : byteN (n + 128) = byteN (n % 128 + 128) := by rw [Nat.mod_eq_of_lt h]
  show lenRf 4 1 0 0 (byteN (n + 128) :: (0 :: X)) = _
  rw [e, lenRf_step]
  show lenRf 3 _ _ _ (byteN 0 :: X) = _
  rw [lenRf_last _ _ _ _ _ (by omega), Nat.mod_eq_of_lt h]
  simp
/-- With a length's byte more. -/
theorem dec_long (p : Pk) (hp : PkOk p) (h0 : 0 ≤ restP p) (n : Nat) (hn : restP p = (n : Int)) (hlt : n < 128) (t : Bs) : decR (byteN (16 * p.ty + flagsN p) :: ([byteN (n + 128), 0] ++ (restB p ++ t))) = (p, n + 3, 0) := by
  have hrl := restB_len p hp h0
  have hty := rest_types h0
  have hf := flags_lt' p (fun h3 => (pub_parts h3 h0).2.1)
  rw [dec_gen _ (by rw [byteN_nat _ (by omega)]; exact firstOk_enc p h0) _ n (fun X => lenR_long n hlt X) (restB p) (by omega) t]
  rw [byteN_nat _ (by omega), bodyR_ok p hp h0]
  simp only [ne_eq, not_true_eq_false, if_false, List.length_cons, List.length_nil]
  congr 2
  omega
theorem lenR_cut (n : Nat) (h : n ≤ 268435455) (k : Nat) (hk : k < lenS n) : lenR ((lenB n).take k) = (0, 0, 2) := by
  unfold lenR lenB
  unfold lenS at hk
  rcases k with _ | k
  · rfl
  by_cases h1 : n < 128
  · rw [if_pos h1] at hk; omega
  rw [if_neg h1] at hk
  rw [lenF, if_neg h1, List.take_succ_cons, lenRf_step]
  rcases k with _ | k
  · rfl
  by_cases h2 : n < 16384
  · rw [if_pos h2] at hk; omega
  rw [if_neg h2] at hk
  rw [lenF, if_neg (by omega), List.take_succ_cons, lenRf_step]
  rcases k with _ | k
  · rfl
  by_cases h3 : n < 2097152
  · rw [if_pos h3] at hk; omega
  rw [if_neg h3] at hk
  rw [lenF, if_neg (by omega), List.take_succ_cons, lenRf_step]
  rcases k with _ | k
  · rfl
  · omega
/-- What is written, cut anywhere, is ErrShort. -/
theorem dec_cut (p : Pk) (hp : PkOk p) (h0 : 0 ≤ restP p) (k : Nat) (hk : k < (encB p).length) : decR ((encB p).take k) = (Pk.zero, 0, 2) := by
  have hrl := restB_len p hp h0
  have hmx : restP p ≤ 268435455 := by unfold restP restOf; split <;> omega
  have hty := rest_types h0
  have hf := flags_lt' p (fun h3 => (pub_parts h3 h0).2.1)
  have hel := encB_len p hp h0
  obtain ⟨n, hn⟩ : ∃ n : Nat, restP p = (n : Int) := ⟨(restP p).toNat, by omega⟩
  rw [hn] at hrl hel
  have hll := lenB_len n (by omega)
  have e : encB p = byteN (16 * p.ty + flagsN p) :: (lenB n ++ restB p) := by
    unfold encB
    rw [hn]
    simp
  rw [e]
  rcases k with _ | k
  · rfl
  rw [List.take_succ_cons]
  simp only [decR]
  rw [byteN_nat _ (by omega), firstOk_enc p h0]
  simp only [Bool.true_eq_false, if_false]
  by_cases hc : k < lenS n
  · have e2 : (lenB n ++ restB p).take k = (lenB n).take k := by rw [List.take_append, show k - (lenB n).length = 0 by omega]; simp
    rw [e2, lenR_cut n (by omega) k hc]
    rfl
  · have e2 : (lenB n ++ restB p).take k = lenB n ++ (restB p).take (k - lenS n) := by rw [List.take_append, List.take_of_length_le (by omega), hll]
    rw [e2, lenR_len n (by omega)]
    simp only [ne_eq, not_true_eq_false, if_false]
    have hkn : k < lenS n + n := by
      have : (byteN (16 * p.ty + flagsN p) :: (lenB n ++ restB p)).length = (encB p).length := by rw [e]
      simp only [Int.toNat_natCast] at hel
      omega
    rw [if_pos (by rw [List.length_append, hll, List.length_take]; omega)]
theorem ba_ne {a b : ByteArray} (h : a ≠ b) : (a != b) = true := by
  show (!(a.data == b.data)) = true
  have : a.data ≠ b.data := by
    intro e
    apply h
    cases a; cases b
    simp only at e
    rw [e]
  simp [this]
theorem ba_eq {a b : ByteArray} (h : (a != b) = false) : a = b := by
  by_cases e : a = b
  · exact e
  · rw [ba_ne e] at h; cases h
theorem data_cons (a b : UInt8) (t : Bs) (k : Bool) : dataR (a :: b :: t, k) = if a.toNat * 256 + b.toNat ≤ t.length then (baB (t.take (a.toNat * 256 + b.toNat)), (t.drop (a.toNat * 256 + b.toNat), k)) else (e0, (a :: b :: t, true)) := rfl
theorem one_bad {c : Cur} (h : c.2 = true) : (oneR c).2.2 = true := by
  obtain ⟨L, k⟩ := c
  cases L with
  | nil => rfl
  | cons b t => exact h
theorem word_bad {c : Cur} (h : c.2 = true) : (wordR c).2.2 = true := by
  obtain ⟨L, k⟩ := c
  rcases L with _ | ⟨a, _ | ⟨b, t⟩⟩
  · rfl
  · rfl
  · exact h
theorem data_bad {c : Cur} (h : c.2 = true) : (dataR c).2.2 = true := by
  obtain ⟨L, k⟩ := c
  rcases L with _ | ⟨a, _ | ⟨b, t⟩⟩
  · rfl
  · rfl
  · rw [data_cons]
    split
    · exact h
    · rfl
theorem text_bad {c : Cur} (h : c.2 = true) : (textR c).2.2 = true := by
  unfold textR
  split
  · exact data_bad h
  · rfl
theorem data_inv {L : Bs} {k : Bool} {s : ByteArray} {L' : Bs} (h : dataR (L, k) = (s, (L', false))) : L = dataB s ++ L' ∧ k = false ∧ s.size ≤ 65535 := by
  rcases L with _ | ⟨a, _ | ⟨b, t⟩⟩
  · cases h
  · cases h
  · rw [data_cons] at h
    split at h
    · rename_i hle
      simp only [Prod.mk.injEq] at h
      obtain ⟨rfl, rfl, rfl⟩ := h
      have ha := a.toNat_lt
      have hb := b.toNat_lt
      have hsz : (baB (t.take (a.toNat * 256 + b.toNat))).size = a.toNat * 256 + b.toNat := by
        show (t.take (a.toNat * 256 + b.toNat)).toArray.size = _
        simp; omega
      refine ⟨?_, rfl, by omega⟩
      unfold dataB wordB
      rw [hsz, bl_baB]
      have e1 : byteN ((a.toNat * 256 + b.toNat) / 256) = a := by
        apply UInt8.toNat_inj.1
        rw [byteN_nat _ (by omega)]; omega
      have e2 : byteN ((a.toNat * 256 + b.toNat) % 256) = b := by
        apply UInt8.toNat_inj.1
        rw [byteN_nat _ (by omega)]; omega
      rw [e1, e2]
      simp
    · cases h
theorem text_inv {L : Bs} {k : Bool} {s : ByteArray} {L' : Bs} (h : textR (L, k) = (s, (L', false))) : L = dataB s ++ L' ∧ k = false ∧ s.size ≤ 65535 ∧ validL (bl s) = true := by
  unfold textR at h
  split at h
  · rename_i hv
    have := data_inv h
    rw [h] at hv
    exact ⟨this.1, this.2.1, this.2.2, hv⟩
  · cases h
theorem one_inv {L : Bs} {k : Bool} {n : Nat} {L' : Bs} (h : oneR (L, k) = (n, (L', false))) : L = byteN n :: L' ∧ k = false ∧ n < 256 := by
  rcases L with _ | ⟨a, t⟩
  · cases h
  · simp only [oneR, Prod.mk.injEq] at h
    obtain ⟨rfl, rfl, rfl⟩ := h
    exact ⟨by congr 1; apply UInt8.toNat_inj.1; rw [byteN_nat _ a.toNat_lt], rfl, a.toNat_lt⟩
theorem word_inv {L : Bs} {k : Bool} {n : Nat} {L' : Bs} (h : wordR (L, k) = (n, (L', false))) : L = wordB n ++ L' ∧ k = false ∧ n < 65536 := by
  rcases L with _ | ⟨a, _ | ⟨b, t⟩⟩
  · cases h
  · cases h
  · simp only [wordR, Prod.mk.injEq] at h
    obtain ⟨rfl, rfl, rfl⟩ := h
    have ha := a.toNat_lt
    have hb := b.toNat_lt
    refine ⟨?_, rfl, by omega⟩
    unfold wordB
    have e1 : byteN ((a.toNat * 256 + b.toNat) / 256) = a := by
      apply UInt8.toNat_inj.1
      rw [byteN_nat _ (by omega)]; omega
    have e2 : byteN ((a.toNat * 256 + b.toNat) % 256) = b := by
      apply UInt8.toNat_inj.1
      rw [byteN_nat _ (by omega)]; omega
    rw [e1, e2]; rfl
theorem conR_last {R : Bs} (h : (wordR ((oneR (oneR (textR (R, false)).2).2).2.1, (oneR (oneR (textR (R, false)).2).2).2.2 || ((textR (R, false)).1 != mqtt) || decide ((oneR (oneR (textR (R, false)).2).2).1 % 2 = 1))).2.2 = true) : (conR (R, false)).2.2 = true := by
  unfold conR
  simp only []
  generalize wordR _ = k at h ⊢
  generalize (oneR (oneR (textR (R, false)).2).2).1 = f
  have h1 := text_bad h
  generalize textR k.2 = n at h1 ⊢
  have h2 : (if f / 4 % 2 = 1 then textR n.2 else (e0, n.2)).2.2 = true := by split; exact text_bad h1; exact h1
  generalize (if f / 4 % 2 = 1 then textR n.2 else (e0, n.2)) = wt at h2 ⊢
  have h3 : (if f / 4 % 2 = 1 then dataR wt.2 else (e0, wt.2)).2.2 = true := by split; exact data_bad h2; exact h2
  generalize (if f / 4 % 2 = 1 then dataR wt.2 else (e0, wt.2)) = wp at h3 ⊢
  have h4 : (if f / 128 % 2 = 1 then textR wp.2 else (e0, wp.2)).2.2 = true := by split; exact text_bad h3; exact h3
  generalize (if f / 128 % 2 = 1 then textR wp.2 else (e0, wp.2)) = u at h4 ⊢
  split
  · exact data_bad h4
  · exact h4
/-- Another protocol's name: nothing is read. -/
theorem conR_bad {R : Bs} (h : R.take 6 ≠ dataB mqtt) : (conR (R, false)).2.2 = true := by
  refine conR_last (word_bad ?_)
  show ((oneR (oneR (textR (R, false)).2).2).2.2 || ((textR (R, false)).1 != mqtt) || _) = true
  rcases ht : textR (R, false) with ⟨s, L', k⟩
  cases k
  · have hi := text_inv ht
    have hs : s ≠ mqtt := by
      rintro rfl
      apply h
      rw [hi.1]
      have : (dataB mqtt).length = 6 := rfl
      rw [← this, List.take_left]
    have : (s != mqtt) = true := ba_ne hs
    simp only [this, Bool.or_true, Bool.true_or]
  · have := one_bad (c := (oneR (L', true)).2) (one_bad (c := (L', true)) rfl)
    simp only [this, Bool.true_or]
theorem bodyR_name {b : Nat} (hb : b / 16 = 1) {R : Bs} (h : R.take 6 ≠ dataB mqtt) : bodyR b R = (Pk.zero, 4) := by
  unfold bodyR
  rw [if_neg (by rintro ⟨_, _, h2, _⟩; exact h h2)]
  have : allR (b / 16) (b % 16) (R, false) = conR (R, false) := by unfold allR; rw [if_pos hb]
  simp only [this]
  rw [if_pos (Or.inl (conR_bad h))]
theorem bodyR_level {b : Nat} (hb : b / 16 = 1) (l : UInt8) (hl : l ≠ 4) (R : Bs) : bodyR b (dataB mqtt ++ l :: R) = ({ Pk.zero with ty := 1, level := l.toNat }, 0) := by
  unfold bodyR
  have e : (dataB mqtt).length = 6 := rfl
  have e1 : (dataB mqtt ++ l :: R).take 6 = dataB mqtt := by rw [← e, List.take_left]
  have e2 : (dataB mqtt ++ l :: R)[6]? = some l := by rw [List.getElem?_append_right (by omega)]; rfl
  rw [if_pos ⟨hb, by rw [List.length_append, List.length_cons]; omega, e1, by rw [e2]; intro h; injection h with h; exact hl h⟩]
  rw [List.getD_eq_getElem?_getD, e2]
  rfl
end Go.Proofs.YtcghokbcjbbbhaaDoor
