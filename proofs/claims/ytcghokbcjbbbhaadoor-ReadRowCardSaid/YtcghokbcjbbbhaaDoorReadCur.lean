/- The walks of text.Get and of the cursor's methods (package read). Conditions: the cursor's cells are the first two of a block of the caller's own; a machine's bound on the text's size; the decoder's tables lie as Go lays them. -/
import Derived.Test.YtcghokbcjbbbhaaDoorReadWord
import Derived.Test.YtcghokbcjbbbhaaDoorJoinC
namespace Go.Proofs.YtcghokbcjbbbhaaDoor
open Go.RowKit
/-- A cursor's cells, what follows them. -/
def curC (c : Cur) (C : List Value) : Array Value := (Value.string (baB c.1) :: Value.bool c.2 :: C).toArray
def readT (L : Bs) : ByteArray × Nat × Nat := if (readD L).2.2 = 0 ∧ validL (bl (readD L).1) = false then (e0, 0, 5) else readD L
theorem readD_size (L : Bs) : (readD L).1.size ≤ 65535 := by
  unfold readD
  split
  · exact Nat.zero_le _
  · show (((L.drop 2).take (readW L).1)).length ≤ _
    rw [List.length_take]
    have : (readW L).1 ≤ 65535 := by
      rcases readW_cases L with ⟨a, b, t, _, h⟩ | ⟨_, h⟩ <;> rw [h]
      · have h1 := a.toNat_lt
        have h2 := b.toNat_lt
        show a.toNat * 256 + b.toNat ≤ _
        omega
      · exact Nat.zero_le _
    omega
theorem text_Get (s : ByteArray) (hs : s.size ≤ 300000000) (w : World) (hE : Env w) : Calls Tryd.prog 106 #[.string s] w (RetD (readT (bl s)) w) := by
  have hG := text_GetData s hs w
  have hz := readD_size (bl s)
  unfold readT
  rcases hD : readD (bl s) with ⟨x, y, z⟩
  rw [hD] at hG hz
  obtain ⟨v, hv⟩ : ∃ v, validL (bl x) = v := ⟨_, rfl⟩
  have HV := Lib.hid (show ∀ w1, Below w.heap.size w w1 → Calls Tryd.prog 95 #[.string x] w1 fun e w' => e = .returned (.bool v) ∧ Below w1.heap.size w1 w' from fun w1 hb => by
    have := text_Valid x w1 (hE.below hb) (by simp only at hz; omega)
    rw [show x.data.toList = bl x from rfl, hv] at this
    exact this)
  have HG := Lib.hid hG
  clear hG hD hE hz
  by_cases h0 : z = 0
  · subst h0
    cases v
    · rw [if_pos ⟨rfl, hv⟩]
      clear hv
      go_enter Tryd.func106, Tryd.ntmps106
      go_wp2_with (first
        | (go_at_call 115; refine Calls.mono HG.out ?_; rintro e w1 ⟨rfl, hb1⟩)
        | (go_at_call 95; refine Calls.mono (HV.out _ hb1) ?_; rintro e w2 ⟨rfl, hb2⟩))
      go_ret3
      exact ⟨rfl, Below.then hb1 hb2⟩
    · rw [if_neg (by rintro ⟨_, h⟩; rw [hv] at h; cases h)]
      clear hv
      go_enter Tryd.func106, Tryd.ntmps106
      go_wp2_with (first
        | (go_at_call 115; refine Calls.mono HG.out ?_; rintro e w1 ⟨rfl, hb1⟩)
        | (go_at_call 95; refine Calls.mono (HV.out _ hb1) ?_; rintro e w2 ⟨rfl, hb2⟩))
      go_ret3
      exact ⟨rfl, Below.then hb1 hb2⟩
  · rw [if_neg (by rintro ⟨h, _⟩; exact h0 h)]
    have hz2 : ((z : Int) == 0) = false := by rw [beq_eq_false_iff_ne]; omega
    clear HV h0
    go_enter Tryd.func106, Tryd.ntmps106
    go_wp2_with (go_at_call 115; refine Calls.mono HG.out ?_; rintro e w1 ⟨rfl, hb1⟩)
    go_ret3
    exact ⟨rfl, hb1⟩
def RetC (w0 w : World) (X : Nat) (C : List Value) (T : TypeId) (B : List Box) (R : List Row) (v : Value) (c : Cur) (e : Ending) (w' : World) : Prop := e = .returned v ∧ Keep w0 ((X, curC c C, T) :: B) R w' ∧ Only (fun j => j = X) w w'
section
variable {w0 w : World} {X : Nat} {C : List Value} {T : TypeId} {B : List Box} {R : List Row}
theorem only_set {w1 : World} (h : Only (fun j => j = X) w w1) (i : Nat) (v : Value) : Only (fun j => j = X) w (w1.setCell ⟨X, i, none⟩ v) := h.setCell (F := fun j => j = X) (p := ⟨X, i, none⟩) (Or.inl rfl) v
theorem cur_keep {c : Cur} (HK : Keep w0 ((X, curC c C, T) :: B) R w) {w1 : World} (hb : Below w.heap.size w w1) (s : ByteArray) (k : Bool) :
    Keep w0 ((X, curC (bl s, k) C, T) :: B) R ((w1.setCell ⟨X, 1, none⟩ (.bool k)).setCell ⟨X, 0, none⟩ (.string s)) ∧ Only (fun j => j = X) w ((w1.setCell ⟨X, 1, none⟩ (.bool k)).setCell ⟨X, 0, none⟩ (.string s)) := by
  refine ⟨?_, only_set (only_set (Only.of_below hb _) _ _) _ _⟩
  have h1 := (HK.below hb).set (i := 0) rfl 1 (.bool k) rfl
  have h2 := h1.set (i := 0) rfl 0 (.string s) rfl
  have e : baB (bl s) = s := baB_bl s
  unfold curC
  rw [e]
  exact h2
theorem cur_one (c : Cur) (HK0 : Keep w0 ((X, curC c C, T) :: B) R w) : Calls Tryd.prog 90 #[.pointer (some ⟨X, 0, none⟩)] w (RetC w0 w X C T B R (.int .u8 ((oneR c).1 : Int)) (oneR c).2) := by
  have HK := Lib.hid HK0
  have hf0 := (HK0.at 0 rfl).frozen 0
  have hf1 := (HK0.at 0 rfl).frozen 1
  have hc0 : w.cell? ⟨X, 0, none⟩ = some (.string (baB c.1)) := (HK0.at 0 rfl).cells 0
  have hc1 : w.cell? ⟨X, 1, none⟩ = some (.bool c.2) := (HK0.at 0 rfl).cells 1
  clear HK0
  obtain ⟨L, k⟩ := c
  dsimp only at *
  cases L with
  | nil =>
    have he : baB ([] : Bs) = ⟨#[]⟩ := rfl
    rw [he] at hc0
    go_enter Tryd.func90, Tryd.ntmps90
    go_wp2_with fail
    go_ret
    exact ⟨rfl, HK.out.set (i := 0) rfl 1 (.bool true) rfl, only_set (Only.refl _ _) _ _⟩
  | cons b t =>
    obtain ⟨s, hs⟩ : ∃ s, baB (b :: t) = s := ⟨_, rfl⟩
    have hb := at_bl s 0 b (by rw [← hs]; rfl)
    obtain ⟨h1, h2⟩ := hb
    have hne : (s.toList == ([] : List UInt8)) = false := by
      rw [beq_eq_false_iff_ne, ← hs, Lib.toList_data]; intro h; cases h
    have HT := Lib.hid (show s.extract 1 s.size = baB t by
      apply bl_inj
      rw [bl_extract, ← hs, bl_baB, bl_baB]
      show (t.drop 0).take ((b :: t).length - 1) = t
      simp)
    have HS := Lib.hid hs
    rw [hs] at hc0
    clear hs
    go_enter Tryd.func90, Tryd.ntmps90
    go_wp2_with fail
    go_ret
    refine ⟨rfl, ?_⟩
    rw [HT.out]
    exact ⟨HK.out.set (i := 0) rfl 0 (.string (baB t)) rfl, only_set (Only.refl _ _) _ _⟩
theorem cur_end (c : Cur) (HK0 : Keep w0 ((X, curC c C, T) :: B) R w) : Calls Tryd.prog 93 #[.pointer (some ⟨X, 0, none⟩)] w (RetC w0 w X C T B R (.string (baB c.1)) ([], c.2)) := by
  have HK := Lib.hid HK0
  have hf0 := (HK0.at 0 rfl).frozen 0
  have hc0 : w.cell? ⟨X, 0, none⟩ = some (.string (baB c.1)) := (HK0.at 0 rfl).cells 0
  clear HK0
  obtain ⟨L, k⟩ := c
  dsimp only at *
  go_enter Tryd.func93, Tryd.ntmps93
  go_wp2_with fail
  go_ret
  exact ⟨rfl, HK.out.set (i := 0) rfl 0 (.string ⟨#[]⟩) rfl, only_set (Only.refl _ _) _ _⟩
theorem cut0 (s : ByteArray) : s.extract 0 s.size = s := by
  apply bl_inj
  rw [bl_extract, List.drop_zero]
  exact List.take_of_length_le (by rw [bl_len]; omega)
theorem readD_cases (L : Bs) (k : Bool) : (∃ x n t, L.drop n = t ∧ readD L = (x, n, 0) ∧ dataR (L, k) = (x, (t, k)) ∧ n ≤ L.length) ∨ (∃ z, z ≠ 0 ∧ readD L = (e0, 0, z) ∧ dataR (L, k) = (e0, (L, true))) := by
  rcases readW_cases L with ⟨a, b, t, hb, hr⟩ | ⟨hlt, hr⟩
  · subst hb
    rw [data_cons]
    unfold readD
    rw [hr]
    by_cases hc : a.toNat * 256 + b.toNat ≤ t.length
    · rw [if_neg (by simp; omega), if_pos hc]
      exact Or.inl ⟨_, _, _, by show (a :: b :: t).drop (2 + (a.toNat * 256 + b.toNat)) = t.drop (a.toNat * 256 + b.toNat); rw [Nat.add_comm]; simp only [List.drop_succ_cons], rfl, rfl, by simp; omega⟩
    · rw [if_pos (by simp; omega), if_neg hc]
      exact Or.inr ⟨2, by decide, rfl, rfl⟩
  · refine Or.inr ⟨2, by decide, by unfold readD; rw [hr, if_pos (Or.inl (by decide))], ?_⟩
    rcases L with _ | ⟨a, _ | ⟨b, t⟩⟩
    · rfl
    · rfl
    · simp at hlt; omega
theorem readT_cases (L : Bs) (k : Bool) : (∃ x n t, L.drop n = t ∧ readT L = (x, n, 0) ∧ textR (L, k) = (x, (t, k)) ∧ n ≤ L.length) ∨ (∃ z, z ≠ 0 ∧ readT L = (e0, 0, z) ∧ textR (L, k) = (e0, (L, true))) := by
  unfold readT textR
  rcases readD_cases L k with ⟨x, n, t, h1, h2, h3, h4⟩ | ⟨z, hz, h2, h3⟩
  · rw [h2, h3]
    cases hv : validL (bl x)
    · rw [if_pos ⟨rfl, rfl⟩, if_neg (by decide)]
      exact Or.inr ⟨5, by decide, rfl, rfl⟩
    · rw [if_neg (by rintro ⟨_, h⟩; cases h), if_pos rfl]
      exact Or.inl ⟨x, n, t, h1, rfl, rfl, h4⟩
  · rw [h2, h3, if_neg (by rintro ⟨h, _⟩; exact hz h)]
    refine Or.inr ⟨z, hz, rfl, ?_⟩
    split
    · rfl
    · rfl
set_option maxRecDepth 100000 in
theorem cur_word (c : Cur) (hc : c.1.length ≤ 300000000) (HK0 : Keep w0 ((X, curC c C, T) :: B) R w) : Calls Tryd.prog 92 #[.pointer (some ⟨X, 0, none⟩)] w (RetC w0 w X C T B R (.int .u16 ((wordR c).1 : Int)) (wordR c).2) := by
  have HK := Lib.hid HK0
  obtain ⟨L, k⟩ := c
  obtain ⟨s, hs⟩ : ∃ s, baB L = s := ⟨_, rfl⟩
  have hL : bl s = L := by rw [← hs, bl_baB]
  have hsz : s.size ≤ 300000000 := by rw [← bl_len, hL]; exact hc
  have hG := num_ReadWord s w
  rw [hL] at hG
  rcases readW_cases L with ⟨a, b, t, hb, hr⟩ | ⟨hlt, hr⟩
  · have h1 := a.toNat_lt
    have h2 := b.toNat_lt
    have hv : wordR (L, k) = (a.toNat * 256 + b.toNat, (t, k)) := by rw [hb]; rfl
    rw [hv]
    rw [hr] at hG
    have HT := Lib.hid (show s.extract 2 s.size = baB t by
      apply bl_inj
      rw [bl_extract, hL, hb, bl_baB, ← bl_len, hL, hb]
      simp)
    obtain ⟨n, hn⟩ : ∃ n, a.toNat * 256 + b.toNat = n := ⟨_, rfl⟩
    rw [hn] at hG ⊢
    have hn2 : n < 65536 := by omega
    have hu : 2 ≤ s.size := by rw [← bl_len, hL, hb]; simp
    clear hn hr hb hv h1 h2
    have hf0 := (HK0.at 0 rfl).frozen 0
    have hf1 := (HK0.at 0 rfl).frozen 1
    have HC := Lib.hid (show ∀ w1, Below w.heap.size w w1 → w1.cell? ⟨X, 0, none⟩ = some (.string s) ∧ w1.cell? ⟨X, 1, none⟩ = some (.bool k) ∧ w1.frozen? ⟨X, 0, none⟩ = false ∧ w1.frozen? ⟨X, 1, none⟩ = false from fun w1 hb => by
      have h := (HK0.below hb).at 0 rfl
      refine ⟨?_, h.cells 1, h.frozen 0, h.frozen 1⟩
      rw [← hs]
      exact h.cells 0)
    have hc0 := (HC.out w (Below.refl _ _)).1
    have HS := Lib.hid hs
    have HLL := Lib.hid hL
    have HG := Lib.hid hG
    clear HK0 hs hL hG hc
    cases k
    all_goals
      go_enter Tryd.func92, Tryd.ntmps92
      go_wp2_with (go_at_call 107; refine Calls.mono HG.out ?_; rintro e w1 ⟨rfl, hb1⟩; clear hc0 hf0 hf1; obtain ⟨hc0, hc1, hf0, hf1⟩ := HC.out w1 hb1)
      go_ret
      refine ⟨by first | rfl | (congr 2; simp [IntKind.wrap]; omega), ?_⟩
      rw [HT.out]
      have hk := cur_keep HK.out hb1 (baB t)
      rw [bl_baB] at hk
      exact hk _
  · have hv : wordR (L, k) = (0, (L, true)) := by
      rcases L with _ | ⟨a, _ | ⟨b, t⟩⟩
      · rfl
      · rfl
      · simp at hlt; omega
    rw [hv]
    rw [hr] at hG
    clear hr hv hlt
    have hf0 := (HK0.at 0 rfl).frozen 0
    have hf1 := (HK0.at 0 rfl).frozen 1
    have HC := Lib.hid (show ∀ w1, Below w.heap.size w w1 → w1.cell? ⟨X, 0, none⟩ = some (.string s) ∧ w1.cell? ⟨X, 1, none⟩ = some (.bool k) ∧ w1.frozen? ⟨X, 0, none⟩ = false ∧ w1.frozen? ⟨X, 1, none⟩ = false from fun w1 hb => by
      have h := (HK0.below hb).at 0 rfl
      refine ⟨?_, h.cells 1, h.frozen 0, h.frozen 1⟩
      rw [← hs]
      exact h.cells 0)
    have hc0 := (HC.out w (Below.refl _ _)).1
    have HS := Lib.hid hs
    have HLL := Lib.hid hL
    have HG := Lib.hid hG
    clear HK0 hs hL hG hc
    cases k
    all_goals
      go_enter Tryd.func92, Tryd.ntmps92
      go_wp2_with (go_at_call 107; refine Calls.mono HG.out ?_; rintro e w1 ⟨rfl, hb1⟩; clear hc0 hf0 hf1; obtain ⟨hc0, hc1, hf0, hf1⟩ := HC.out w1 hb1)
      go_ret
      refine ⟨rfl, ?_⟩
      have hk := cur_keep HK.out hb1 s
      rw [HLL.out] at hk
      try rw [cut0]
      exact hk _
set_option maxRecDepth 100000 in
theorem cur_text (c : Cur) (hc : c.1.length ≤ 300000000) (HK0 : Keep w0 ((X, curC c C, T) :: B) R w) : Calls Tryd.prog 91 #[.pointer (some ⟨X, 0, none⟩)] w (RetC w0 w X C T B R (.string (textR c).1) (textR c).2) := by
  have HK := Lib.hid HK0
  obtain ⟨L, k⟩ := c
  obtain ⟨s, hs⟩ : ∃ s, baB L = s := ⟨_, rfl⟩
  have hL : bl s = L := by rw [← hs, bl_baB]
  have hsz : s.size ≤ 300000000 := by rw [← bl_len, hL]; exact hc
  have hG := text_Get s hsz w HK0.env
  rw [hL] at hG
  rcases readT_cases L k with ⟨x, n, t, hb, hr, hv, hn⟩ | ⟨z, hz, hr, hv⟩
  · rw [hv]
    rw [hr] at hG
    have HT := Lib.hid (show s.extract n s.size = baB t by
      apply bl_inj
      rw [bl_extract, hL, hb, bl_baB, List.take_of_length_le (by rw [← hb, List.length_drop, ← bl_len, hL]; exact Nat.le_refl _)])
    have hu : n ≤ s.size := by rw [← bl_len, hL]; exact hn
    clear hr hb hv hn
    have hf0 := (HK0.at 0 rfl).frozen 0
    have hf1 := (HK0.at 0 rfl).frozen 1
    have HC := Lib.hid (show ∀ w1, Below w.heap.size w w1 → w1.cell? ⟨X, 0, none⟩ = some (.string s) ∧ w1.cell? ⟨X, 1, none⟩ = some (.bool k) ∧ w1.frozen? ⟨X, 0, none⟩ = false ∧ w1.frozen? ⟨X, 1, none⟩ = false from fun w1 hb => by
      have h := (HK0.below hb).at 0 rfl
      refine ⟨?_, h.cells 1, h.frozen 0, h.frozen 1⟩
      rw [← hs]
      exact h.cells 0)
    have hc0 := (HC.out w (Below.refl _ _)).1
    have HS := Lib.hid hs
    have HLL := Lib.hid hL
    have HG := Lib.hid hG
    clear HK0 hs hL hG hc
    cases k
    all_goals
      go_enter Tryd.func91, Tryd.ntmps91
      go_wp2_with (go_at_call 106; refine Calls.mono HG.out ?_; rintro e w1 ⟨rfl, hb1⟩; clear hc0 hf0 hf1; obtain ⟨hc0, hc1, hf0, hf1⟩ := HC.out w1 hb1)
      go_ret
      refine ⟨by first | rfl | (congr 2; simp [IntKind.wrap]; omega), ?_⟩
      rw [HT.out]
      have hk := cur_keep HK.out hb1 (baB t)
      rw [bl_baB] at hk
      exact hk _
  · rw [hv]
    rw [hr] at hG
    clear hr hv
    have hz2 : ((z : Int) != 0) = true := by rw [bne_iff_ne]; omega
    have hf0 := (HK0.at 0 rfl).frozen 0
    have hf1 := (HK0.at 0 rfl).frozen 1
    have HC := Lib.hid (show ∀ w1, Below w.heap.size w w1 → w1.cell? ⟨X, 0, none⟩ = some (.string s) ∧ w1.cell? ⟨X, 1, none⟩ = some (.bool k) ∧ w1.frozen? ⟨X, 0, none⟩ = false ∧ w1.frozen? ⟨X, 1, none⟩ = false from fun w1 hb => by
      have h := (HK0.below hb).at 0 rfl
      refine ⟨?_, h.cells 1, h.frozen 0, h.frozen 1⟩
      rw [← hs]
      exact h.cells 0)
    have hc0 := (HC.out w (Below.refl _ _)).1
    have HS := Lib.hid hs
    have HLL := Lib.hid hL
    have HG := Lib.hid hG
    clear HK0 hs hL hG hc
    cases k
    all_goals
      go_enter Tryd.func91, Tryd.ntmps91
      go_wp2_with (go_at_call 106; refine Calls.mono HG.out ?_; rintro e w1 ⟨rfl, hb1⟩; clear hc0 hf0 hf1; obtain ⟨hc0, hc1, hf0, hf1⟩ := HC.out w1 hb1)
      go_ret
      refine ⟨rfl, ?_⟩
      have hk := cur_keep HK.out hb1 s
      rw [HLL.out] at hk
      try rw [cut0]
      exact hk _
set_option maxRecDepth 100000 in
theorem cur_data (c : Cur) (hc : c.1.length ≤ 300000000) (HK0 : Keep w0 ((X, curC c C, T) :: B) R w) : Calls Tryd.prog 105 #[.pointer (some ⟨X, 0, none⟩)] w (RetC w0 w X C T B R (.string (dataR c).1) (dataR c).2) := by
  have HK := Lib.hid HK0
  obtain ⟨L, k⟩ := c
  obtain ⟨s, hs⟩ : ∃ s, baB L = s := ⟨_, rfl⟩
  have hL : bl s = L := by rw [← hs, bl_baB]
  have hsz : s.size ≤ 300000000 := by rw [← bl_len, hL]; exact hc
  have hG := text_GetData s hsz w
  rw [hL] at hG
  rcases readD_cases L k with ⟨x, n, t, hb, hr, hv, hn⟩ | ⟨z, hz, hr, hv⟩
  · rw [hv]
    rw [hr] at hG
    have HT := Lib.hid (show s.extract n s.size = baB t by
      apply bl_inj
      rw [bl_extract, hL, hb, bl_baB, List.take_of_length_le (by rw [← hb, List.length_drop, ← bl_len, hL]; exact Nat.le_refl _)])
    have hu : n ≤ s.size := by rw [← bl_len, hL]; exact hn
    clear hr hb hv hn
    have hf0 := (HK0.at 0 rfl).frozen 0
    have hf1 := (HK0.at 0 rfl).frozen 1
    have HC := Lib.hid (show ∀ w1, Below w.heap.size w w1 → w1.cell? ⟨X, 0, none⟩ = some (.string s) ∧ w1.cell? ⟨X, 1, none⟩ = some (.bool k) ∧ w1.frozen? ⟨X, 0, none⟩ = false ∧ w1.frozen? ⟨X, 1, none⟩ = false from fun w1 hb => by
      have h := (HK0.below hb).at 0 rfl
      refine ⟨?_, h.cells 1, h.frozen 0, h.frozen 1⟩
      rw [← hs]
      exact h.cells 0)
    have hc0 := (HC.out w (Below.refl _ _)).1
    have HS := Lib.hid hs
    have HLL := Lib.hid hL
    have HG := Lib.hid hG
    clear HK0 hs hL hG hc
    cases k
    all_goals
      go_enter Tryd.func105, Tryd.ntmps105
      go_wp2_with (go_at_call 115; refine Calls.mono HG.out ?_; rintro e w1 ⟨rfl, hb1⟩; clear hc0 hf0 hf1; obtain ⟨hc0, hc1, hf0, hf1⟩ := HC.out w1 hb1)
      go_ret
      refine ⟨by first | rfl | (congr 2; simp [IntKind.wrap]; omega), ?_⟩
      rw [HT.out]
      have hk := cur_keep HK.out hb1 (baB t)
      rw [bl_baB] at hk
      exact hk _
  · rw [hv]
    rw [hr] at hG
    clear hr hv
    have hz2 : ((z : Int) != 0) = true := by rw [bne_iff_ne]; omega
    have hf0 := (HK0.at 0 rfl).frozen 0
    have hf1 := (HK0.at 0 rfl).frozen 1
    have HC := Lib.hid (show ∀ w1, Below w.heap.size w w1 → w1.cell? ⟨X, 0, none⟩ = some (.string s) ∧ w1.cell? ⟨X, 1, none⟩ = some (.bool k) ∧ w1.frozen? ⟨X, 0, none⟩ = false ∧ w1.frozen? ⟨X, 1, none⟩ = false from fun w1 hb => by
      have h := (HK0.below hb).at 0 rfl
      refine ⟨?_, h.cells 1, h.frozen 0, h.frozen 1⟩
      rw [← hs]
      exact h.cells 0)
    have hc0 := (HC.out w (Below.refl _ _)).1
    have HS := Lib.hid hs
    have HLL := Lib.hid hL
    have HG := Lib.hid hG
    clear HK0 hs hL hG hc
    cases k
    all_goals
      go_enter Tryd.func105, Tryd.ntmps105
      go_wp2_with (go_at_call 115; refine Calls.mono HG.out ?_; rintro e w1 ⟨rfl, hb1⟩; clear hc0 hf0 hf1; obtain ⟨hc0, hc1, hf0, hf1⟩ := HC.out w1 hb1)
      go_ret
      refine ⟨rfl, ?_⟩
      have hk := cur_keep HK.out hb1 s
      rw [HLL.out] at hk
      try rw [cut0]
      exact hk _

end
end Go.Proofs.YtcghokbcjbbbhaaDoor
