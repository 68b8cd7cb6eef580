/- Plain mathematics of packets: names, filters, and what a field more makes of a rest. No program. -/
import Derived.Test.YtkphaihbdmjogaaDoorPlainPacket2
import Derived.Test.YtkphaihbdmjogaaDoorPlainLevels
namespace Go.Proofs.YtkphaihbdmjogaaDoor

/-- What the types of a packet's fields allow. -/
structure PkTy (p : Pk) : Prop where
  ty : p.ty < 256
  qos : p.qos < 256
  id : p.id < 65536
  level : p.level < 256
  keep : p.keep < 65536
  wqos : p.wqos < 256
  code : p.code < 256
  each : ∀ x ∈ p.subs, x.2 < 256
def sizesL (p : Pk) : List Nat := [p.topic.size, p.payload.size, p.client.size, p.wtopic.size, p.wpayload.size, p.user.size, p.pass.size, p.codes.size] ++ p.subs.map (·.1.size)
def greatB (p : Pk) : Bool := decide (100 < p.subs.length) || decide (10000 < (sizesL p).sum)
structure Small (p : Pk) : Prop where
  few : p.subs.length ≤ 100
  sum : (sizesL p).sum ≤ 10000
theorem small_of {p : Pk} (h : greatB p = false) : Small p := by
  unfold greatB at h
  simp at h
  exact ⟨by omega, by omega⟩
theorem Small.parts {p : Pk} (h : Small p) : p.topic.size + p.payload.size + p.client.size + p.wtopic.size + p.wpayload.size + p.user.size + p.pass.size + p.codes.size + (p.subs.map (·.1.size)).sum ≤ 10000 := by
  have := h.sum
  unfold sizesL at this
  simp at this
  omega
theorem le_sum {α : Type} (f : α → Nat) : ∀ (L : List α) (x : α), x ∈ L → f x ≤ (L.map f).sum
  | [], x, h => by cases h
  | y :: r, x, h => by
    rw [List.map_cons, List.sum_cons]
    rcases List.mem_cons.1 h with rfl | h
    · omega
    · have := le_sum f r x h; omega
theorem Small.ok {p : Pk} (h : Small p) (t : PkTy p) : PkOk p := by
  have hp := h.parts
  have hf := h.few
  refine ⟨t.ty, t.qos, t.id, t.level, t.keep, t.wqos, t.code, by omega, by omega, by omega, by omega, by omega, by omega, by omega, by omega, by omega, fun x hx => ⟨?_, t.each x hx⟩⟩
  have := le_sum (fun x : Sb => x.1.size) p.subs x hx
  omega

/- Names and filters. -/
def topicP (s : ByteArray) : Pk := { Pk.zero with ty := 3, topic := s }
def filterP (s : ByteArray) : Pk := { Pk.zero with ty := 10, id := 1, subs := [(s, 0)] }
def willP (s : ByteArray) : Pk := { Pk.zero with ty := 1, level := 4, hasWill := true, wtopic := s }
theorem name_len {s : Bs} (h : nameL s = true) : s.length ≤ 65535 := by
  unfold nameL validL at h
  simp at h
  exact h.1.2.1
theorem filter_len {s : Bs} (h : filterL s = true) : s.length ≤ 65535 := by
  unfold filterL validL at h
  simp at h
  exact h.1.2.1
theorem blen (s : ByteArray) : (bl s).length = s.size := by simp [bl]
theorem topic_right (s : ByteArray) : decide (0 ≤ restP (topicP s)) = nameL (bl s) := by
  have hb : bareB (topicP s) = true := (zeros_iff _).2 (by constructor <;> simp [topicP, Pk.zero])
  have ht : typeN (topicP s) = publishN (topicP s) := rfl
  unfold restP
  rw [hb, ht]
  unfold publishN
  cases hn : nameL (bl s)
  · have : nameL (bl (topicP s).topic) = false := hn
    rw [if_pos (Or.inl this)]; rfl
  · have h1 : nameL (bl (topicP s).topic) = true := hn
    have hl := name_len hn
    rw [blen] at hl
    have h2 : (topicP s).topic.size = s.size := rfl
    rw [h1, h2]
    simp [topicP, Pk.zero, restOf, e0_size]
    have a1 : ¬ (2 + (s.size : Int) < 0) := by omega
    have a2 : ¬ (268435455 < 2 + (s.size : Int)) := by omega
    simp [a1, a2]; omega
theorem filter_right (s : ByteArray) : decide (0 ≤ restP (filterP s)) = filterL (bl s) := by
  have hb : bareB (filterP s) = true := (zeros_iff _).2 (by constructor <;> simp [filterP, Pk.zero])
  have ht : typeN (filterP s) = subsN (filterP s) := rfl
  unfold restP
  rw [hb, ht]
  unfold subsN
  have h0 : ¬ ((filterP s).id = 0 ∨ (filterP s).subs = []) := by simp [filterP]
  rw [if_neg h0]
  have h1 : (filterP s).subs.all (subOk (mostN (filterP s))) = filterL (bl s) := by simp [filterP, subOk, fB]
  have h2 : subsLen (moreN (filterP s)) (filterP s).subs = 2 + s.size := by simp [filterP, moreN, subsLen]
  rw [h1, h2]
  cases hn : filterL (bl s)
  · rfl
  · have hl := filter_len hn
    rw [blen] at hl
    rw [if_pos rfl]
    unfold restOf
    have a : ¬ (2 + ((2 + s.size : Nat) : Int) < 0 ∨ 268435455 < 2 + ((2 + s.size : Nat) : Int) ∨ true = false) := by simp; omega
    rw [if_neg a]; simp; omega
theorem will_right (s : ByteArray) : decide (0 ≤ restP (willP s)) = nameL (bl s) := by
  have hb : bareB (willP s) = true := (zeros_iff _).2 (by constructor <;> simp [willP, Pk.zero])
  have ht : typeN (willP s) = connectN (willP s) := rfl
  unfold restP
  rw [hb, ht]
  unfold connectN
  have h1 : connectOk (willP s) = nameL (bl s) := by
    have e1 : (willP s).level = 4 := rfl
    have e2 : (willP s).client = e0 := rfl
    have e3 : (willP s).user = e0 := rfl
    have e4 : (willP s).pass = e0 := rfl
    have e5 : willOk (willP s) = nameL (bl s) := by
      unfold willOk
      simp [willP, Pk.zero, e0_size]
    have e6 : userOk (willP s) = true := rfl
    have e7 : passOk (willP s) = true := rfl
    unfold connectOk
    rw [e1, e2, e3, e4, e5, e6, e7, e0_bl, valid_nil, e0_size]; simp
  have h2 : connectLen (willP s) = 16 + s.size := by
    unfold connectLen
    simp [willP, Pk.zero, e0_size]; omega
  rw [h1, h2]
  cases hn : nameL (bl s)
  · rfl
  · have hl := name_len hn
    rw [blen] at hl
    rw [if_pos rfl]
    unfold restOf
    have a : ¬ (((16 + s.size : Nat) : Int) < 0 ∨ 268435455 < ((16 + s.size : Nat) : Int) ∨ true = false) := by simp; omega
    rw [if_neg a]; simp; omega
def wildB (s : Bs) : Bool := s.any fun b => b == 43 || b == 35
def hashB' (s : Bs) : Bool := s.any fun b => b == 35
theorem plain_wild (s : Bs) : plainL s = !wildB s := by
  unfold plainL wildB
  rw [Bool.eq_iff_iff]
  simp
theorem name_filter (s : Bs) : nameL s = (filterL s && !wildB s) := by
  rw [← plain_wild]
  cases h : plainL s with
  | false => unfold nameL; rw [h]; simp
  | true =>
    rw [Bool.and_true]
    unfold nameL filterL
    rw [h, filterLv_plain _ (by rw [plain_levels]; exact h)]
/-- A level that is more than a + and has no # is plain. -/
theorem hash_levels : ∀ s : Bs, hashB' s = (levelsL s).any hashB'
  | [] => rfl
  | b :: t => by
    have ih := hash_levels t
    unfold levelsL
    by_cases h : b = 47
    · subst h
      rw [if_pos rfl]
      show ((47 : UInt8) == 35 || hashB' t) = _
      rw [ih]; rfl
    · rw [if_neg h]
      show (b == 35 || hashB' t) = _
      rw [ih]
      cases hl : levelsL t with
      | nil => exact absurd hl (levelsL_ne t)
      | cons x r =>
        show _ = ((b == 35 || hashB' x) || r.any hashB')
        rw [List.any_cons, Bool.or_assoc]
theorem level_hash (x : Bs) : levelL x false = true → hashB' x = false := by
  unfold levelL
  intro h
  simp only [Bool.or_eq_true, Bool.and_false, Bool.false_eq_true, or_false, beq_iff_eq] at h
  rcases h with rfl | h
  · rfl
  · rw [plain_wild] at h
    unfold wildB at h
    unfold hashB'
    simp at h ⊢
    intro y hy
    exact (h y hy).2
theorem level_last (x : Bs) : levelL x true = (levelL x false || x == [35]) := by
  unfold levelL
  cases (x == [43] : Bool) <;> cases (x == [35] : Bool) <;> cases plainL x <;> rfl
/-- Levels of two filters: a # in the first one alone parts them. -/
theorem filterLv_append : ∀ (A B : List Bs), B ≠ [] → filterLv A = true → filterLv B = true → filterLv (A ++ B) = !(A.any hashB')
  | [], B, _, _, hB => by simpa using hB
  | [x], B, hne, hA, hB => by
    have h1 : levelL x true = true := by
      unfold filterLv at hA
      simp at hA
      exact hA.1
    have hBf : B.isEmpty = false := by cases B with | nil => exact absurd rfl hne | cons => rfl
    show (levelL x B.isEmpty && filterLv B) = !(hashB' x || false)
    rw [hB, hBf, Bool.and_true, Bool.or_false]
    rw [level_last, Bool.or_eq_true] at h1
    rcases h1 with h1 | h1
    · rw [h1, level_hash x h1]; rfl
    · rw [beq_iff_eq] at h1
      subst h1; rfl
  | x :: y :: r, B, hne, hA, hB => by
    have hA' : levelL x false = true ∧ filterLv (y :: r) = true := by
      have : (levelL x false && filterLv (y :: r)) = true := hA
      simpa using this
    have ih := filterLv_append (y :: r) B hne hA'.2 hB
    show (levelL x false && filterLv ((y :: r) ++ B)) = !(hashB' x || (y :: r).any hashB')
    rw [ih, hA'.1, level_hash x hA'.1]; rfl
theorem filter_slash' {a b : Bs} (ha : filterL a = true) (hb : filterL b = true) (hs : (a ++ 47 :: b).length ≤ 65535) : filterL (a ++ 47 :: b) = !hashB' a := by
  unfold filterL at *
  simp only [Bool.and_eq_true] at ha hb
  rw [valid_slash _ _ hs, levels_slash, ha.1.2, hb.1.2, filterLv_append _ _ (levelsL_ne b) ha.2 hb.2, ← hash_levels]
  simp
theorem valid_some {s : Bs} (h : validL s = true) : s.length ≤ 65535 := by
  unfold validL at h; simp at h; exact h.1
theorem filterLv_first {A B : List Bs} (hB : B ≠ []) (h : filterLv (A ++ B) = true) : A.any hashB' = false := by
  induction A with
  | nil => rfl
  | cons x r ih =>
    have hne : (r ++ B).isEmpty = false := by
      cases hr : r ++ B with
      | nil => simp at hr; exact absurd hr.2 hB
      | cons => rfl
    have h2 : (levelL x (r ++ B).isEmpty && filterLv (r ++ B)) = true := h
    rw [hne] at h2
    simp only [Bool.and_eq_true] at h2
    rw [List.any_cons, level_hash x h2.1, ih h2.2]; rfl
/-- Behind a # stands nothing. -/
theorem hash_end (s : Bs) (h : hashB' s = true) : filterL (s ++ [47]) = false := by
  cases hf : filterL (s ++ [47]) with
  | false => rfl
  | true =>
    unfold filterL at hf
    simp only [Bool.and_eq_true] at hf
    have h1 := hf.2
    rw [show s ++ [47] = s ++ 47 :: [] from rfl, levels_slash] at h1
    have := filterLv_first (by simp [levelsL]) h1
    rw [← hash_levels, h] at this
    cases this
theorem filter_slash_end {a : Bs} (ha : filterL a = true) (h : hashB' a = false) (hs : a.length + 1 ≤ 65535) : filterL (a ++ [47]) = true := by
  unfold filterL at *
  simp only [Bool.and_eq_true] at ha
  have h0 : validL [] = true := valid_nil
  rw [show a ++ [47] = a ++ 47 :: [] from rfl, valid_slash _ _ (by simp; omega), levels_slash, ha.1.2, h0, filterLv_append _ _ (by simp [levelsL]) ha.2 (by rfl), ← hash_levels, h]
  simp
theorem level_x (x : Bs) (b : Bool) (h : hashB' x = true) : levelL (x ++ [120]) b = false := by
  unfold levelL
  have h1 : (x ++ [120] == [43]) = false := by
    rw [beq_eq_false_iff_ne]
    intro e
    have := congrArg List.getLast? e
    simp at this
  have h2 : (x ++ [120] == [35]) = false := by
    rw [beq_eq_false_iff_ne]
    intro e
    have := congrArg List.getLast? e
    simp at this
  have h3 : plainL (x ++ [120]) = false := by
    rw [plain_wild]
    unfold wildB
    unfold hashB' at h
    simp at h ⊢
    exact ⟨35, h, Or.inr rfl⟩
  rw [h1, h2, h3]; simp
theorem filterLv_grow : ∀ (A : List Bs), A.any hashB' = true → filterLv (growLast A 120) = false
  | [], h => by cases h
  | [x], h => by
    have hx : hashB' x = true := by simpa using h
    show (levelL (x ++ [120]) true && true) = false
    rw [level_x x true hx]; rfl
  | x :: y :: r, h => by
    have hg : growLast (x :: y :: r) 120 = x :: growLast (y :: r) 120 := by
      simp [growLast, List.getLastD]
    have hne : (growLast (y :: r) 120).isEmpty = false := by simp [growLast]
    rw [hg]
    show (levelL x (growLast (y :: r) 120).isEmpty && filterLv (growLast (y :: r) 120)) = false
    rw [hne]
    by_cases hx : hashB' x = true
    · have : levelL x false = false := by
        cases hl : levelL x false with
        | false => rfl
        | true => rw [level_hash x hl] at hx; cases hx
      rw [this]; rfl
    · have h2 : (y :: r).any hashB' = true := by
        rw [List.any_cons] at h
        simp only [Bool.or_eq_true] at h
        rcases h with h | h
        · exact absurd h hx
        · exact h
      rw [filterLv_grow (y :: r) h2, Bool.and_false]
theorem hash_x (s : Bs) (h : hashB' s = true) : filterL (s ++ [120]) = false := by
  unfold filterL
  rw [levelsL_snoc, if_neg (by decide), filterLv_grow _ (by rw [← hash_levels]; exact h), Bool.and_false]
end Go.Proofs.YtkphaihbdmjogaaDoor
