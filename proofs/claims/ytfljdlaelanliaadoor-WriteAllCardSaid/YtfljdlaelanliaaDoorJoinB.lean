/- Plain mathematics of texts put behind a slash: characters, levels, what is taken. No condition; no program. -/
import Derived.Test.YtfljdlaelanliaaDoorJoinA
namespace Go.Proofs.YtfljdlaelanliaaDoor
open Go.Lib

theorem bN_app_lt (x y : Bs) (k : Nat) (h : k < x.length) : bN (x ++ y) k = bN x k := by
  unfold bN; rw [List.getD_eq_getElem?_getD, List.getD_eq_getElem?_getD, List.getElem?_append_left h]
theorem bN_app_at (x y : Bs) (k : Nat) (h : k = x.length) : bN (x ++ 47 :: y) k = 47 := by
  unfold bN; rw [List.getD_eq_getElem?_getD, List.getElem?_append_right (by omega), h, Nat.sub_self]; rfl
theorem bN_out (x : Bs) (k : Nat) (h : x.length ≤ k) : bN x k = 0 := by
  unfold bN; rw [List.getD_eq_getElem?_getD, List.getElem?_eq_none h]; rfl
theorem chrN_cut (n m b0 b1 b2 b3 c1 c2 c3 : Nat) (hn : 1 ≤ n) (hm : n < m) (h1 : 1 < n → c1 = b1) (h2 : 2 < n → c2 = b2) (h3 : 3 < n → c3 = b3)
    (g1 : n = 1 → c1 = 47) (g2 : n = 2 → c2 = 47) (g3 : n = 3 → c3 = 47) : chrN m b0 c1 c2 c3 = chrN n b0 b1 b2 b3 := by
  have hc1 : c1 = b1 ∨ (n ≤ 1 ∧ c1 = 47) := by omega
  have hc2 : c2 = b2 ∨ (n ≤ 1) ∨ (n = 2 ∧ c2 = 47) := by omega
  have hc3 : c3 = b3 ∨ (n ≤ 2) ∨ (n = 3 ∧ c3 = 47) := by omega
  unfold chrN
  by_cases k1 : b0 < 128
  · rw [if_pos k1, if_pos k1]
  rw [if_neg k1, if_neg k1]
  by_cases k2 : 192 ≤ b0 ∧ b0 < 224
  · rw [if_pos k2, if_pos k2]
    by_cases q : 1 < n
    · rw [h1 q]; simp only [show ¬ m < 2 by omega, show ¬ n < 2 by omega]
    · rw [if_pos (by omega), if_pos (by omega)]
  rw [if_neg k2, if_neg k2]
  by_cases k3 : 224 ≤ b0 ∧ b0 < 240
  · rw [if_pos k3, if_pos k3]
    by_cases q : 2 < n
    · rw [h1 (by omega), h2 q]; simp only [show ¬ m < 3 by omega, show ¬ n < 3 by omega]
    · rw [if_pos (show _ ∨ _ by omega), if_pos (by omega)]
  rw [if_neg k3, if_neg k3]
  by_cases k4 : 240 ≤ b0 ∧ b0 < 248
  · rw [if_pos k4, if_pos k4]
    by_cases q : 3 < n
    · rw [h1 (by omega), h2 (by omega), h3 q]; simp only [show ¬ m < 4 by omega, show ¬ n < 4 by omega]
    · rw [if_pos (show _ ∨ _ by omega), if_pos (by omega)]
  rw [if_neg k4, if_neg k4]
/-- A slash behind bytes does not turn the character with which they begin. -/
theorem chrD_slash (x y : Bs) (h : x ≠ []) : chrD (x ++ 47 :: y) = chrD x := by
  have hx : 1 ≤ x.length := by cases x with | nil => exact absurd rfl h | cons => simp
  rw [chrD_N _ h, chrD_N _ (by simp)]
  have e0 : bN (x ++ 47 :: y) 0 = bN x 0 := bN_app_lt _ _ _ (by omega)
  rw [e0]
  exact chrN_cut _ _ _ _ _ _ _ _ _ hx (by simp) (fun q => bN_app_lt _ _ _ q) (fun q => bN_app_lt _ _ _ q) (fun q => bN_app_lt _ _ _ q)
    (fun q => bN_app_at _ _ _ q.symm) (fun q => bN_app_at _ _ _ q.symm) (fun q => bN_app_at _ _ _ q.symm)
theorem chrD_47 (y : Bs) : chrD (47 :: y) = (47, 1) := by
  rw [chrD_N _ (by simp)]
  have e0 : bN (47 :: y) 0 = 47 := rfl
  rw [e0]; rfl
theorem cntO_slash : ∀ (n : Nat) (x y : Bs), x.length ≤ n → (cntO (x ++ 47 :: y)).isSome = ((cntO x).isSome && (cntO y).isSome)
  | n, [], y, _ => by
    rw [List.nil_append, cntO_step _ (by simp), chrD_47, cntO_nil]
    simp
  | 0, b :: x, y, h => by simp at h
  | n + 1, b :: x, y, h => by
    have hc := chrD_slash (b :: x) y (by simp)
    rw [cntO_step (b :: x ++ 47 :: y) (by simp), cntO_step (b :: x) (by simp), hc]
    split
    · rfl
    · rename_i hz
      have hle := chrD_le (b :: x)
      rw [List.drop_append_of_le_length hle]
      have ih := cntO_slash n ((b :: x).drop (chrD (b :: x)).2) y (by rw [List.length_drop]; simp only [List.length_cons] at h ⊢; omega)
      rw [Option.isSome_map, Option.isSome_map, ih]

theorem levels_slash : ∀ (x y : Bs), levelsL (x ++ 47 :: y) = levelsL x ++ levelsL y
  | [], y => rfl
  | b :: x, y => by
    have ih := levels_slash x y
    rw [List.cons_append]
    show (if b = 47 then [] :: levelsL (x ++ 47 :: y) else consHead b (levelsL (x ++ 47 :: y))) = (if b = 47 then [] :: levelsL x else consHead b (levelsL x)) ++ levelsL y
    rw [ih]
    split
    · rfl
    · cases hl : levelsL x with
      | nil => exact absurd hl (levelsL_ne x)
      | cons z r => rfl

theorem valid_slash (x y : Bs) (h : (x ++ 47 :: y).length ≤ 65535) : validL (x ++ 47 :: y) = (validL x && validL y) := by
  unfold validL
  rw [cntO_slash _ x y (Nat.le_refl _)]
  simp only [List.length_append, List.length_cons] at h ⊢
  rw [decide_eq_true (show x.length + (y.length + 1) ≤ 65535 by omega), decide_eq_true (show x.length ≤ 65535 by omega), decide_eq_true (show y.length ≤ 65535 by omega)]
  simp
theorem plain_slash (x y : Bs) : plainL (x ++ 47 :: y) = (plainL x && plainL y) := by
  unfold plainL; rw [List.all_append, List.all_cons]; rfl
theorem head_slash (x y : Bs) : headL (x ++ 47 :: y) = headL x := by
  unfold headL; rw [levels_slash]
  cases hl : levelsL x with
  | nil => exact absurd hl (levelsL_ne x)
  | cons z r => rfl
theorem wild_slash (x y : Bs) : wildL (x ++ 47 :: y) = wildL x := by unfold wildL; rw [head_slash]
theorem head?_slash (x y : Bs) (h : x ≠ []) : (x ++ 47 :: y).head? = x.head? := by
  cases x with
  | nil => exact absurd rfl h
  | cons b t => rfl

/-- A filter's levels, but the last one: none of them is #. -/
theorem filterLv_snoc (x : Bs) : ∀ (T : List Bs), T ≠ [] → filterLv T = true → T.getLastD [] ≠ [35] → levelL x true = true → filterLv (T ++ [x]) = true
  | [], h, _, _, _ => absurd rfl h
  | [y], _, h, hl, hx => by
    simp only [filterLv, List.isEmpty_nil, Bool.and_true] at h
    have hy : levelL y false = true := by
      unfold levelL at h ⊢
      have : (y == [35]) = false := beq_eq_false_iff_ne.2 (by simpa using hl)
      rw [this] at h ⊢
      simpa using h
    simp only [List.cons_append, List.nil_append, filterLv, List.isEmpty_cons, List.isEmpty_nil, Bool.and_true]
    rw [hy, hx]; rfl
  | y :: z :: r, _, h, hl, hx => by
    rw [filterLv, Bool.and_eq_true] at h
    have ih := filterLv_snoc x (z :: r) (by simp) h.2 (by simpa using hl) hx
    show (levelL y ((z :: r) ++ [x]).isEmpty && filterLv ((z :: r) ++ [x])) = true
    rw [ih]
    have := h.1
    simp only [List.isEmpty_cons] at this
    simp [this]
theorem filter_slash {a m : Bs} (ha : filterL a = true) (hm : levelsL m = [m]) (hl : (levelsL a).getLastD [] ≠ [35]) (hx : levelL m true = true) (hv : validL m = true) (hs : (a ++ 47 :: m).length ≤ 65535) :
    filterL (a ++ 47 :: m) = true := by
  unfold filterL at ha ⊢
  rw [Bool.and_eq_true, Bool.and_eq_true] at ha
  rw [levels_slash, hm, valid_slash _ _ hs, ha.1.2, hv, filterLv_snoc m _ (levelsL_ne a) ha.2 hl hx]
  cases a <;> rfl

/-- What covers, its last level no #: as many levels. -/
theorem covers_len : ∀ (A B : List Bs), filterLv A = true → (A ≠ [] → A.getLastD [] ≠ [35]) → coversLv A B = true → A.length = B.length
  | [], B, _, _, h => by
    cases B with
    | nil => rfl
    | cons => simp [coversLv] at h
  | x :: A, B, hf, hl, h => by
    rw [filterLv, Bool.and_eq_true] at hf
    have hx : (x == [35]) = false := by
      cases hx : x == [35] with
      | false => rfl
      | true =>
        rw [beq_iff_eq] at hx
        subst hx
        cases A with
        | nil => exact absurd rfl (hl (by simp))
        | cons z r => have h3 := hf.1; simp [levelL, plainL] at h3
    unfold coversLv at h
    rw [if_neg (by rw [hx]; simp)] at h
    cases B with
    | nil => simp at h
    | cons y B =>
      simp only at h
      split at h
      · simp at h
      · rw [Bool.and_eq_true] at h
        have := covers_len A B hf.2 (fun hne => by
          have := hl (by simp)
          cases A with
          | nil => exact absurd rfl hne
          | cons z r => simpa using this) h.2
        simp [this]
theorem coversLv_snoc (x y : Bs) (hxy : coversLv [x] [y] = true) : ∀ (A B : List Bs), A.length = B.length → coversLv A B = true → coversLv (A ++ [x]) (B ++ [y]) = true
  | [], [], _, _ => hxy
  | [], _ :: _, h, _ => by simp at h
  | _ :: _, [], h, _ => by simp at h
  | a :: A, b :: B, hl, h => by
    have ih := coversLv_snoc x y hxy A B (by simpa using hl)
    rw [List.cons_append, List.cons_append]
    unfold coversLv at h ⊢
    by_cases ha : (a == [35]) = true
    · rw [if_pos ha]
    · rw [if_neg ha] at h ⊢
      simp only at h ⊢
      by_cases hb : (b == [35]) = true
      · rw [if_pos hb] at h; simp at h
      · rw [if_neg hb, Bool.and_eq_true] at h
        rw [if_neg hb, h.1, ih h.2]; rfl
theorem coversLv_hash : ∀ (A B : List Bs), A.length = B.length → coversLv A B = true → coversLv (A ++ [[35]]) B = true
  | [], [], _, _ => rfl
  | [], _ :: _, h, _ => by simp at h
  | _ :: _, [], h, _ => by simp at h
  | a :: A, b :: B, hl, h => by
    have ih := coversLv_hash A B (by simpa using hl)
    rw [List.cons_append]
    unfold coversLv at h ⊢
    by_cases ha : (a == [35]) = true
    · rw [if_pos ha]
    · rw [if_neg ha] at h ⊢
      simp only at h ⊢
      by_cases hb : (b == [35]) = true
      · rw [if_pos hb] at h; simp at h
      · rw [if_neg hb, Bool.and_eq_true] at h
        rw [if_neg hb, h.1, ih h.2]; rfl
/-- What covers, its last level #: it covers what is longer. -/
theorem coversLv_more (y : Bs) : ∀ (A B : List Bs), A.getLastD [] = [35] → coversLv A B = true → coversLv A (B ++ [y]) = true
  | [], B, hl, _ => by simp at hl
  | a :: A, B, hl, h => by
    unfold coversLv at h ⊢
    by_cases ha : (a == [35]) = true
    · rw [if_pos ha]
    · rw [if_neg ha] at h ⊢
      cases B with
      | nil => simp at h
      | cons b B =>
        simp only [List.cons_append] at h ⊢
        by_cases hb : (b == [35]) = true
        · rw [if_pos hb] at h; simp at h
        · rw [if_neg hb, Bool.and_eq_true] at h
          have hne : A ≠ [] := by
            rintro rfl
            exact ha (by simpa using hl)
          have ih := coversLv_more y A B (by
            cases A with
            | nil => exact absurd rfl hne
            | cons z r => simpa using hl) h.2
          rw [if_neg hb, h.1, ih]; rfl

theorem levels_one {m : Bs} (h : (levelsL m).length = 1) : levelsL m = [m] := by
  have hj := joinL_levels m
  match hl : levelsL m, h with
  | [x], _ => rw [hl] at hj; rw [← hj]; rfl

/-- Everything that the law asks of a filter, a name and a level more. -/
theorem levels_law {a n m : Bs} (ha : a.length ≤ 1000) (hn : n.length ≤ 1000) (hm : m.length ≤ 100) (hM : matchL a n = true) (hN : nameL (n ++ 47 :: m) = true) (h1 : (levelsL m).length = 1) :
    ((levelsL a).getLastD [] = [35] → matchL a (n ++ 47 :: m) = true) ∧
    ((levelsL a).getLastD [] ≠ [35] → matchL (a ++ 47 :: m) (n ++ 47 :: m) = true ∧ matchL (a ++ [47, 43]) (n ++ 47 :: m) = true ∧ matchL (a ++ [47, 35]) n = true ∧ matchL a (n ++ 47 :: m) = false) := by
  have hm1 := levels_one h1
  unfold matchL at hM
  rw [Bool.and_eq_true] at hM
  obtain ⟨hnN, hC⟩ := hM
  unfold coversL at hC
  rw [Bool.and_eq_true, Bool.and_eq_true, Bool.and_eq_true] at hC
  obtain ⟨⟨⟨hfa, hfn⟩, hw⟩, hcv⟩ := hC
  have hne : n ≠ [] := by rintro rfl; simp [nameL] at hnN
  have hh := head?_slash n m hne
  have hfN := filter_of_name hN
  have hN' := hN
  unfold nameL at hN'
  rw [Bool.and_eq_true, Bool.and_eq_true, plain_slash, Bool.and_eq_true, valid_slash _ _ (by simp; omega), Bool.and_eq_true] at hN'
  have hpm := hN'.2.2
  have hvm := hN'.1.2.2
  have hfl : filterLv (levelsL a) = true := by
    unfold filterL at hfa
    rw [Bool.and_eq_true] at hfa
    exact hfa.2
  refine ⟨fun hl => ?_, fun hl => ?_⟩
  · unfold matchL coversL
    rw [hN, hfa, hfN, hh, hw, levels_slash, hm1, coversLv_more m _ _ hl hcv]; rfl
  · have hlen := covers_len _ _ hfl (fun _ => hl) hcv
    have hmm : coversLv [m] [m] = true := coversLv_self _
    have hpl : coversLv [[43]] [m] = true := by
      simp [coversLv, (plain_ne hpm).1]
    have f1 : filterL (a ++ 47 :: m) = true := filter_slash hfa hm1 hl (by unfold levelL; rw [hpm]; simp) hvm (by simp; omega)
    have f2 : filterL (a ++ 47 :: [43]) = true := filter_slash hfa rfl hl rfl (by kernel_rfl) (by simp; omega)
    have f3 : filterL (a ++ 47 :: [35]) = true := filter_slash hfa rfl hl rfl (by kernel_rfl) (by simp; omega)
    refine ⟨?_, ?_, ?_, ?_⟩
    · unfold matchL coversL
      rw [hN, f1, hfN, wild_slash, hh, hw, levels_slash, levels_slash, hm1, coversLv_snoc m m hmm _ _ hlen hcv]; rfl
    · unfold matchL coversL
      rw [hN, f2, hfN, wild_slash, hh, hw, levels_slash, levels_slash, hm1, show levelsL [43] = [[43]] from rfl, coversLv_snoc [43] m hpl _ _ hlen hcv]; rfl
    · unfold matchL coversL
      rw [hnN, f3, hfn, wild_slash, hw, levels_slash, show levelsL [35] = [[35]] from rfl, coversLv_hash _ _ hlen hcv]; rfl
    · cases hq : matchL a (n ++ 47 :: m) with
      | false => rfl
      | true =>
        unfold matchL coversL at hq
        rw [Bool.and_eq_true, Bool.and_eq_true, levels_slash, hm1] at hq
        have := covers_len _ _ hfl (fun _ => hl) hq.2.2
        simp at this
        omega
end Go.Proofs.YtfljdlaelanliaaDoor

/- Plain mathematics of packets: their data; the rest of each type. No condition; no program. -/
namespace Go.Proofs.YtfljdlaelanliaaDoor

/-- A packet as plain data. -/
structure Pk where
  ty : Nat
  dup : Bool
  qos : Nat
  ret : Bool
  id : Nat
  topic : ByteArray
  payload : ByteArray
  level : Nat
  clean : Bool
  keep : Nat
  client : ByteArray
  hasWill : Bool
  wtopic : ByteArray
  wpayload : ByteArray
  wqos : Nat
  wret : Bool
  hasUser : Bool
  hasPass : Bool
  user : ByteArray
  pass : ByteArray
  present : Bool
  code : Nat
  subs : List Sb
  codes : ByteArray
deriving DecidableEq
def e0 : ByteArray := ⟨#[]⟩
def Pk.zero : Pk := ⟨0, false, 0, false, 0, e0, e0, 0, false, 0, e0, false, e0, e0, 0, false, false, false, e0, e0, false, 0, [], e0⟩
/-- What the memory of a machine allows, and no more. -/
structure PkOk (p : Pk) : Prop where
  ty : p.ty < 256
  qos : p.qos < 256
  id : p.id < 65536
  level : p.level < 256
  keep : p.keep < 65536
  wqos : p.wqos < 256
  code : p.code < 256
  topic : p.topic.size ≤ 300000000
  payload : p.payload.size ≤ 300000000
  client : p.client.size ≤ 300000000
  wtopic : p.wtopic.size ≤ 300000000
  wpayload : p.wpayload.size ≤ 300000000
  user : p.user.size ≤ 300000000
  pass : p.pass.size ≤ 300000000
  codes : p.codes.size ≤ 300000000
  few : p.subs.length ≤ 100000000
  each : ∀ x ∈ p.subs, x.1.size ≤ 300000000 ∧ x.2 < 256

def idN (p : Pk) : Int := if p.id = 0 then -1 else 2
def publishN (p : Pk) : Int :=
  if nameL (bl p.topic) = false ∨ 2 < p.qos then -1
  else if 0 < p.qos ∧ 0 < p.id then 2 + (p.topic.size : Int) + p.payload.size + 2
  else if 0 < p.qos ∨ 0 < p.id ∨ p.dup = true then -1
  else 2 + (p.topic.size : Int) + p.payload.size
def codeOk (b : UInt8) : Bool := decide (b.toNat ≤ 2) || decide (b.toNat = 128)
def codesN (p : Pk) : Int := if p.id = 0 ∨ (bl p.codes).isEmpty = true then -1 else if (bl p.codes).all codeOk = true then 2 + (p.codes.size : Int) else -1
def mostN (p : Pk) : Nat := if p.ty = 10 then 0 else 2
def moreN (p : Pk) : Nat := if p.ty = 10 then 0 else 1
def subOk (most : Nat) (x : Sb) : Bool := filterL (fB x) && decide (x.2 ≤ most)
def subsLen (more : Nat) (S : List Sb) : Nat := (S.map fun x => 2 + x.1.size + more).sum
def subsN (p : Pk) : Int := if p.id = 0 ∨ p.subs = [] then -1 else if p.subs.all (subOk (mostN p)) = true then 2 + (subsLen (moreN p) p.subs : Int) else -1
def willZero (p : Pk) : Prop := p.wtopic = e0 ∧ p.wpayload = e0 ∧ p.wqos = 0 ∧ p.wret = false
instance (p : Pk) : Decidable (willZero p) := inferInstanceAs (Decidable (_ ∧ _ ∧ _ ∧ _))
def willOk (p : Pk) : Bool := if p.hasWill then nameL (bl p.wtopic) && decide (p.wpayload.size ≤ 65535) && decide (p.wqos ≤ 2) else decide (willZero p)
def userOk (p : Pk) : Bool := p.hasUser || ((bl p.user).isEmpty && !p.hasPass)
def passOk (p : Pk) : Bool := p.hasPass || (bl p.pass).isEmpty
def connectOk (p : Pk) : Bool := decide (p.level = 4) && validL (bl p.client) && willOk p && userOk p && passOk p && validL (bl p.user) && decide (p.pass.size ≤ 65535)
def connectLen (p : Pk) : Nat := 12 + p.client.size + (if p.hasWill then 4 + p.wtopic.size + p.wpayload.size else 0) + (if p.hasUser then 2 + p.user.size else 0) + (if p.hasPass then 2 + p.pass.size else 0)
def connectN (p : Pk) : Int := if connectOk p then (connectLen p : Int) else -1
def Pk.bare (p : Pk) : Pk := { p with subs := [] }
/-- A packet with those fields alone that its type has; its list aside. -/
def onlyF (p : Pk) : Pk :=
  if p.ty = 1 then { Pk.zero with ty := p.ty, level := p.level, clean := p.clean, keep := p.keep, client := p.client, hasWill := p.hasWill, wtopic := p.wtopic, wpayload := p.wpayload, wqos := p.wqos, wret := p.wret, hasUser := p.hasUser, hasPass := p.hasPass, user := p.user, pass := p.pass }
  else if p.ty = 2 then { Pk.zero with ty := p.ty, present := p.present, code := p.code }
  else if p.ty = 3 then { Pk.zero with ty := p.ty, dup := p.dup, qos := p.qos, ret := p.ret, id := p.id, topic := p.topic, payload := p.payload }
  else if p.ty = 9 then { Pk.zero with ty := p.ty, id := p.id, codes := p.codes }
  else if p.ty = 12 ∨ p.ty = 13 ∨ p.ty = 14 then { Pk.zero with ty := p.ty }
  else { Pk.zero with ty := p.ty, id := p.id }
def bareB (p : Pk) : Bool := (p.subs.isEmpty || decide (p.ty = 8) || decide (p.ty = 10)) && decide (p.bare = onlyF p)
theorem onlyF_ok {p : Pk} (h : PkOk p) : PkOk (onlyF p) := by
  have hz : e0.size = 0 := rfl
  unfold onlyF
  obtain ⟨h1, h2, h3, h4, h5, h6, h7, h8, h9, h10, h11, h12, h13, h14, h15, h16, h17⟩ := h
  (repeat' split) <;> (constructor <;> simp [Pk.zero, hz] <;> omega)
end Go.Proofs.YtfljdlaelanliaaDoor

/- Plain mathematics of packets: whether one may be and its rest, the program's way and the document's; both are one. No program. -/
namespace Go.Proofs.YtfljdlaelanliaaDoor

def restOf (n : Int) (b : Bool) : Int := if n < 0 ∨ 268435455 < n ∨ b = false then -1 else n
def connackN (p : Pk) : Int := if p.code ≤ 5 ∧ (p.code = 0 ∨ p.present = false) then 2 else -1
/-- The rest that a packet's type gives it; -1: it may not be. -/
def typeN (p : Pk) : Int :=
  if p.ty = 1 then connectN p else if p.ty = 2 then connackN p else if p.ty = 3 then publishN p
  else if p.ty = 4 ∨ p.ty = 5 ∨ p.ty = 6 ∨ p.ty = 7 ∨ p.ty = 11 then idN p else if p.ty = 8 ∨ p.ty = 10 then subsN p else if p.ty = 9 then codesN p
  else if p.ty = 12 ∨ p.ty = 13 ∨ p.ty = 14 then 0 else -1
def restP (p : Pk) : Int := restOf (typeN p) (bareB p)
theorem restP_ge (p : Pk) : -1 ≤ restP p := by
  unfold restP restOf
  split <;> omega
theorem restP_neg (p : Pk) (h : restP p < 0) : restP p = -1 := by
  unfold restP restOf at *
  split at h
  · rw [if_pos ‹_›]
  · rename_i h2
    omega

/-- A packet with those fields alone that its type has. -/
def onlyS (p : Pk) : Pk := { (onlyF p) with subs := if p.ty = 8 ∨ p.ty = 10 then p.subs else [] }
def subR (p : Pk) (x : Sb) : Bool := filterL (fB x) && decide (x.2 ≤ 2) && !(decide (p.ty = 10) && decide (0 < x.2))
def listsR (p : Pk) : Bool := p.subs.all (subR p) && (bl p.codes).all codeOk && (decide (p.ty = 8 ∨ p.ty = 10) == !p.subs.isEmpty) && (decide (p.ty = 9) == !(bl p.codes).isEmpty)
def connectR (p : Pk) : Bool := decide (p.level = 4) && validL (bl p.client) && willOk p && (if p.hasUser then validL (bl p.user) else (bl p.user).isEmpty && !p.hasPass) && (if p.hasPass then decide (p.pass.size ≤ 65535) else (bl p.pass).isEmpty)
def restR (p : Pk) : Nat :=
  p.payload.size + p.codes.size + (if p.id = 0 then 0 else 2) + subsLen (if p.ty = 8 then 1 else 0) p.subs +
    (if p.ty = 1 then connectLen p else if p.ty = 2 then 2 else if p.ty = 3 then 2 + p.topic.size else 0)
def hasI (ty : Nat) : Bool := decide (3 ≤ ty ∧ ty ≤ 11)
def rightR (p : Pk) : Bool :=
  decide (1 ≤ p.ty ∧ p.ty ≤ 14) && decide (p = onlyS p) && listsR p && decide (p.qos ≤ 2) && (!decide (p.ty = 1) || connectR p) && (!decide (p.ty = 2) || decide (p.code ≤ 5) && !(p.present && decide (0 < p.code))) &&
    (if p.ty = 3 then nameL (bl p.topic) && !(decide (p.qos = 0) && (p.dup || decide (p.id ≠ 0))) && !(decide (0 < p.qos) && decide (p.id = 0)) else !(hasI p.ty && decide (p.id = 0))) && decide (restR p ≤ 268435455)

theorem onlyF_subs (p : Pk) : (onlyF p).subs = [] := by unfold onlyF; (repeat' split) <;> rfl
theorem bare_only (p : Pk) : decide (p = onlyS p) = bareB p := by
  have h0 : (p.subs.isEmpty || decide (p.ty = 8) || decide (p.ty = 10)) = decide ((if p.ty = 8 ∨ p.ty = 10 then p.subs else []) = p.subs) := by
    by_cases h : p.ty = 8 ∨ p.ty = 10
    · rw [if_pos h]
      rcases h with h | h <;> simp [h]
    · rw [if_neg h]
      have h8 : p.ty ≠ 8 := fun e => h (Or.inl e)
      have h10 : p.ty ≠ 10 := fun e => h (Or.inr e)
      cases p.subs <;> simp [h8, h10]
  rw [Bool.eq_iff_iff]
  unfold bareB
  rw [h0]
  simp only [decide_eq_true_eq, Bool.and_eq_true]
  constructor
  · intro h
    have e1 : p.subs = _ := congrArg Pk.subs h
    have e2 : p.bare = (onlyS p).bare := congrArg Pk.bare h
    refine ⟨e1.symm, e2.trans ?_⟩
    have h3 := onlyF_subs p
    unfold onlyS Pk.bare
    generalize onlyF p = q at *
    rw [← h3]
  · rintro ⟨h1, h2⟩
    unfold onlyS
    rw [h1, ← h2]
    rfl

/-- All fields that a packet's type has not are as in a new one. -/
structure Zeros (p : Pk) : Prop where
  z3 : p.ty ≠ 3 → p.dup = false ∧ p.qos = 0 ∧ p.ret = false ∧ p.topic = e0 ∧ p.payload = e0
  z1 : p.ty ≠ 1 → p.level = 0 ∧ p.clean = false ∧ p.keep = 0 ∧ p.client = e0 ∧ p.hasWill = false ∧ p.wtopic = e0 ∧ p.wpayload = e0 ∧ p.wqos = 0 ∧ p.wret = false ∧ p.hasUser = false ∧ p.hasPass = false ∧ p.user = e0 ∧ p.pass = e0
  z2 : p.ty ≠ 2 → p.present = false ∧ p.code = 0
  z9 : p.ty ≠ 9 → p.codes = e0
  zi : p.ty = 1 ∨ p.ty = 2 ∨ p.ty = 12 ∨ p.ty = 13 ∨ p.ty = 14 → p.id = 0
  zs : p.ty ≠ 8 → p.ty ≠ 10 → p.subs = []
theorem zeros_iff (p : Pk) : bareB p = true ↔ Zeros p := by
  unfold bareB
  constructor
  · intro h
    simp only [Bool.and_eq_true, Bool.or_eq_true, decide_eq_true_eq, List.isEmpty_iff] at h
    obtain ⟨h1, h2⟩ := h
    have hs : p.ty ≠ 8 → p.ty ≠ 10 → p.subs = [] := fun h8 h10 => by
      rcases h1 with (h | h) | h
      · exact h
      · exact absurd h h8
      · exact absurd h h10
    clear h1
    have f1 := congrArg Pk.dup h2
    have f2 := congrArg Pk.qos h2
    have f3 := congrArg Pk.ret h2
    have f4 := congrArg Pk.topic h2
    have f5 := congrArg Pk.payload h2
    have g1 := congrArg Pk.level h2
    have g2 := congrArg Pk.clean h2
    have g3 := congrArg Pk.keep h2
    have g4 := congrArg Pk.client h2
    have g5 := congrArg Pk.hasWill h2
    have g6 := congrArg Pk.wtopic h2
    have g7 := congrArg Pk.wpayload h2
    have g8 := congrArg Pk.wqos h2
    have g9 := congrArg Pk.wret h2
    have g10 := congrArg Pk.hasUser h2
    have g11 := congrArg Pk.hasPass h2
    have g12 := congrArg Pk.user h2
    have g13 := congrArg Pk.pass h2
    have i1 := congrArg Pk.present h2
    have i2 := congrArg Pk.code h2
    have i3 := congrArg Pk.codes h2
    have i4 := congrArg Pk.id h2
    simp only [Pk.bare] at f1 f2 f3 f4 f5 g1 g2 g3 g4 g5 g6 g7 g8 g9 g10 g11 g12 g13 i1 i2 i3 i4
    clear h2
    unfold onlyF at *
    refine ⟨fun h => ?_, fun h => ?_, fun h => ?_, fun h => ?_, fun h => ?_, hs⟩
    · refine ⟨f1.trans ?_, f2.trans ?_, f3.trans ?_, f4.trans ?_, f5.trans ?_⟩ <;> (repeat' split) <;> first | rfl | contradiction
    · refine ⟨g1.trans ?_, g2.trans ?_, g3.trans ?_, g4.trans ?_, g5.trans ?_, g6.trans ?_, g7.trans ?_, g8.trans ?_, g9.trans ?_, g10.trans ?_, g11.trans ?_, g12.trans ?_, g13.trans ?_⟩ <;> (repeat' split) <;> first | rfl | contradiction
    · refine ⟨i1.trans ?_, i2.trans ?_⟩ <;> (repeat' split) <;> first | rfl | contradiction
    · refine i3.trans ?_; (repeat' split) <;> first | rfl | contradiction
    · refine i4.trans ?_; (repeat' split) <;> first | rfl | omega
  · rintro ⟨z3, z1, z2, z9, zi, zs⟩
    obtain ⟨ty, dup, qos, ret, id, topic, payload, level, clean, keep, client, hasWill, wtopic, wpayload, wqos, wret, hasUser, hasPass, user, pass, present, code, subs, codes⟩ := p
    simp only at z3 z1 z2 z9 zi zs
    unfold onlyF Pk.bare
    simp only [Bool.and_eq_true, Bool.or_eq_true, decide_eq_true_eq, List.isEmpty_iff]
    refine ⟨?_, ?_⟩
    · by_cases h8 : ty = 8
      · exact Or.inl (Or.inr h8)
      · by_cases h10 : ty = 10
        · exact Or.inr h10
        · exact Or.inl (Or.inl (zs h8 h10))
    · (repeat' split) <;> simp_all [Pk.zero]

theorem e0_bl : bl e0 = [] := rfl
theorem e0_size : e0.size = 0 := rfl
theorem valid_nil : validL [] = true := by kernel_rfl
theorem rest_fin (b : Bool) (L : Nat) (n : Int) (hn : n = if b then (L : Int) else -1) : (b && decide (L ≤ 268435455)) = decide (0 ≤ restOf n true) ∧ (0 ≤ restOf n true → restOf n true = (L : Int)) := by
  subst hn
  unfold restOf
  cases b with
  | false => simp
  | true =>
    by_cases hl : L ≤ 268435455
    · have h1 : ¬ (268435455 : Int) < (L : Int) := by omega
      have h2 : ¬ (L : Int) < 0 := by omega
      simp [hl, h1, h2]
    · have h1 : (268435455 : Int) < (L : Int) := by omega
      simp [hl, h1]
theorem empty_bl (s : ByteArray) (h : (bl s).isEmpty = true) : s = e0 := bl_inj (by rw [List.isEmpty_iff.1 h]; rfl)
theorem connectR_ok (p : Pk) : connectR p = connectOk p := by
  unfold connectR connectOk userOk passOk
  cases hu : p.hasUser <;> cases hp : p.hasPass <;> simp
  · cases h1 : (bl p.user).isEmpty
    · simp
    · have e1 := empty_bl _ h1
      cases h2 : (bl p.pass).isEmpty
      · simp
      · have e2 := empty_bl _ h2
        rw [e1, e2, e0_bl, valid_nil, e0_size]; simp
  · cases h2 : (bl p.pass).isEmpty
    · simp
    · have e2 := empty_bl _ h2
      rw [e2, e0_size]; simp
/-- The document's answer is the program's. -/
theorem right_rest (p : Pk) (_hp : PkOk p) : rightR p = decide (0 ≤ restP p) ∧ (0 ≤ restP p → restP p = (restR p : Int)) := by
  cases hb : bareB p with
  | false =>
    have h1 : rightR p = false := by unfold rightR; rw [bare_only, hb]; simp
    have h2 : restP p = -1 := by unfold restP restOf; rw [hb]; simp
    rw [h1, h2]
    exact ⟨rfl, by omega⟩
  | true =>
    obtain ⟨z3, z1, z2, z9, zi, zs⟩ := (zeros_iff p).1 hb
    have hR : restP p = restOf (typeN p) true := by unfold restP; rw [hb]
    have hO : decide (p = onlyS p) = true := by rw [bare_only, hb]
    have go : ∀ (b : Bool) (L : Nat), typeN p = (if b then (L : Int) else -1) → (rightR p = (b && decide (restR p ≤ 268435455))) → (b = true → restR p = L) → rightR p = decide (0 ≤ restP p) ∧ (0 ≤ restP p → restP p = (restR p : Int)) := by
      intro b L h1 h2 h3
      rw [hR, h2]
      cases b with
      | false => rw [h1]; simp [restOf]
      | true =>
        rw [h3 rfl]
        exact rest_fin true L _ h1
    clear hR
    by_cases h1 : p.ty = 1
    · obtain ⟨a1, a2, a3, a4, a5⟩ := z3 (by omega)
      have c1 := z9 (by omega)
      have d1 := zi (by omega)
      have s1 := zs (by omega) (by omega)
      refine go (connectOk p) (connectLen p) (by unfold typeN; rw [if_pos h1]; rfl) ?_ (fun _ => ?_)
      · unfold rightR listsR; rw [hO, connectR_ok]; simp [h1, a2, c1, d1, s1, e0_bl, hasI]
      · unfold restR; simp [h1, a5, c1, d1, s1, e0_size, subsLen]
    by_cases h2 : p.ty = 2
    · obtain ⟨a1, a2, a3, a4, a5⟩ := z3 (by omega)
      have c1 := z9 (by omega)
      have d1 := zi (by omega)
      have s1 := zs (by omega) (by omega)
      refine go (decide (p.code ≤ 5) && !(p.present && decide (0 < p.code))) 2 ?_ ?_ (fun _ => ?_)
      · unfold typeN connackN
        rw [if_neg h1, if_pos h2]
        cases p.present <;> by_cases hc : p.code = 0 <;> by_cases h5 : p.code ≤ 5 <;> simp [hc, h5] <;> omega
      · unfold rightR listsR; rw [hO]; simp [h2, a2, c1, d1, s1, e0_bl, hasI]
      · unfold restR; simp [h2, a5, c1, d1, s1, e0_size, subsLen]
    by_cases h3 : p.ty = 3
    · have c1 := z9 (by omega)
      have s1 := zs (by omega) (by omega)
      refine go (nameL (bl p.topic) && decide (p.qos ≤ 2) && !(decide (p.qos = 0) && (p.dup || decide (p.id ≠ 0))) && !(decide (0 < p.qos) && decide (p.id = 0))) (2 + p.topic.size + p.payload.size + if p.id = 0 then 0 else 2) ?_ ?_ (fun _ => ?_)
      · unfold typeN publishN
        rw [if_neg h1, if_neg h2, if_pos h3]
        cases nameL (bl p.topic) <;> cases p.dup <;> by_cases hq : p.qos = 0 <;> by_cases hi : p.id = 0 <;> by_cases h5 : p.qos ≤ 2 <;> simp [hq, hi, h5] <;> omega
      · unfold rightR listsR; rw [hO]; simp [h3, c1, s1, e0_bl]
        cases nameL (bl p.topic) <;> by_cases h5 : p.qos ≤ 2 <;> simp [h5, Bool.and_assoc]
      · unfold restR; simp [h3, c1, s1, e0_size, subsLen]; omega
    obtain ⟨a1, a2, a3, a4, a5⟩ := z3 h3
    by_cases h9 : p.ty = 9
    · have s1 := zs (by omega) (by omega)
      refine go (!decide (p.id = 0) && !(bl p.codes).isEmpty && (bl p.codes).all codeOk) (2 + p.codes.size) ?_ ?_ (fun h => ?_)
      · unfold typeN codesN
        rw [if_neg h1, if_neg h2, if_neg h3, if_neg (by omega), if_neg (by omega), if_pos h9]
        cases (bl p.codes).isEmpty <;> by_cases hi : p.id = 0 <;> cases (bl p.codes).all codeOk <;> simp [hi]
      · unfold rightR listsR; rw [hO]
        cases (bl p.codes).isEmpty <;> by_cases hi : p.id = 0 <;> cases (bl p.codes).all codeOk <;> simp [h9, a2, s1, hasI, hi]
      · have hi : p.id ≠ 0 := by intro e; simp [e] at h
        unfold restR; simp [h9, a5, s1, e0_size, subsLen, hi]; omega
    have c1 := z9 h9
    by_cases h8 : p.ty = 8 ∨ p.ty = 10
    · have hm : (mostN p = 2 ∧ moreN p = 1 ∧ p.ty = 8) ∨ (mostN p = 0 ∧ moreN p = 0 ∧ p.ty = 10) := by
        unfold mostN moreN
        rcases h8 with h | h
        · left; simp [h]
        · right; simp [h]
      have hall : p.subs.all (subR p) = p.subs.all (subOk (mostN p)) := by
        congr 1
        funext x
        unfold subR subOk
        cases filterL (fB x) with
        | false => simp
        | true =>
          rcases hm with ⟨m1, _, m3⟩ | ⟨m1, _, m3⟩
          · rw [m1, m3]; simp
          · rw [m1, m3]
            by_cases hx : x.2 = 0
            · simp [hx]
            · have : 0 < x.2 := by omega
              simp [this, hx]
      refine go (!decide (p.id = 0) && !p.subs.isEmpty && p.subs.all (subOk (mostN p))) (2 + subsLen (moreN p) p.subs) ?_ ?_ (fun h => ?_)
      · unfold typeN subsN
        rw [if_neg h1, if_neg h2, if_neg h3, if_neg (by omega), if_pos h8]
        cases hs : p.subs with
        | nil => simp
        | cons x r =>
          by_cases hi : p.id = 0
          · simp [hi]
          · cases (x :: r).all (subOk (mostN p)) <;> simp [hi]
      · unfold rightR listsR; rw [hO, hall]
        have hI : hasI p.ty = true := by unfold hasI; rcases h8 with h | h <;> simp [h]
        cases p.subs.isEmpty <;> by_cases hi : p.id = 0 <;> cases p.subs.all (subOk (mostN p)) <;> rcases h8 with h | h <;> simp [h, a2, c1, hasI, hi, e0_bl]
      · have hi : p.id ≠ 0 := by intro e; simp [e] at h
        unfold restR
        rcases hm with ⟨_, m2, m3⟩ | ⟨_, m2, m3⟩
        · rw [m2]; simp [m3, a5, c1, e0_size, hi]
        · rw [m2]; simp [m3, a5, c1, e0_size, hi]
    have s1 := zs (fun e => h8 (Or.inl e)) (fun e => h8 (Or.inr e))
    by_cases hd : p.ty = 12 ∨ p.ty = 13 ∨ p.ty = 14
    · have d1 := zi (by omega)
      refine go true 0 ?_ ?_ (fun _ => ?_)
      · unfold typeN
        rw [if_neg h1, if_neg h2, if_neg h3, if_neg (by omega), if_neg h8, if_neg h9, if_pos hd]; rfl
      · unfold rightR listsR; rw [hO]
        rcases hd with h | h | h <;> simp [h, a2, c1, d1, s1, e0_bl, hasI]
      · unfold restR
        rcases hd with h | h | h <;> simp [h, a5, c1, d1, s1, e0_size, subsLen]
    by_cases hi : p.ty = 4 ∨ p.ty = 5 ∨ p.ty = 6 ∨ p.ty = 7 ∨ p.ty = 11
    · refine go (!decide (p.id = 0)) 2 ?_ ?_ (fun h => ?_)
      · unfold typeN idN
        rw [if_neg h1, if_neg h2, if_neg h3, if_pos hi]
        by_cases h0 : p.id = 0 <;> simp [h0]
      · unfold rightR listsR; rw [hO]
        rcases hi with h | h | h | h | h <;> by_cases h0 : p.id = 0 <;> simp [h, h0, a2, c1, s1, e0_bl, hasI]
      · have h0 : p.id ≠ 0 := by intro e; simp [e] at h
        unfold restR
        rcases hi with h | h | h | h | h <;> simp [h, h0, a5, c1, s1, e0_size, subsLen]
    · refine go false 0 ?_ ?_ (fun h => by cases h)
      · unfold typeN
        rw [if_neg h1, if_neg h2, if_neg h3, if_neg hi, if_neg h8, if_neg h9, if_neg hd]; rfl
      · unfold rightR
        have : ¬ (1 ≤ p.ty ∧ p.ty ≤ 14) := by omega
        simp [this]
end Go.Proofs.YtfljdlaelanliaaDoor

/- Plain mathematics of packets: names, filters, and what a field more makes of a rest. No program. -/
namespace Go.Proofs.YtfljdlaelanliaaDoor

/-- What the types of a packet's fields allow. -/
structure PkTy (p : Pk) : Prop where
  ty : p.ty < 256
  qos : p.qos < 256
  id : p.id < 65536
  level : p.level < 256
  keep : p.keep < 65536
  wqos : p.wqos < 256
  code : p.code < 256
  each : ∀ x ∈ p.subs, x.2 < 256
def sizesL (p : Pk) : List Nat := [p.topic.size, p.payload.size, p.client.size, p.wtopic.size, p.wpayload.size, p.user.size, p.pass.size, p.codes.size] ++ p.subs.map (·.1.size)
def greatB (p : Pk) : Bool := decide (100 < p.subs.length) || decide (10000 < (sizesL p).sum)
structure Small (p : Pk) : Prop where
  few : p.subs.length ≤ 100
  sum : (sizesL p).sum ≤ 10000
theorem small_of {p : Pk} (h : greatB p = false) : Small p := by
  unfold greatB at h
  simp at h
  exact ⟨by omega, by omega⟩
theorem Small.parts {p : Pk} (h : Small p) : p.topic.size + p.payload.size + p.client.size + p.wtopic.size + p.wpayload.size + p.user.size + p.pass.size + p.codes.size + (p.subs.map (·.1.size)).sum ≤ 10000 := by
  have := h.sum
  unfold sizesL at this
  simp at this
  omega
theorem le_sum {α : Type} (f : α → Nat) : ∀ (L : List α) (x : α), x ∈ L → f x ≤ (L.map f).sum
  | [], x, h => by cases h
  | y :: r, x, h => by
    rw [List.map_cons, List.sum_cons]
    rcases List.mem_cons.1 h with rfl | h
    · omega
    · have := le_sum f r x h; omega
theorem Small.ok {p : Pk} (h : Small p) (t : PkTy p) : PkOk p := by
  have hp := h.parts
  have hf := h.few
  refine ⟨t.ty, t.qos, t.id, t.level, t.keep, t.wqos, t.code, by omega, by omega, by omega, by omega, by omega, by omega, by omega, by omega, by omega, fun x hx => ⟨?_, t.each x hx⟩⟩
  have := le_sum (fun x : Sb => x.1.size) p.subs x hx
  omega

/- Names and filters. -/
def topicP (s : ByteArray) : Pk := { Pk.zero with ty := 3, topic := s }
def filterP (s : ByteArray) : Pk := { Pk.zero with ty := 10, id := 1, subs := [(s, 0)] }
def willP (s : ByteArray) : Pk := { Pk.zero with ty := 1, level := 4, hasWill := true, wtopic := s }
theorem name_len {s : Bs} (h : nameL s = true) : s.length ≤ 65535 := by
  unfold nameL validL at h
  simp at h
  exact h.1.2.1
theorem filter_len {s : Bs} (h : filterL s = true) : s.length ≤ 65535 := by
  unfold filterL validL at h
  simp at h
  exact h.1.2.1
theorem blen (s : ByteArray) : (bl s).length = s.size := by simp [bl]
theorem topic_right (s : ByteArray) : decide (0 ≤ restP (topicP s)) = nameL (bl s) := by
  have hb : bareB (topicP s) = true := (zeros_iff _).2 (by constructor <;> simp [topicP, Pk.zero])
  have ht : typeN (topicP s) = publishN (topicP s) := rfl
  unfold restP
  rw [hb, ht]
  unfold publishN
  cases hn : nameL (bl s)
  · have : nameL (bl (topicP s).topic) = false := hn
    rw [if_pos (Or.inl this)]; rfl
  · have h1 : nameL (bl (topicP s).topic) = true := hn
    have hl := name_len hn
    rw [blen] at hl
    have h2 : (topicP s).topic.size = s.size := rfl
    rw [h1, h2]
    simp [topicP, Pk.zero, restOf, e0_size]
    have a1 : ¬ (2 + (s.size : Int) < 0) := by omega
    have a2 : ¬ (268435455 < 2 + (s.size : Int)) := by omega
    simp [a1, a2]; omega
theorem filter_right (s : ByteArray) : decide (0 ≤ restP (filterP s)) = filterL (bl s) := by
  have hb : bareB (filterP s) = true := (zeros_iff _).2 (by constructor <;> simp [filterP, Pk.zero])
  have ht : typeN (filterP s) = subsN (filterP s) := rfl
  unfold restP
  rw [hb, ht]
  unfold subsN
  have h0 : ¬ ((filterP s).id = 0 ∨ (filterP s).subs = []) := by simp [filterP]
  rw [if_neg h0]
  have h1 : (filterP s).subs.all (subOk (mostN (filterP s))) = filterL (bl s) := by simp [filterP, subOk, fB]
  have h2 : subsLen (moreN (filterP s)) (filterP s).subs = 2 + s.size := by simp [filterP, moreN, subsLen]
  rw [h1, h2]
  cases hn : filterL (bl s)
  · rfl
  · have hl := filter_len hn
    rw [blen] at hl
    rw [if_pos rfl]
    unfold restOf
    have a : ¬ (2 + ((2 + s.size : Nat) : Int) < 0 ∨ 268435455 < 2 + ((2 + s.size : Nat) : Int) ∨ true = false) := by simp; omega
    rw [if_neg a]; simp; omega
theorem will_right (s : ByteArray) : decide (0 ≤ restP (willP s)) = nameL (bl s) := by
  have hb : bareB (willP s) = true := (zeros_iff _).2 (by constructor <;> simp [willP, Pk.zero])
  have ht : typeN (willP s) = connectN (willP s) := rfl
  unfold restP
  rw [hb, ht]
  unfold connectN
  have h1 : connectOk (willP s) = nameL (bl s) := by
    have e1 : (willP s).level = 4 := rfl
    have e2 : (willP s).client = e0 := rfl
    have e3 : (willP s).user = e0 := rfl
    have e4 : (willP s).pass = e0 := rfl
    have e5 : willOk (willP s) = nameL (bl s) := by
      unfold willOk
      simp [willP, Pk.zero, e0_size]
    have e6 : userOk (willP s) = true := rfl
    have e7 : passOk (willP s) = true := rfl
    unfold connectOk
    rw [e1, e2, e3, e4, e5, e6, e7, e0_bl, valid_nil, e0_size]; simp
  have h2 : connectLen (willP s) = 16 + s.size := by
    unfold connectLen
    simp [willP, Pk.zero, e0_size]; omega
  rw [h1, h2]
  cases hn : nameL (bl s)
  · rfl
  · have hl := name_len hn
    rw [blen] at hl
    rw [if_pos rfl]
    unfold restOf
    have a : ¬ (((16 + s.size : Nat) : Int) < 0 ∨ 268435455 < ((16 + s.size : Nat) : Int) ∨ true = false) := by simp; omega
    rw [if_neg a]; simp; omega
def wildB (s : Bs) : Bool := s.any fun b => b == 43 || b == 35
def hashB' (s : Bs) : Bool := s.any fun b => b == 35
theorem plain_wild (s : Bs) : plainL s = !wildB s := by
  unfold plainL wildB
  rw [Bool.eq_iff_iff]
  simp
theorem name_filter (s : Bs) : nameL s = (filterL s && !wildB s) := by
  rw [← plain_wild]
  cases h : plainL s with
  | false => unfold nameL; rw [h]; simp
  | true =>
    rw [Bool.and_true]
    unfold nameL filterL
    rw [h, filterLv_plain _ (by rw [plain_levels]; exact h)]
/-- A level that is more than a + and has no # is plain. -/
theorem hash_levels : ∀ s : Bs, hashB' s = (levelsL s).any hashB'
  | [] => rfl
  | b :: t => by
    have ih := hash_levels t
    unfold levelsL
    by_cases h : b = 47
    · subst h
      rw [if_pos rfl]
      show ((47 : UInt8) == 35 || hashB' t) = _
      rw [ih]; rfl
    · rw [if_neg h]
      show (b == 35 || hashB' t) = _
      rw [ih]
      cases hl : levelsL t with
      | nil => exact absurd hl (levelsL_ne t)
      | cons x r =>
        show _ = ((b == 35 || hashB' x) || r.any hashB')
        rw [List.any_cons, Bool.or_assoc]
theorem level_hash (x : Bs) : levelL x false = true → hashB' x = false := by
  unfold levelL
  intro h
  simp only [Bool.or_eq_true, Bool.and_false, Bool.false_eq_true, or_false, beq_iff_eq] at h
  rcases h with rfl | h
  · rfl
  · rw [plain_wild] at h
    unfold wildB at h
    unfold hashB'
    simp at h ⊢
    intro y hy
    exact (h y hy).2
theorem level_last (x : Bs) : levelL x true = (levelL x false || x == [35]) := by
  unfold levelL
  cases (x == [43] : Bool) <;> cases (x == [35] : Bool) <;> cases plainL x <;> rfl
/-- Levels of two filters: a # in the first one alone parts them. -/
theorem filterLv_append : ∀ (A B : List Bs), B ≠ [] → filterLv A = true → filterLv B = true → filterLv (A ++ B) = !(A.any hashB')
  | [], B, _, _, hB => by simpa using hB
  | [x], B, hne, hA, hB => by
    have h1 : levelL x true = true := by
      unfold filterLv at hA
      simp at hA
      exact hA.1
    have hBf : B.isEmpty = false := by cases B with | nil => exact absurd rfl hne | cons => rfl
    show (levelL x B.isEmpty && filterLv B) = !(hashB' x || false)
    rw [hB, hBf, Bool.and_true, Bool.or_false]
    rw [level_last, Bool.or_eq_true] at h1
    rcases h1 with h1 | h1
    · rw [h1, level_hash x h1]; rfl
    · rw [beq_iff_eq] at h1
      subst h1; rfl
  | x :: y :: r, B, hne, hA, hB => by
    have hA' : levelL x false = true ∧ filterLv (y :: r) = true := by
      have : (levelL x false && filterLv (y :: r)) = true := hA
      simpa using this
    have ih := filterLv_append (y :: r) B hne hA'.2 hB
    show (levelL x false && filterLv ((y :: r) ++ B)) = !(hashB' x || (y :: r).any hashB')
    rw [ih, hA'.1, level_hash x hA'.1]; rfl
theorem filter_slash' {a b : Bs} (ha : filterL a = true) (hb : filterL b = true) (hs : (a ++ 47 :: b).length ≤ 65535) : filterL (a ++ 47 :: b) = !hashB' a := by
  unfold filterL at *
  simp only [Bool.and_eq_true] at ha hb
  rw [valid_slash _ _ hs, levels_slash, ha.1.2, hb.1.2, filterLv_append _ _ (levelsL_ne b) ha.2 hb.2, ← hash_levels]
  simp
theorem valid_some {s : Bs} (h : validL s = true) : s.length ≤ 65535 := by
  unfold validL at h; simp at h; exact h.1
theorem filterLv_first {A B : List Bs} (hB : B ≠ []) (h : filterLv (A ++ B) = true) : A.any hashB' = false := by
  induction A with
  | nil => rfl
  | cons x r ih =>
    have hne : (r ++ B).isEmpty = false := by
      cases hr : r ++ B with
      | nil => simp at hr; exact absurd hr.2 hB
      | cons => rfl
    have h2 : (levelL x (r ++ B).isEmpty && filterLv (r ++ B)) = true := h
    rw [hne] at h2
    simp only [Bool.and_eq_true] at h2
    rw [List.any_cons, level_hash x h2.1, ih h2.2]; rfl
/-- Behind a # stands nothing. -/
theorem hash_end (s : Bs) (h : hashB' s = true) : filterL (s ++ [47]) = false := by
  cases hf : filterL (s ++ [47]) with
  | false => rfl
  | true =>
    unfold filterL at hf
    simp only [Bool.and_eq_true] at hf
    have h1 := hf.2
    rw [show s ++ [47] = s ++ 47 :: [] from rfl, levels_slash] at h1
    have := filterLv_first (by simp [levelsL]) h1
    rw [← hash_levels, h] at this
    cases this
theorem filter_slash_end {a : Bs} (ha : filterL a = true) (h : hashB' a = false) (hs : a.length + 1 ≤ 65535) : filterL (a ++ [47]) = true := by
  unfold filterL at *
  simp only [Bool.and_eq_true] at ha
  have h0 : validL [] = true := valid_nil
  rw [show a ++ [47] = a ++ 47 :: [] from rfl, valid_slash _ _ (by simp; omega), levels_slash, ha.1.2, h0, filterLv_append _ _ (by simp [levelsL]) ha.2 (by rfl), ← hash_levels, h]
  simp
theorem level_x (x : Bs) (b : Bool) (h : hashB' x = true) : levelL (x ++ [120]) b = false := by
  unfold levelL
  have h1 : (x ++ [120] == [43]) = false := by
    rw [beq_eq_false_iff_ne]
    intro e
    have := congrArg List.getLast? e
    simp at this
  have h2 : (x ++ [120] == [35]) = false := by
    rw [beq_eq_false_iff_ne]
    intro e
    have := congrArg List.getLast? e
    simp at this
  have h3 : plainL (x ++ [120]) = false := by
    rw [plain_wild]
    unfold wildB
    unfold hashB' at h
    simp at h ⊢
    exact ⟨35, h, Or.inr rfl⟩
  rw [h1, h2, h3]; simp
theorem filterLv_grow : ∀ (A : List Bs), A.any hashB' = true → filterLv (growLast A 120) = false
  | [], h => by cases h
  | [x], h => by
    have hx : hashB' x = true := by simpa using h
    show (levelL (x ++ [120]) true && true) = false
    rw [level_x x true hx]; rfl
  | x :: y :: r, h => by
    have hg : growLast (x :: y :: r) 120 = x :: growLast (y :: r) 120 := by
      simp [growLast, List.getLastD]
    have hne : (growLast (y :: r) 120).isEmpty = false := by simp [growLast]
    rw [hg]
    show (levelL x (growLast (y :: r) 120).isEmpty && filterLv (growLast (y :: r) 120)) = false
    rw [hne]
    by_cases hx : hashB' x = true
    · have : levelL x false = false := by
        cases hl : levelL x false with
        | false => rfl
        | true => rw [level_hash x hl] at hx; cases hx
      rw [this]; rfl
    · have h2 : (y :: r).any hashB' = true := by
        rw [List.any_cons] at h
        simp only [Bool.or_eq_true] at h
        rcases h with h | h
        · exact absurd h hx
        · exact h
      rw [filterLv_grow (y :: r) h2, Bool.and_false]
theorem hash_x (s : Bs) (h : hashB' s = true) : filterL (s ++ [120]) = false := by
  unfold filterL
  rw [levelsL_snoc, if_neg (by decide), filterLv_grow _ (by rw [← hash_levels]; exact h), Bool.and_false]
end Go.Proofs.YtfljdlaelanliaaDoor

/- Plain mathematics of packets: bytes more of a payload, of a password; a field another one. No program. -/
namespace Go.Proofs.YtfljdlaelanliaaDoor

theorem bsize (a b : ByteArray) : (a ++ b).size = a.size + b.size := ByteArray.size_append
theorem rest_bare {p : Pk} (h : 0 ≤ restP p) : bareB p = true := by
  unfold restP restOf at h
  cases hb : bareB p with
  | true => rfl
  | false => rw [hb] at h; simp at h
theorem rest_type {p : Pk} (h : 0 ≤ restP p) : restP p = typeN p := by
  unfold restP restOf at *
  split at h
  · omega
  · rename_i h2; rw [if_neg h2]
theorem rest_of {q : Pk} {n : Int} (hb : bareB q = true) (ht : typeN q = n) (h0 : 0 ≤ n) (hm : n ≤ 268435455) : restP q = n := by
  unfold restP restOf
  rw [hb, ht, if_neg (by rintro (h | h | h) <;> first | omega | cases h)]
theorem ty3 {p : Pk} (h : p.ty = 3) : typeN p = publishN p := by unfold typeN; simp [h]
theorem ty1 {p : Pk} (h : p.ty = 1) : typeN p = connectN p := by unfold typeN; simp [h]
theorem pub_parts {p : Pk} (h : p.ty = 3) (h0 : 0 ≤ restP p) : nameL (bl p.topic) = true ∧ p.qos ≤ 2 ∧ ((p.qos = 0 ∧ p.id = 0 ∧ p.dup = false ∧ restP p = 2 + (p.topic.size : Int) + p.payload.size) ∨ (0 < p.qos ∧ 0 < p.id ∧ restP p = 2 + (p.topic.size : Int) + p.payload.size + 2)) := by
  have e := (rest_type h0).trans (ty3 h)
  rw [e] at h0
  rw [e]
  clear e
  unfold publishN at *
  by_cases hn : nameL (bl p.topic) = false ∨ 2 < p.qos
  · rw [if_pos hn] at h0; omega
  · rw [if_neg hn] at h0
    rw [if_neg hn]
    refine ⟨?_, by omega, ?_⟩
    · cases hc : nameL (bl p.topic) with
      | true => rfl
      | false => exact absurd (Or.inl hc) hn
    by_cases h1 : 0 < p.qos ∧ 0 < p.id
    · rw [if_pos h1]
      exact Or.inr ⟨h1.1, h1.2, rfl⟩
    · rw [if_neg h1] at h0
      rw [if_neg h1]
      by_cases h2 : 0 < p.qos ∨ 0 < p.id ∨ p.dup = true
      · rw [if_pos h2] at h0; omega
      · rw [if_neg h2]
        refine Or.inl ⟨by omega, by omega, ?_, rfl⟩
        cases hd : p.dup with
        | false => rfl
        | true => exact absurd (Or.inr (Or.inr hd)) h2
theorem pub_mk {p : Pk} (h : p.ty = 3) (hz : Zeros p) (hn : nameL (bl p.topic) = true) (hq : p.qos ≤ 2) (hs : p.payload.size ≤ 100000) :
    (p.qos = 0 → p.id = 0 → p.dup = false → restP p = 2 + (p.topic.size : Int) + p.payload.size) ∧ (0 < p.qos → 0 < p.id → restP p = 2 + (p.topic.size : Int) + p.payload.size + 2) := by
  have hb := (zeros_iff p).2 hz
  have hl := name_len hn
  rw [blen] at hl
  constructor
  · intro a1 a2 a3
    refine rest_of hb ?_ (by omega) (by omega)
    rw [ty3 h]
    unfold publishN
    rw [hn, a1, a2, a3]; simp
  · intro a1 a2
    refine rest_of hb ?_ (by omega) (by omega)
    rw [ty3 h]
    unfold publishN
    rw [hn, if_neg (by rintro (h | h) <;> first | omega | cases h), if_pos ⟨a1, a2⟩]
def payMore (p : Pk) (s : ByteArray) : Pk := { p with payload := p.payload ++ s }
def payQos (p : Pk) (s : ByteArray) : Pk := { p with payload := p.payload ++ s, qos := 2, id := 1 }
def payNone (p : Pk) (s : ByteArray) : Pk := { p with payload := p.payload ++ s, qos := 0, id := 0, dup := false }
def passMore (p : Pk) (s : ByteArray) : Pk := { p with pass := p.pass ++ s }
def passNew (p : Pk) (s : ByteArray) : Pk := { p with hasPass := true, pass := s }
theorem rests_pub {p : Pk} {s : ByteArray} (hg : Small p) (h : p.ty = 3) (h0 : 0 ≤ restP p) (hs : s.size ≤ 1000) :
    restP (payMore p s) = restP p + s.size ∧ (p.qos = 0 → restP (payQos p s) = restP p + s.size + 2) ∧ (p.qos ≠ 0 → restP (payNone p s) = restP p + s.size - 2) := by
  have hz := (zeros_iff p).1 (rest_bare h0)
  have hp := hg.parts
  obtain ⟨z3, z1, z2, z9, zi, zs⟩ := hz
  have ha := z1 (by omega)
  have hb := z2 (by omega)
  have hc := z9 (by omega)
  have hd := zs (by omega) (by omega)
  obtain ⟨hn, hq, hk⟩ := pub_parts h h0
  have q1 : Zeros (payMore p s) := ⟨fun e => absurd h e, fun _ => ha, fun _ => hb, fun _ => hc, fun e => (by simp only [payMore] at e; omega), fun _ _ => hd⟩
  have q2 : Zeros (payQos p s) := ⟨fun e => absurd h e, fun _ => ha, fun _ => hb, fun _ => hc, fun e => (by simp only [payQos] at e; omega), fun _ _ => hd⟩
  have q3 : Zeros (payNone p s) := ⟨fun e => absurd h e, fun _ => ha, fun _ => hb, fun _ => hc, fun e => (by simp only [payNone] at e; omega), fun _ _ => hd⟩
  have r1 := pub_mk (p := payMore p s) h q1 hn hq (by simp only [payMore, bsize]; omega)
  have r2 := pub_mk (p := payQos p s) h q2 hn (by simp [payQos]) (by simp only [payQos, bsize]; omega)
  have r3 := pub_mk (p := payNone p s) h q3 hn (by simp [payNone]) (by simp only [payNone, bsize]; omega)
  simp only [payMore, payQos, payNone, bsize] at r1 r2 r3 ⊢
  rcases hk with ⟨k1, k2, k3, k4⟩ | ⟨k1, k2, k4⟩
  · have e1 := r1.1 k1 k2 k3
    have e2 := r2.2 (by omega) (by omega)
    rw [k4]
    exact ⟨by rw [e1]; push_cast; omega, fun _ => by rw [e2]; push_cast; omega, fun e => absurd k1 e⟩
  · have e1 := r1.2 k1 k2
    have e3 := r3.1 trivial trivial trivial
    rw [k4]
    exact ⟨by rw [e1]; push_cast; omega, fun e => by omega, fun e => by rw [e3]; push_cast; omega⟩
theorem con_parts {p : Pk} (h : p.ty = 1) (h0 : 0 ≤ restP p) : connectOk p = true ∧ restP p = (connectLen p : Int) := by
  have e := (rest_type h0).trans (ty1 h)
  rw [e] at h0
  rw [e]
  unfold connectN at *
  cases hn : connectOk p with
  | false => rw [hn] at h0; simp at h0
  | true => exact ⟨rfl, if_pos rfl⟩
theorem connect_small {p : Pk} (hg : Small p) : connectLen p ≤ 100000 := by
  have hp := hg.parts
  unfold connectLen
  (repeat' split) <;> omega
theorem rests_con {p : Pk} {s : ByteArray} (hg : Small p) (h : p.ty = 1) (h0 : 0 ≤ restP p) (hs : s.size ≤ 1000) :
    (p.hasPass = true → restP (passMore p s) = restP p + s.size) ∧ (p.hasPass = false → p.hasUser = true → restP (passNew p s) = restP p + 2 + s.size) := by
  have hz := (zeros_iff p).1 (rest_bare h0)
  have hp := hg.parts
  have hcs := connect_small hg
  obtain ⟨z3, z1, z2, z9, zi, zs⟩ := hz
  have ha := z3 (by omega)
  have hb := z2 (by omega)
  have hc := z9 (by omega)
  have hd := zs (by omega) (by omega)
  have he := zi (Or.inl h)
  obtain ⟨hk, hl⟩ := con_parts h h0
  have q1 : bareB (passMore p s) = true := (zeros_iff _).2 ⟨fun _ => ha, fun e => absurd h e, fun _ => hb, fun _ => hc, fun _ => he, fun _ _ => hd⟩
  have q2 : bareB (passNew p s) = true := (zeros_iff _).2 ⟨fun _ => ha, fun e => absurd h e, fun _ => hb, fun _ => hc, fun _ => he, fun _ _ => hd⟩
  unfold connectOk at hk
  simp only [Bool.and_eq_true, decide_eq_true_eq] at hk
  obtain ⟨⟨⟨⟨⟨⟨k1, k2⟩, k3⟩, k4⟩, k5⟩, k6⟩, k7⟩ := hk
  rw [hl]
  constructor
  · intro hpw
    have o1 : connectOk (passMore p s) = true := by
      unfold connectOk
      simp only [Bool.and_eq_true, decide_eq_true_eq]
      refine ⟨⟨⟨⟨⟨⟨k1, k2⟩, k3⟩, k4⟩, ?_⟩, k6⟩, by simp only [passMore, bsize]; omega⟩
      unfold passOk; simp [passMore, hpw]
    have o2 : connectLen (passMore p s) = connectLen p + s.size := by
      unfold connectLen
      simp only [passMore, hpw, bsize, if_true]; omega
    refine rest_of q1 ?_ (by omega) (by omega)
    rw [ty1 (p := passMore p s) h]
    unfold connectN
    rw [o1, o2, if_pos rfl]; push_cast; rfl
  · intro hpw hus
    have o1 : connectOk (passNew p s) = true := by
      unfold connectOk
      simp only [Bool.and_eq_true, decide_eq_true_eq]
      refine ⟨⟨⟨⟨⟨⟨k1, k2⟩, k3⟩, ?_⟩, ?_⟩, k6⟩, by simp only [passNew]; omega⟩
      · unfold userOk; simp [passNew, hus]
      · unfold passOk; simp [passNew]
    have o2 : connectLen (passNew p s) = connectLen p + 2 + s.size := by
      unfold connectLen
      simp only [passNew, hpw, hus, if_true, Bool.false_eq_true, if_false]; omega
    refine rest_of q2 ?_ (by omega) (by omega)
    rw [ty1 (p := passNew p s) h]
    unfold connectN
    rw [o1, o2, if_pos rfl]; push_cast; omega

/- A field another one. -/
def moreF (p : Pk) : Nat → Pk
  | 0 => { p with dup := !p.dup }
  | 1 => { p with qos := (p.qos + 1) % 256 }
  | 2 => { p with ret := !p.ret }
  | 3 => { p with id := (p.id + 1) % 65536 }
  | 4 => { p with topic := p.topic ++ b1' [116] }
  | 5 => { p with payload := p.payload ++ b1' [112] }
  | 6 => { p with level := (p.level + 1) % 256 }
  | 7 => { p with clean := !p.clean }
  | 8 => { p with keep := (p.keep + 1) % 65536 }
  | 9 => { p with client := p.client ++ b1' [99] }
  | 10 => { p with hasWill := !p.hasWill }
  | 11 => { p with wret := !p.wret }
  | 12 => { p with user := p.user ++ b1' [117] }
  | 13 => { p with hasUser := !p.hasUser }
  | 14 => { p with pass := p.pass ++ b1' [115] }
  | 15 => { p with present := !p.present }
  | 16 => { p with code := (p.code + 1) % 256 }
  | _ => { p with codes := p.codes ++ b1' [0] }
where b1' (l : List UInt8) : ByteArray := ⟨l.toArray⟩
def typesF : Nat → List Nat
  | 3 => [3, 4, 5, 6, 7, 8, 9, 10, 11]
  | 6 | 7 | 8 | 9 | 10 | 11 | 12 | 13 | 14 => [1]
  | 15 | 16 => [2]
  | 0 | 1 | 2 | 4 | 5 => [3]
  | _ => [9]
theorem more_size (s : ByteArray) (l : List UInt8) (hl : l ≠ []) : s ++ moreF.b1' l ≠ s := by
  intro e
  have := congrArg ByteArray.size e
  rw [bsize] at this
  cases l with
  | nil => exact hl rfl
  | cons x r =>
    have h2 : (moreF.b1' (x :: r)).size = r.length + 1 := by simp [moreF.b1', ByteArray.size]
    omega
theorem more_ne (p : Pk) (hp : PkTy p) (f : Nat) : p ≠ moreF p f := by
  have e8 : ∀ n : Nat, n < 256 → n ≠ (n + 1) % 256 := by omega
  have e16 : ∀ n : Nat, n < 65536 → n ≠ (n + 1) % 65536 := by omega
  intro h
  match f, h with
  | 0, h => have := congrArg Pk.dup h; simp [moreF] at this
  | 1, h => exact e8 _ hp.qos (congrArg Pk.qos h)
  | 2, h => have := congrArg Pk.ret h; simp [moreF] at this
  | 3, h => exact e16 _ hp.id (congrArg Pk.id h)
  | 4, h => exact more_size p.topic _ (by simp) (congrArg Pk.topic h).symm
  | 5, h => exact more_size p.payload _ (by simp) (congrArg Pk.payload h).symm
  | 6, h => exact e8 _ hp.level (congrArg Pk.level h)
  | 7, h => have := congrArg Pk.clean h; simp [moreF] at this
  | 8, h => exact e16 _ hp.keep (congrArg Pk.keep h)
  | 9, h => exact more_size p.client _ (by simp) (congrArg Pk.client h).symm
  | 10, h => have := congrArg Pk.hasWill h; simp [moreF] at this
  | 11, h => have := congrArg Pk.wret h; simp [moreF] at this
  | 12, h => exact more_size p.user _ (by simp) (congrArg Pk.user h).symm
  | 13, h => have := congrArg Pk.hasUser h; simp [moreF] at this
  | 14, h => exact more_size p.pass _ (by simp) (congrArg Pk.pass h).symm
  | 15, h => have := congrArg Pk.present h; simp [moreF] at this
  | 16, h => exact e8 _ hp.code (congrArg Pk.code h)
  | n + 17, h => exact more_size p.codes _ (by simp) (congrArg Pk.codes h).symm
theorem rest_types {p : Pk} (h : 0 ≤ restP p) : 1 ≤ p.ty ∧ p.ty ≤ 14 := by
  have e := rest_type h
  rw [e] at h
  unfold typeN at h
  (repeat' split at h) <;> omega

set_option maxHeartbeats 1000000 in
theorem more_bad (p : Pk) (_hp : PkTy p) (h0 : 0 ≤ restP p) (f : Nat) (hf : p.ty ∉ typesF f) : restP (moreF p f) < 0 := by
  have ht := rest_types h0
  have hz := (zeros_iff p).1 (rest_bare h0)
  rcases Int.lt_or_le (restP (moreF p f)) 0 with h | h
  · exact h
  · exfalso
    have hq := (zeros_iff _).1 (rest_bare h)
    have b8 : (0 + 1) % 256 = 1 := rfl
    match f, hf, hq with
    | 0, hf, hq => have a := (hz.z3 (by simpa [typesF] using hf)).1; have b := (hq.z3 (by simpa [typesF, moreF] using hf)).1; simp [moreF, a] at b
    | 1, hf, hq => have a := (hz.z3 (by simpa [typesF] using hf)).2.1; have b := (hq.z3 (by simpa [typesF, moreF] using hf)).2.1; simp [moreF, a] at b
    | 2, hf, hq => have a := (hz.z3 (by simpa [typesF] using hf)).2.2.1; have b := (hq.z3 (by simpa [typesF, moreF] using hf)).2.2.1; simp [moreF, a] at b
    | 3, hf, hq =>
      have hk : p.ty = 1 ∨ p.ty = 2 ∨ p.ty = 12 ∨ p.ty = 13 ∨ p.ty = 14 := by simp [typesF] at hf; omega
      have a := hz.zi hk; have b := hq.zi hk; simp [moreF, a] at b
    | 4, hf, hq => have a := (hz.z3 (by simpa [typesF] using hf)).2.2.2.1; have b := (hq.z3 (by simpa [typesF, moreF] using hf)).2.2.2.1; exact more_size p.topic _ (by simp) (Eq.trans b a.symm)
    | 5, hf, hq => have a := (hz.z3 (by simpa [typesF] using hf)).2.2.2.2; have b := (hq.z3 (by simpa [typesF, moreF] using hf)).2.2.2.2; exact more_size p.payload _ (by simp) (Eq.trans b a.symm)
    | 6, hf, hq => have a := (hz.z1 (by simpa [typesF] using hf)).1; have b := (hq.z1 (by simpa [typesF, moreF] using hf)).1; simp [moreF, a] at b
    | 7, hf, hq => have a := (hz.z1 (by simpa [typesF] using hf)).2.1; have b := (hq.z1 (by simpa [typesF, moreF] using hf)).2.1; simp [moreF, a] at b
    | 8, hf, hq => have a := (hz.z1 (by simpa [typesF] using hf)).2.2.1; have b := (hq.z1 (by simpa [typesF, moreF] using hf)).2.2.1; simp [moreF, a] at b
    | 9, hf, hq => have a := (hz.z1 (by simpa [typesF] using hf)).2.2.2.1; have b := (hq.z1 (by simpa [typesF, moreF] using hf)).2.2.2.1; exact more_size p.client _ (by simp) (Eq.trans b a.symm)
    | 10, hf, hq => have a := (hz.z1 (by simpa [typesF] using hf)).2.2.2.2.1; have b := (hq.z1 (by simpa [typesF, moreF] using hf)).2.2.2.2.1; simp [moreF, a] at b
    | 11, hf, hq => have a := (hz.z1 (by simpa [typesF] using hf)).2.2.2.2.2.2.2.2.1; have b := (hq.z1 (by simpa [typesF, moreF] using hf)).2.2.2.2.2.2.2.2.1; simp [moreF, a] at b
    | 12, hf, hq => have a := (hz.z1 (by simpa [typesF] using hf)).2.2.2.2.2.2.2.2.2.2.2.1; have b := (hq.z1 (by simpa [typesF, moreF] using hf)).2.2.2.2.2.2.2.2.2.2.2.1; exact more_size p.user _ (by simp) (Eq.trans b a.symm)
    | 13, hf, hq => have a := (hz.z1 (by simpa [typesF] using hf)).2.2.2.2.2.2.2.2.2.1; have b := (hq.z1 (by simpa [typesF, moreF] using hf)).2.2.2.2.2.2.2.2.2.1; simp [moreF, a] at b
    | 14, hf, hq => have a := (hz.z1 (by simpa [typesF] using hf)).2.2.2.2.2.2.2.2.2.2.2.2; have b := (hq.z1 (by simpa [typesF, moreF] using hf)).2.2.2.2.2.2.2.2.2.2.2.2; exact more_size p.pass _ (by simp) (Eq.trans b a.symm)
    | 15, hf, hq => have a := (hz.z2 (by simpa [typesF] using hf)).1; have b := (hq.z2 (by simpa [typesF, moreF] using hf)).1; simp [moreF, a] at b
    | 16, hf, hq => have a := (hz.z2 (by simpa [typesF] using hf)).2; have b := (hq.z2 (by simpa [typesF, moreF] using hf)).2; simp [moreF, a] at b
    | n + 17, hf, hq => have a := hz.z9 (by simpa [typesF] using hf); have b := hq.z9 (by simpa [typesF, moreF] using hf); exact more_size p.codes _ (by simp) (Eq.trans b a.symm)
/-- A filter more. -/
def subMore (p : Pk) : Pk := { p with subs := p.subs ++ [(moreF.b1' [102, 47, 35], 0)] }
theorem subLen_more (m : Nat) (S : List Sb) (x : Sb) : subsLen m (S ++ [x]) = subsLen m S + (2 + x.1.size + m) := by
  unfold subsLen
  rw [List.map_append, List.sum_append]; simp
theorem small_subs {p : Pk} (hg : Small p) : subsLen 1 p.subs ≤ 100000 := by
  have h1 := hg.parts
  have h2 := hg.few
  have key : ∀ S : List Sb, subsLen 1 S = (S.map (·.1.size)).sum + 3 * S.length := by
    intro S
    unfold subsLen
    induction S with
    | nil => rfl
    | cons x r ih => simp only [List.map_cons, List.sum_cons, List.length_cons]; rw [ih]; omega
  rw [key]; omega
theorem subsLen_01 (S : List Sb) : subsLen 0 S ≤ subsLen 1 S := by
  unfold subsLen
  induction S with
  | nil => exact Nat.le_refl _
  | cons x r ih => simp only [List.map_cons, List.sum_cons]; omega
theorem sub_more (p : Pk) (hg : Small p) (h0 : 0 ≤ restP p) : restP (subMore p) = if p.ty = 8 then restP p + 6 else if p.ty = 10 then restP p + 5 else -1 := by
  have hz := (zeros_iff p).1 (rest_bare h0)
  by_cases h : p.ty = 8 ∨ p.ty = 10
  · have hb : bareB (subMore p) = true := (zeros_iff _).2 ⟨fun e => hz.z3 e, fun e => hz.z1 e, fun e => hz.z2 e, fun e => hz.z9 e, fun e => hz.zi e, fun e1 e2 => by rcases h with h | h; exact absurd h e1; exact absurd h e2⟩
    have ht : ∀ q : Pk, q.ty = p.ty → typeN q = subsN q := fun q e => by
      unfold typeN
      rw [← e] at h
      rw [if_neg (by omega), if_neg (by omega), if_neg (by omega), if_neg (by omega), if_pos h]
    have e := (rest_type h0).trans (ht p rfl)
    rw [e] at h0
    have hi : ¬ (p.id = 0 ∨ p.subs = []) := fun hh => by unfold subsN at h0; rw [if_pos hh] at h0; omega
    have hall : p.subs.all (subOk (mostN p)) = true := by
      cases hc : p.subs.all (subOk (mostN p)) with
      | true => rfl
      | false => unfold subsN at h0; rw [if_neg hi, hc] at h0; simp at h0
    have e2 : subsN p = 2 + (subsLen (moreN p) p.subs : Int) := by unfold subsN; rw [if_neg hi, hall, if_pos rfl]
    have hsm := small_subs hg
    have h01 := subsLen_01 p.subs
    have hm : moreN p = 0 ∨ moreN p = 1 := by unfold moreN; split <;> simp
    have e3 : subsN (subMore p) = 2 + (subsLen (moreN p) p.subs : Int) + (5 + (moreN p : Int)) := by
      have i1 : ¬ ((subMore p).id = 0 ∨ (subMore p).subs = []) := by
        rintro (hh | hh)
        · exact hi (Or.inl hh)
        · simp [subMore] at hh
      have i2 : (subMore p).subs.all (subOk (mostN (subMore p))) = true := by
        show (p.subs ++ [_]).all (subOk (mostN p)) = true
        rw [List.all_append, hall, Bool.true_and, List.all_cons, List.all_nil, Bool.and_true]
        unfold subOk
        have : filterL (fB ((moreF.b1' [102, 47, 35], 0) : Sb)) = true := by kernel_rfl
        rw [this]; simp
      unfold subsN
      rw [if_neg i1, i2, if_pos rfl]
      show 2 + (subsLen (moreN p) (p.subs ++ [_]) : Int) = _
      rw [subLen_more, show (moreF.b1' [102, 47, 35]).size = 3 from rfl]
      push_cast; omega
    have hle : (subsLen (moreN p) p.subs : Int) ≤ 100000 := by rcases hm with hm | hm <;> rw [hm] <;> omega
    have er : restP (subMore p) = subsN (subMore p) := rest_of hb (ht (subMore p) rfl) (by rw [e3]; omega) (by rw [e3]; omega)
    rw [er, e3, e, e2]
    rcases h with h | h
    · have : moreN p = 1 := by unfold moreN; simp [h]
      rw [if_pos h, this]; omega
    · have : moreN p = 0 := by unfold moreN; simp [h]
      rw [if_neg (by omega), if_pos h, this]; omega
  · rw [if_neg (fun e => h (Or.inl e)), if_neg (fun e => h (Or.inr e))]
    refine restP_neg _ ?_
    rcases Int.lt_or_le (restP (subMore p)) 0 with h1 | h1
    · exact h1
    · exfalso
      have hq := ((zeros_iff _).1 (rest_bare h1)).zs (fun e => h (Or.inl e)) (fun e => h (Or.inr e))
      simp [subMore] at hq
end Go.Proofs.YtfljdlaelanliaaDoor

/- Plain mathematics of filters: byte by byte, as the reference looks, is level by level. No program. -/
namespace Go.Proofs.YtfljdlaelanliaaDoor

/-- Whether each + and # of a text stands alone between two /, the text's ends aside; st: a level begins here. -/
def fA : Bool → Bs → Bool
  | _, [] => true
  | st, b :: t => (if b = 43 ∨ b = 35 then st && (t.isEmpty || (!(b == 35) && t.head? == some 47)) else true) && fA (b == 47) t
theorem fA_levels : ∀ (s x : Bs) (r : List Bs), levelsL s = x :: r → fA false s = (plainL x && filterLv r) ∧ fA true s = (levelL x r.isEmpty && filterLv r)
  | [], x, r, h => by
    simp [levelsL] at h
    obtain ⟨rfl, rfl⟩ := h
    exact ⟨rfl, rfl⟩
  | b :: t, x, r, h => by
    obtain ⟨y, q, hy⟩ : ∃ y q, levelsL t = y :: q := by
      cases hl : levelsL t with
      | nil => exact absurd hl (levelsL_ne t)
      | cons y q => exact ⟨y, q, rfl⟩
    have ih := fA_levels t y q hy
    by_cases hb : b = 47
    · subst hb
      unfold levelsL at h
      rw [if_pos rfl] at h
      injection h with h1 h2
      subst h1 h2
      have e : filterLv (levelsL t) = (levelL y q.isEmpty && filterLv q) := by rw [hy]; rfl
      have hne : (levelsL t).isEmpty = false := by rw [hy]; rfl
      have hf : ∀ st, fA st (47 :: t) = fA true t := fun st => by
        show ((if (47 : UInt8) = 43 ∨ (47 : UInt8) = 35 then _ else true) && fA ((47 : UInt8) == 47) t) = _
        rw [if_neg (by decide)]; rfl
      rw [hf, hf, ih.2, e, hne]
      exact ⟨rfl, rfl⟩
    · unfold levelsL at h
      rw [if_neg hb, hy] at h
      have h' : (b :: y) :: q = x :: r := h
      injection h' with h1 h2
      subst h1 h2
      have hb47 : (b == 47) = false := beq_eq_false_iff_ne.2 hb
      by_cases hw : b = 43 ∨ b = 35
      · have hp : plainL (b :: y) = false := by
          unfold plainL
          rcases hw with rfl | rfl <;> rfl
        have hf : ∀ st, fA st (b :: t) = ((st && (t.isEmpty || (!(b == 35) && t.head? == some 47))) && fA false t) := fun st => by
          show ((if b = 43 ∨ b = 35 then _ else true) && fA (b == 47) t) = _
          rw [if_pos hw, hb47]
        rw [hf, hf, hp, ih.1]
        refine ⟨by simp, ?_⟩
        unfold levelL
        rw [hp]
        cases t with
        | nil =>
          simp [levelsL] at hy
          obtain ⟨rfl, rfl⟩ := hy
          rcases hw with rfl | rfl <;> rfl
        | cons d t' =>
          by_cases hd : d = 47
          · subst hd
            unfold levelsL at hy
            rw [if_pos rfl] at hy
            injection hy with h1 h2
            subst h1 h2
            have hne : (levelsL t').isEmpty = false := by
              cases hl : levelsL t' with
              | nil => exact absurd hl (levelsL_ne t')
              | cons => rfl
            rw [hne]
            rcases hw with rfl | rfl
            · rfl
            · rfl
          · have hy2 : y ≠ [] := by
              unfold levelsL at hy
              rw [if_neg hd] at hy
              cases hl : levelsL t' with
              | nil => exact absurd hl (levelsL_ne t')
              | cons u v =>
                rw [hl] at hy
                have : (d :: u) :: v = y :: q := hy
                injection this with h1 _
                rw [← h1]; simp
            have e1 : ((b :: y) == [43]) = false := by rw [beq_eq_false_iff_ne]; intro e; injection e with _ e2; exact hy2 e2
            have e2 : ((b :: y) == [35]) = false := by rw [beq_eq_false_iff_ne]; intro e; injection e with _ e2; exact hy2 e2
            have e3 : ((d :: t').head? == some 47) = false := by
              rw [beq_eq_false_iff_ne]; intro e; injection e with e; exact hd e
            rw [e1, e2, e3]; simp
      · have hp : plainL (b :: y) = plainL y := by
          unfold plainL
          rw [List.all_cons]
          have h43 : (b == 43) = false := beq_eq_false_iff_ne.2 (fun e => hw (Or.inl e))
          have h35 : (b == 35) = false := beq_eq_false_iff_ne.2 (fun e => hw (Or.inr e))
          rw [h43, h35]; rfl
        have hf : ∀ st, fA st (b :: t) = fA false t := fun st => by
          show ((if b = 43 ∨ b = 35 then _ else true) && fA (b == 47) t) = _
          rw [if_neg hw, hb47, Bool.true_and]
        have e1 : ((b :: y) == [43]) = false := by rw [beq_eq_false_iff_ne]; intro e; injection e with e2 _; exact hw (Or.inl e2)
        have e2 : ((b :: y) == [35]) = false := by rw [beq_eq_false_iff_ne]; intro e; injection e with e2 _; exact hw (Or.inr e2)
        rw [hf, hf, ih.1, hp]
        unfold levelL
        rw [e1, e2, hp]
        exact ⟨rfl, rfl⟩
theorem fA_filter (s : Bs) : filterLv (levelsL s) = fA true s := by
  obtain ⟨y, q, hy⟩ : ∃ y q, levelsL s = y :: q := by
    cases hl : levelsL s with
    | nil => exact absurd hl (levelsL_ne s)
    | cons y q => exact ⟨y, q, rfl⟩
  rw [(fA_levels s y q hy).2, hy]; rfl
theorem fA_drop (s : Bs) (st : Bool) (k : Nat) (b : UInt8) (h : s[k]? = some b) : fA st (s.drop k) = ((if b = 43 ∨ b = 35 then st && (decide (s.length ≤ k + 1) || (!(b == 35) && s[k + 1]? == some 47)) else true) && fA (b == 47) (s.drop (k + 1))) := by
  obtain ⟨hk, hx⟩ := List.getElem?_eq_some_iff.1 h
  rw [List.drop_eq_getElem_cons hk, hx]
  have e1 : (s.drop (k + 1)).isEmpty = decide (s.length ≤ k + 1) := by rw [Bool.eq_iff_iff]; simp
  have e2 : (s.drop (k + 1)).head? = s[k + 1]? := by rw [List.head?_drop]
  rw [← e1, ← e2]
  rfl
end Go.Proofs.YtfljdlaelanliaaDoor

/- Plain mathematics of a packet's bytes: words, lengths, fields, the rest, the whole. No program. -/
namespace Go.Proofs.YtfljdlaelanliaaDoor

def byteN (n : Nat) : UInt8 := UInt8.ofNat n
def wordB (n : Nat) : Bs := [byteN (n / 256), byteN (n % 256)]
def dataB (s : ByteArray) : Bs := wordB s.size ++ bl s
def lenF : Nat → Nat → Bs
  | 0, n => [byteN n]
  | f + 1, n => if n < 128 then [byteN n] else byteN (n % 128 + 128) :: lenF f (n / 128)
/-- A length's bytes (of a length up to 268435455). -/
def lenB (n : Nat) : Bs := lenF 3 n
def lenS (n : Nat) : Nat := if n < 128 then 1 else if n < 16384 then 2 else if n < 2097152 then 3 else 4
theorem lenB_len (n : Nat) (h : n ≤ 268435455) : (lenB n).length = lenS n := by
  unfold lenB lenS lenF lenF lenF lenF
  by_cases h1 : n < 128
  · simp [h1]
  · by_cases h2 : n < 16384
    · have : n / 128 < 128 := by omega
      simp [h1, h2, this]
    · by_cases h3 : n < 2097152
      · have a1 : ¬ n / 128 < 128 := by omega
        have a2 : n / 128 / 128 < 128 := by omega
        simp [h1, h2, h3, a1, a2]
      · have a1 : ¬ n / 128 < 128 := by omega
        have a2 : ¬ n / 128 / 128 < 128 := by omega
        simp [h1, h2, h3, a1, a2]
def bitN (b : Bool) (v : Nat) : Nat := if b then v else 0
def flagsN (p : Pk) : Nat := if p.ty = 3 then bitN p.dup 8 + 2 * p.qos + bitN p.ret 1 else if p.ty = 6 ∨ p.ty = 8 ∨ p.ty = 10 then 2 else 0
def conFlags (p : Pk) : Nat := bitN p.hasUser 128 + bitN p.hasPass 64 + bitN p.wret 32 + 8 * p.wqos + bitN p.hasWill 4 + bitN p.clean 2
def mqtt : ByteArray := ⟨#[77, 81, 84, 84]⟩
def connectB (p : Pk) : Bs :=
  dataB mqtt ++ [byteN p.level, byteN (conFlags p)] ++ wordB p.keep ++ dataB p.client ++ (if p.hasWill then dataB p.wtopic ++ dataB p.wpayload else []) ++ (if p.hasUser then dataB p.user else []) ++ (if p.hasPass then dataB p.pass else [])
def subB (t : Nat) (x : Sb) : Bs := dataB x.1 ++ (if t = 8 then [byteN x.2] else [])
def otherB (p : Pk) : Bs := (if p.ty = 3 then dataB p.topic else []) ++ (if p.id = 0 then [] else wordB p.id) ++ p.subs.flatMap (subB p.ty) ++ bl p.codes ++ bl p.payload
def restB (p : Pk) : Bs := if p.ty = 1 then connectB p else if p.ty = 2 then [byteN (bitN p.present 1), byteN p.code] else otherB p
/-- A packet's bytes, its rest's length n. -/
def encB (p : Pk) : Bs := byteN (16 * p.ty + flagsN p) :: (lenB (restP p).toNat ++ restB p)
theorem dataB_len (s : ByteArray) : (dataB s).length = 2 + s.size := by
  unfold dataB wordB
  simp [blen]; omega
theorem connectB_len (p : Pk) : (connectB p).length = connectLen p := by
  have hm : mqtt.size = 4 := rfl
  unfold connectB connectLen
  cases p.hasWill <;> cases p.hasUser <;> cases p.hasPass <;> simp [dataB_len, wordB, hm] <;> omega
theorem subsB_len (t : Nat) (S : List Sb) : (S.flatMap (subB t)).length = subsLen (if t = 8 then 1 else 0) S := by
  unfold subsLen
  induction S with
  | nil => rfl
  | cons x r ih =>
    rw [List.flatMap_cons, List.length_append, ih, List.map_cons, List.sum_cons]
    unfold subB
    rw [List.length_append, dataB_len]
    by_cases h : t = 8
    · simp [h]
    · simp [h]
theorem restB_len (p : Pk) (hp : PkOk p) (h : 0 ≤ restP p) : ((restB p).length : Int) = restP p := by
  rw [(right_rest p hp).2 h]
  congr 1
  have hz := (zeros_iff p).1 (rest_bare h)
  unfold restB restR
  by_cases h1 : p.ty = 1
  · rw [if_pos h1, connectB_len]
    have a := hz.z3 (by omega)
    have b := hz.z9 (by omega)
    have c := hz.zi (by omega)
    have d := hz.zs (by omega) (by omega)
    simp [h1, a.2.2.2.2, b, c, d, e0_size, subsLen]
  · by_cases h2 : p.ty = 2
    · rw [if_neg h1, if_pos h2]
      have a := hz.z3 (by omega)
      have b := hz.z9 (by omega)
      have c := hz.zi (by omega)
      have d := hz.zs (by omega) (by omega)
      simp [h2, a.2.2.2.2, b, c, d, e0_size, subsLen]
    · rw [if_neg h1, if_neg h2]
      unfold otherB
      by_cases h3 : p.ty = 3
      · have d := hz.zs (by omega) (by omega)
        by_cases hi : p.id = 0 <;> simp [h3, hi, d, dataB_len, wordB, subsLen, blen] <;> omega
      · have a := hz.z3 h3
        have hs := subsB_len p.ty p.subs
        by_cases hi : p.id = 0 <;> simp [h1, h2, h3, hi, wordB, blen, hs, a.2.2.2.2, e0_size, e0_bl] <;> omega
theorem encB_len (p : Pk) (hp : PkOk p) (h : 0 ≤ restP p) : (encB p).length = 1 + lenS (restP p).toNat + (restP p).toNat := by
  have h1 := restB_len p hp h
  have h2 : restP p ≤ 268435455 := by unfold restP restOf; split <;> omega
  unfold encB
  rw [List.length_cons, List.length_append, lenB_len _ (by omega)]
  omega
end Go.Proofs.YtfljdlaelanliaaDoor

/- Plain mathematics of reading a packet's bytes: what is written is read as it was, whatever stands behind it. No program. -/
namespace Go.Proofs.YtfljdlaelanliaaDoor

/-- What is left, and whether something was not so. -/
abbrev Cur := Bs × Bool
def baB (L : Bs) : ByteArray := ⟨L.toArray⟩
theorem baB_bl (s : ByteArray) : baB (bl s) = s := bl_inj rfl
theorem bl_baB (L : Bs) : bl (baB L) = L := rfl
def oneR : Cur → Nat × Cur
  | ([], _) => (0, ([], true))
  | (b :: t, k) => (b.toNat, (t, k))
def wordR : Cur → Nat × Cur
  | (a :: b :: t, k) => (a.toNat * 256 + b.toNat, (t, k))
  | (l, _) => (0, (l, true))
def dataR : Cur → ByteArray × Cur
  | (a :: b :: t, k) => if a.toNat * 256 + b.toNat ≤ t.length then (baB (t.take (a.toNat * 256 + b.toNat)), (t.drop (a.toNat * 256 + b.toNat), k)) else (e0, (a :: b :: t, true))
  | (l, _) => (e0, (l, true))
def textR (c : Cur) : ByteArray × Cur := if validL (bl (dataR c).1) = true then dataR c else (e0, (c.1, true))
def conR (c0 : Cur) : Pk × Cur :=
  let a := textR c0
  let b := oneR a.2
  let f := oneR b.2
  let k := wordR (f.2.1, f.2.2 || (a.1 != mqtt) || decide (f.1 % 2 = 1))
  let n := textR k.2
  let wt := if f.1 / 4 % 2 = 1 then textR n.2 else (e0, n.2)
  let wp := if f.1 / 4 % 2 = 1 then dataR wt.2 else (e0, wt.2)
  let u := if f.1 / 128 % 2 = 1 then textR wp.2 else (e0, wp.2)
  let s := if f.1 / 64 % 2 = 1 then dataR u.2 else (e0, u.2)
  ({ Pk.zero with ty := 1, level := b.1, clean := decide (f.1 / 2 % 2 = 1), hasWill := decide (f.1 / 4 % 2 = 1), wqos := f.1 / 8 % 4, wret := decide (f.1 / 32 % 2 = 1), hasPass := decide (f.1 / 64 % 2 = 1), hasUser := decide (f.1 / 128 % 2 = 1), keep := k.1, client := n.1, wtopic := wt.1, wpayload := wp.1, user := u.1, pass := s.1 }, s.2)
def subsR (ty : Nat) : Nat → Cur → List Sb → List Sb × Cur
  | 0, c, acc => (acc, c)
  | f + 1, c, acc => if c.1 = [] ∨ c.2 = true then (acc, c) else
    let t := textR c
    let q := if ty = 8 then oneR t.2 else (0, t.2)
    subsR ty f q.2 (acc ++ [(t.1, q.1)])
def allR (ty fl : Nat) (c : Cur) : Pk × Cur :=
  if ty = 1 then conR c
  else if ty = 2 then
    let a := oneR c
    let b := oneR (a.2.1, a.2.2 || decide (1 < a.1))
    ({ Pk.zero with ty := 2, present := decide (a.1 = 1), code := b.1 }, b.2)
  else if ty = 3 then
    let t := textR c
    let i := if 0 < fl / 2 % 4 then wordR t.2 else (0, t.2)
    ({ Pk.zero with ty := 3, dup := decide (fl / 8 % 2 = 1), qos := fl / 2 % 4, ret := decide (fl % 2 = 1), topic := t.1, id := i.1, payload := baB i.2.1 }, ([], i.2.2))
  else if ty = 12 ∨ ty = 13 ∨ ty = 14 then ({ Pk.zero with ty := ty }, c)
  else
    let i := wordR c
    if ty = 9 then ({ Pk.zero with ty := ty, id := i.1, codes := baB i.2.1 }, ([], i.2.2))
    else if ty = 8 ∨ ty = 10 then
      let s := subsR ty (i.2.1.length + 1) i.2 []
      ({ Pk.zero with ty := ty, id := i.1, subs := s.1 }, s.2)
    else ({ Pk.zero with ty := ty, id := i.1 }, i.2)
def firstOk (b : Nat) : Bool :=
  if b / 16 = 0 ∨ b / 16 = 15 then false else if b / 16 = 3 then decide (b / 2 % 4 < 3)
  else if b / 16 = 6 ∨ b / 16 = 8 ∨ b / 16 = 10 then decide (b % 16 = 2) else decide (b % 16 = 0)
def lenRf : Nat → Nat → Nat → Nat → Bs → Nat × Nat × Nat
  | 0, _, _, _, _ => (0, 0, 4)
  | _ + 1, _, _, _, [] => (0, 0, 2)
  | f + 1, sc, acc, u, c :: t => if c.toNat < 128 then (acc + c.toNat % 128 * sc, u + 1, 0) else lenRf f (sc * 128) (acc + c.toNat % 128 * sc) (u + 1) t
def lenR (L : Bs) : Nat × Nat × Nat := lenRf 4 1 0 0 L
/-- A packet's rest read: the packet, or ErrForm. -/
def bodyR (b : Nat) (L : Bs) : Pk × Nat :=
  if b / 16 = 1 ∧ 6 < L.length ∧ L.take 6 = dataB mqtt ∧ L[6]? ≠ some 4 then ({ Pk.zero with ty := 1, level := (L.getD 6 0).toNat }, 0)
  else
    let r := allR (b / 16) (b % 16) (L, false)
    if r.2.2 = true ∨ r.2.1 ≠ [] ∨ restP r.1 < 0 then (Pk.zero, 4) else (r.1, 0)
/-- The packet with whose bytes a text begins, how many they are, the error. -/
def decR : Bs → Pk × Nat × Nat
  | [] => (Pk.zero, 0, 2)
  | b :: t =>
    if firstOk b.toNat = false then (Pk.zero, 0, 4)
    else if (lenR t).2.2 ≠ 0 then (Pk.zero, 0, (lenR t).2.2)
    else if t.length - (lenR t).2.1 < (lenR t).1 then (Pk.zero, 0, 2)
    else
      let r := bodyR b.toNat ((t.drop (lenR t).2.1).take (lenR t).1)
      if r.2 ≠ 0 then (Pk.zero, 0, r.2) else (r.1, 1 + (lenR t).2.1 + (lenR t).1, 0)

theorem byteN_nat (n : Nat) (h : n < 256) : (byteN n).toNat = n := by
  unfold byteN
  rw [UInt8.toNat_ofNat']
  omega
theorem oneR_byte (n : Nat) (h : n < 256) (r : Bs) (k : Bool) : oneR (byteN n :: r, k) = (n, (r, k)) := by
  show ((byteN n).toNat, (r, k)) = _
  rw [byteN_nat n h]
theorem wordR_word (n : Nat) (h : n < 65536) (r : Bs) (k : Bool) : wordR (wordB n ++ r, k) = (n, (r, k)) := by
  show ((byteN (n / 256)).toNat * 256 + (byteN (n % 256)).toNat, (r, k)) = _
  rw [byteN_nat _ (by omega), byteN_nat _ (by omega)]
  congr 1
  omega
theorem dataR_data (s : ByteArray) (h : s.size ≤ 65535) (r : Bs) (k : Bool) : dataR (dataB s ++ r, k) = (s, (r, k)) := by
  have e : dataB s ++ r = byteN (s.size / 256) :: byteN (s.size % 256) :: (bl s ++ r) := rfl
  rw [e]
  unfold dataR
  have e2 : (byteN (s.size / 256)).toNat * 256 + (byteN (s.size % 256)).toNat = s.size := by
    rw [byteN_nat _ (by omega), byteN_nat _ (by omega)]; omega
  have e3 : s.size = (bl s).length := (blen s).symm
  simp only [e2]
  rw [if_pos (by rw [List.length_append, blen]; omega)]
  rw [e3, List.take_left, List.drop_left, baB_bl]
theorem textR_data (s : ByteArray) (h : validL (bl s) = true) (r : Bs) (k : Bool) : textR (dataB s ++ r, k) = (s, (r, k)) := by
  have h2 := valid_some h
  rw [blen] at h2
  unfold textR
  rw [dataR_data s h2, if_pos h]
theorem name_valid {s : Bs} (h : nameL s = true) : validL s = true := by
  unfold nameL at h; simp at h; exact h.1.2
theorem filter_valid {s : Bs} (h : filterL s = true) : validL s = true := by
  unfold filterL at h; simp at h; exact h.1.2
theorem flags_con : ∀ (a b c d e : Bool) (q : Nat), q ≤ 2 → ∀ f, f = bitN a 128 + bitN b 64 + bitN c 32 + 8 * q + bitN d 4 + bitN e 2 →
    f < 256 ∧ f % 2 = 0 ∧ decide (f / 2 % 2 = 1) = e ∧ decide (f / 4 % 2 = 1) = d ∧ f / 8 % 4 = q ∧ decide (f / 32 % 2 = 1) = c ∧ decide (f / 64 % 2 = 1) = b ∧ decide (f / 128 % 2 = 1) = a := by
  intro a b c d e q hq f hf
  subst hf
  have : q = 0 ∨ q = 1 ∨ q = 2 := by omega
  rcases this with rfl | rfl | rfl <;> revert a b c d e <;> decide
theorem flags_pub : ∀ (a b : Bool) (q : Nat), q ≤ 2 → ∀ f, f = bitN a 8 + 2 * q + bitN b 1 → f < 16 ∧ decide (f / 8 % 2 = 1) = a ∧ f / 2 % 4 = q ∧ decide (f % 2 = 1) = b := by
  intro a b q hq f hf
  subst hf
  have : q = 0 ∨ q = 1 ∨ q = 2 := by omega
  rcases this with rfl | rfl | rfl <;> revert a b <;> decide
theorem mqtt_valid : validL (bl mqtt) = true := by kernel_rfl
theorem con_fields {p : Pk} (h : connectOk p = true) : p.level = 4 ∧ validL (bl p.client) = true ∧ willOk p = true ∧ userOk p = true ∧ passOk p = true ∧ validL (bl p.user) = true ∧ p.pass.size ≤ 65535 := by
  unfold connectOk at h
  simp only [Bool.and_eq_true, decide_eq_true_eq] at h
  obtain ⟨⟨⟨⟨⟨⟨h1, h2⟩, h3⟩, h4⟩, h5⟩, h6⟩, h7⟩ := h
  exact ⟨h1, h2, h3, h4, h5, h6, h7⟩
theorem conR_ok (p : Pk) (hp : PkOk p) (h1 : p.ty = 1) (h0 : 0 ≤ restP p) : conR (connectB p, false) = (p, ([], false)) := by
  obtain ⟨h, _⟩ := con_parts h1 h0
  obtain ⟨hl, hc, hw, hu, hs, hv, hz⟩ := con_fields h
  have zz := (zeros_iff p).1 (rest_bare h0)
  have z3 := zz.z3 (by omega)
  have z2 := zz.z2 (by omega)
  have z9 := zz.z9 (by omega)
  have zi := zz.zi (by omega)
  have zs := zz.zs (by omega) (by omega)
  have hq : p.wqos ≤ 2 := by
    unfold willOk at hw
    split at hw
    · simp only [Bool.and_eq_true, decide_eq_true_eq] at hw; exact hw.2
    · simp only [decide_eq_true_eq] at hw
      have := hw.2.2.1
      omega
  obtain ⟨f1, f2, f3, f4, f5, f6, f7, f8⟩ := flags_con p.hasUser p.hasPass p.wret p.hasWill p.clean p.wqos hq (conFlags p) rfl
  have hk := hp.keep
  unfold conR connectB
  simp only [List.append_assoc, List.cons_append, List.nil_append]
  rw [textR_data mqtt mqtt_valid]
  simp only []
  rw [oneR_byte p.level (by omega)]
  simp only []
  rw [oneR_byte _ f1]
  have e1 : (false || (mqtt != mqtt) || decide (conFlags p % 2 = 1)) = false := by rw [f2]; rfl
  simp only [e1]
  rw [wordR_word _ hk]
  simp only []
  rw [textR_data _ hc]
  simp only []
  have g4 : (conFlags p / 4 % 2 = 1) = (p.hasWill = true) := by rw [← f4]; simp
  have g8 : (conFlags p / 128 % 2 = 1) = (p.hasUser = true) := by rw [← f8]; simp
  have g7 : (conFlags p / 64 % 2 = 1) = (p.hasPass = true) := by rw [← f7]; simp
  simp only [f3, f5, f6, g4, g8, g7]
  clear f1 f2 f3 f4 f5 f6 f7 f8 g4 g8 g7 e1
  have st1 : ∀ r, (if p.hasWill = true then textR ((if p.hasWill = true then dataB p.wtopic ++ dataB p.wpayload else []) ++ r, false) else (e0, ((if p.hasWill = true then dataB p.wtopic ++ dataB p.wpayload else []) ++ r, false))) = (p.wtopic, ((if p.hasWill = true then dataB p.wpayload else []) ++ r, false)) := by
    intro r
    unfold willOk at hw
    cases h : p.hasWill
    · rw [h] at hw
      simp only [Bool.false_eq_true, if_false, decide_eq_true_eq] at hw
      simp [hw.1]
    · rw [h] at hw
      simp only [if_true, Bool.and_eq_true, decide_eq_true_eq] at hw
      simp only [if_true, List.append_assoc]
      rw [textR_data _ (name_valid hw.1.1)]
  have st2 : ∀ r, (if p.hasWill = true then dataR ((if p.hasWill = true then dataB p.wpayload else []) ++ r, false) else (e0, ((if p.hasWill = true then dataB p.wpayload else []) ++ r, false))) = (p.wpayload, (r, false)) := by
    intro r
    unfold willOk at hw
    cases h : p.hasWill
    · rw [h] at hw
      simp only [Bool.false_eq_true, if_false, decide_eq_true_eq] at hw
      simp [hw.2.1]
    · rw [h] at hw
      simp only [if_true, Bool.and_eq_true, decide_eq_true_eq] at hw
      simp only [if_true]
      rw [dataR_data _ hw.1.2]
  have st3 : ∀ r, (if p.hasUser = true then textR ((if p.hasUser = true then dataB p.user else []) ++ r, false) else (e0, ((if p.hasUser = true then dataB p.user else []) ++ r, false))) = (p.user, (r, false)) := by
    intro r
    unfold userOk at hu
    cases h : p.hasUser
    · rw [h] at hu
      simp only [Bool.false_or, Bool.and_eq_true] at hu
      simp [empty_bl _ hu.1]
    · simp only [if_true]
      rw [textR_data _ hv]
  have st4 : (if p.hasPass = true then dataR ((if p.hasPass = true then dataB p.pass else []), false) else (e0, ((if p.hasPass = true then dataB p.pass else []), false))) = (p.pass, (([] : Bs), false)) := by
    unfold passOk at hs
    cases h : p.hasPass
    · rw [h] at hs
      simp only [Bool.false_or] at hs
      simp [empty_bl _ hs]
    · simp only [if_true]
      have := dataR_data p.pass hz [] false
      rw [List.append_nil] at this
      exact this
  rw [st1]
  simp only []
  rw [st2]
  simp only []
  rw [st3]
  simp only []
  rw [st4]
  clear st1 st2 st3 st4 hw hu hs hv hz hq hk hc h h0 zz hp
  obtain ⟨ty, dup, qos, ret, id, topic, payload, level, clean, keep, client, hasWill, wtopic, wpayload, wqos, wret, hasUser, hasPass, user, pass, present, code, subs, codes⟩ := p
  simp only at *
  obtain ⟨rfl, rfl, rfl, rfl, rfl⟩ := z3
  obtain ⟨rfl, rfl⟩ := z2
  subst z9 zi zs h1 hl
  cases hasWill <;> cases hasUser <;> cases hasPass <;> rfl
theorem subsR_ok (ty : Nat) : ∀ (S : List Sb) (f : Nat) (acc : List Sb), S.length < f → (∀ x ∈ S, validL (bl x.1) = true ∧ x.2 < 256 ∧ (ty ≠ 8 → x.2 = 0)) → subsR ty f (S.flatMap (subB ty), false) acc = (acc ++ S, ([], false))
  | [], f, acc, hf, _ => by
    cases f with
    | zero => simp [subsR]
    | succ f => simp [subsR]
  | x :: r, f, acc, hf, h => by
    cases f with
    | zero => simp at hf
    | succ f =>
      obtain ⟨hv, hq, h8⟩ := h x (by simp)
      have ih := subsR_ok ty r f (acc ++ [x]) (by simp at hf; omega) (fun y hy => h y (by simp [hy]))
      have hne : ¬ (((x :: r).flatMap (subB ty)) = [] ∨ false = true) := by
        rw [List.flatMap_cons]
        unfold subB dataB wordB
        simp
      unfold subsR
      rw [if_neg hne]
      have e1 : (x :: r).flatMap (subB ty) = dataB x.1 ++ ((if ty = 8 then [byteN x.2] else []) ++ r.flatMap (subB ty)) := by
        rw [List.flatMap_cons]
        unfold subB
        rw [List.append_assoc]
      simp only [e1]
      rw [textR_data _ hv]
      simp only []
      by_cases h : ty = 8
      · simp only [if_pos h, List.singleton_append]
        rw [oneR_byte _ hq]
        simp only []
        rw [ih]
        simp
      · simp only [if_neg h, List.nil_append]
        have e2 : ((x.1, 0) : Sb) = x := by rw [← h8 h]
        rw [e2, ih]
        simp
theorem subs_parts {p : Pk} (h8 : p.ty = 8 ∨ p.ty = 10) (h0 : 0 ≤ restP p) : p.id ≠ 0 ∧ p.subs ≠ [] ∧ p.subs.all (subOk (mostN p)) = true ∧ restP p = 2 + (subsLen (moreN p) p.subs : Int) := by
  have e := rest_type h0
  have ht : typeN p = subsN p := by
    unfold typeN
    rw [if_neg (by omega), if_neg (by omega), if_neg (by omega), if_neg (by omega), if_pos h8]
  rw [ht] at e
  rw [e] at h0
  rw [e]
  unfold subsN at *
  split at h0
  · omega
  · rename_i h
    rw [if_neg h]
    split at h0
    · rename_i ha
      rw [if_pos ha]
      exact ⟨fun x => h (Or.inl x), fun x => h (Or.inr x), ha, rfl⟩
    · omega
theorem ids_parts {p : Pk} (h3 : p.ty ≠ 3) (hi : 4 ≤ p.ty ∧ p.ty ≤ 11) (h0 : 0 ≤ restP p) : p.id ≠ 0 := by
  have e := rest_type h0
  intro hid
  rw [e] at h0
  unfold typeN idN subsN codesN at h0
  rw [if_neg (by omega), if_neg (by omega), if_neg (by omega)] at h0
  simp [hid] at h0
  (repeat' split at h0) <;> omega
theorem allR_ok (p : Pk) (hp : PkOk p) (h0 : 0 ≤ restP p) : allR p.ty (flagsN p) (restB p, false) = (p, ([], false)) := by
  have zz := (zeros_iff p).1 (rest_bare h0)
  have hty := rest_types h0
  unfold allR restB
  by_cases h1 : p.ty = 1
  · rw [if_pos h1, if_pos h1, conR_ok p hp h1 h0]
  rw [if_neg h1, if_neg h1]
  have z1 := zz.z1 h1
  by_cases h2 : p.ty = 2
  · have z3 := zz.z3 (by omega)
    have z9 := zz.z9 (by omega)
    have zi := zz.zi (by omega)
    have zs := zz.zs (by omega) (by omega)
    have hc := hp.code
    rw [if_pos h2, if_pos h2]
    have hb : bitN p.present 1 < 256 := by unfold bitN; split <;> omega
    simp only [oneR_byte _ hb]
    have e1 : (false || decide (1 < bitN p.present 1)) = false := by unfold bitN; cases p.present <;> rfl
    have e2 : decide (bitN p.present 1 = 1) = p.present := by unfold bitN; cases p.present <;> rfl
    simp only [e1, e2, oneR_byte _ hc]
    clear h0 hp zz hty e1 e2 hb hc
    obtain ⟨ty, dup, qos, ret, id, topic, payload, level, clean, keep, client, hasWill, wtopic, wpayload, wqos, wret, hasUser, hasPass, user, pass, present, code, subs, codes⟩ := p
    simp only at *
    obtain ⟨rfl, rfl, rfl, rfl, rfl⟩ := z3
    obtain ⟨rfl, rfl, rfl, rfl, rfl, rfl, rfl, rfl, rfl, rfl, rfl, rfl, rfl⟩ := z1
    subst z9 zi zs h2
    rfl
  rw [if_neg h2, if_neg h2]
  have z2 := zz.z2 h2
  unfold otherB
  by_cases h3 : p.ty = 3
  · have z9 := zz.z9 (by omega)
    have zs := zz.zs (by omega) (by omega)
    obtain ⟨hn, hq, hid⟩ := pub_parts h3 h0
    have hi := hp.id
    obtain ⟨f1, f2, f3, f4⟩ := flags_pub p.dup p.ret p.qos hq (flagsN p) (by unfold flagsN; rw [if_pos h3])
    rw [if_pos h3]
    simp only [if_pos h3, List.append_assoc]
    rw [textR_data _ (name_valid hn)]
    simp only [f2, f3, f4, z9, zs, e0_bl, List.flatMap_nil, List.nil_append]
    have e1 : (if 0 < p.qos then wordR ((if p.id = 0 then [] else wordB p.id) ++ bl p.payload, false) else (0, ((if p.id = 0 then [] else wordB p.id) ++ bl p.payload, false))) = (p.id, (bl p.payload, false)) := by
      rcases hid with ⟨q0, i0, _⟩ | ⟨q0, i0, _⟩
      · rw [if_neg (by omega), i0]; rfl
      · rw [if_pos q0, if_neg (by omega), wordR_word _ hi]
    rw [e1]
    simp only [baB_bl]
    clear h0 hp zz hty e1 hi f1 f2 f3 f4 hid hn hq h1 h2
    obtain ⟨ty, dup, qos, ret, id, topic, payload, level, clean, keep, client, hasWill, wtopic, wpayload, wqos, wret, hasUser, hasPass, user, pass, present, code, subs, codes⟩ := p
    simp only at *
    obtain ⟨rfl, rfl, rfl, rfl, rfl, rfl, rfl, rfl, rfl, rfl, rfl, rfl, rfl⟩ := z1
    obtain ⟨rfl, rfl⟩ := z2
    subst z9 zs h3
    rfl
  rw [if_neg h3]
  simp only [if_neg h3, List.nil_append]
  have z3 := zz.z3 h3
  by_cases hd : p.ty = 12 ∨ p.ty = 13 ∨ p.ty = 14
  · rw [if_pos hd]
    have z9 := zz.z9 (by omega)
    have zi := zz.zi (by omega)
    have zs := zz.zs (by omega) (by omega)
    simp only [zi, zs, z9, z3.2.2.2.2, e0_bl, if_true, List.flatMap_nil, List.append_nil]
    clear h0 hp zz hty h1 h2 h3 hd
    obtain ⟨ty, dup, qos, ret, id, topic, payload, level, clean, keep, client, hasWill, wtopic, wpayload, wqos, wret, hasUser, hasPass, user, pass, present, code, subs, codes⟩ := p
    simp only at *
    obtain ⟨rfl, rfl, rfl, rfl, rfl, rfl, rfl, rfl, rfl, rfl, rfl, rfl, rfl⟩ := z1
    obtain ⟨rfl, rfl⟩ := z2
    obtain ⟨rfl, rfl, rfl, rfl, rfl⟩ := z3
    subst z9 zs zi
    rfl
  rw [if_neg hd]
  have hid := ids_parts h3 (by omega) h0
  have hi := hp.id
  simp only [if_neg hid, List.append_assoc]
  rw [wordR_word _ hi]
  simp only [z3.2.2.2.2, e0_bl, List.append_nil]
  by_cases h9 : p.ty = 9
  · rw [if_pos h9]
    have zs := zz.zs (by omega) (by omega)
    simp only [zs, List.flatMap_nil, List.nil_append, baB_bl]
    clear h0 hp zz hty h1 h2 h3 hd hid hi h9
    obtain ⟨ty, dup, qos, ret, id, topic, payload, level, clean, keep, client, hasWill, wtopic, wpayload, wqos, wret, hasUser, hasPass, user, pass, present, code, subs, codes⟩ := p
    simp only at *
    obtain ⟨rfl, rfl, rfl, rfl, rfl, rfl, rfl, rfl, rfl, rfl, rfl, rfl, rfl⟩ := z1
    obtain ⟨rfl, rfl⟩ := z2
    obtain ⟨rfl, rfl, rfl, rfl, rfl⟩ := z3
    subst zs
    rfl
  rw [if_neg h9]
  have z9 := zz.z9 h9
  simp only [z9, e0_bl, List.append_nil]
  by_cases h8 : p.ty = 8 ∨ p.ty = 10
  · rw [if_pos h8]
    obtain ⟨_, _, hall, _⟩ := subs_parts h8 h0
    have hS : ∀ x ∈ p.subs, validL (bl x.1) = true ∧ x.2 < 256 ∧ (p.ty ≠ 8 → x.2 = 0) := by
      intro x hx
      have h5 := List.all_eq_true.1 hall x hx
      unfold subOk at h5
      simp only [Bool.and_eq_true, decide_eq_true_eq] at h5
      refine ⟨filter_valid h5.1, (hp.each x hx).2, fun h => ?_⟩
      have h10 : p.ty = 10 := by omega
      unfold mostN at h5
      rw [if_pos h10] at h5
      omega
    have hlen : p.subs.length < (p.subs.flatMap (subB p.ty)).length + 1 := by
      rw [subsB_len]
      have : ∀ (m : Nat) (S : List Sb), S.length ≤ subsLen m S := by
        intro m S
        unfold subsLen
        induction S with
        | nil => simp
        | cons x r ih => simp only [List.length_cons, List.map_cons, List.sum_cons]; omega
      have := this (if p.ty = 8 then 1 else 0) p.subs
      omega
    have hr := subsR_ok p.ty p.subs _ [] hlen hS
    rw [hr]
    simp only [List.nil_append]
    clear h0 hp zz hty h1 h2 h3 hd hid hi h9 hall hS hlen hr h8
    obtain ⟨ty, dup, qos, ret, id, topic, payload, level, clean, keep, client, hasWill, wtopic, wpayload, wqos, wret, hasUser, hasPass, user, pass, present, code, subs, codes⟩ := p
    simp only at *
    obtain ⟨rfl, rfl, rfl, rfl, rfl, rfl, rfl, rfl, rfl, rfl, rfl, rfl, rfl⟩ := z1
    obtain ⟨rfl, rfl⟩ := z2
    obtain ⟨rfl, rfl, rfl, rfl, rfl⟩ := z3
    subst z9
    rfl
  · rw [if_neg h8]
    have zs := zz.zs (by omega) (by omega)
    simp only [zs, List.flatMap_nil]
    clear h0 hp zz hty h1 h2 h3 hd hid hi h9 h8
    obtain ⟨ty, dup, qos, ret, id, topic, payload, level, clean, keep, client, hasWill, wtopic, wpayload, wqos, wret, hasUser, hasPass, user, pass, present, code, subs, codes⟩ := p
    simp only at *
    obtain ⟨rfl, rfl, rfl, rfl, rfl, rfl, rfl, rfl, rfl, rfl, rfl, rfl, rfl⟩ := z1
    obtain ⟨rfl, rfl⟩ := z2
    obtain ⟨rfl, rfl, rfl, rfl, rfl⟩ := z3
    subst zs z9
    rfl
theorem lenRf_last (f sc acc u x : Nat) (h : x < 128) (t : Bs) : lenRf (f + 1) sc acc u (byteN x :: t) = (acc + x * sc, u + 1, 0) := by
  unfold lenRf
  rw [byteN_nat x (by omega), if_pos h, Nat.mod_eq_of_lt h]
theorem lenRf_step (f sc acc u x : Nat) (t : Bs) : lenRf (f + 1) sc acc u (byteN (x % 128 + 128) :: t) = lenRf f (sc * 128) (acc + x % 128 * sc) (u + 1) t := by
  rw [lenRf, byteN_nat _ (by omega), if_neg (by omega)]
  have : (x % 128 + 128) % 128 = x % 128 := by omega
  rw [this]
theorem lenR_len (n : Nat) (h : n ≤ 268435455) (r : Bs) : lenR (lenB n ++ r) = (n, lenS n, 0) := by
  unfold lenR lenB lenS
  by_cases h1 : n < 128
  · rw [lenF, if_pos h1, if_pos h1, List.singleton_append, lenRf_last _ _ _ _ _ h1]
    simp
  · rw [lenF, if_neg h1, if_neg h1, List.cons_append, lenRf_step]
    by_cases h2 : n < 16384
    · have a1 : n / 128 < 128 := by omega
      rw [lenF, if_pos a1, if_pos h2, List.singleton_append, lenRf_last _ _ _ _ _ a1]
      refine Prod.ext ?_ rfl
      simp only
      omega
    · have a1 : ¬ n / 128 < 128 := by omega
      rw [lenF, if_neg a1, if_neg h2, List.cons_append, lenRf_step]
      by_cases h3 : n < 2097152
      · have a2 : n / 128 / 128 < 128 := by omega
        rw [lenF, if_pos a2, if_pos h3, List.singleton_append, lenRf_last _ _ _ _ _ a2]
        refine Prod.ext ?_ rfl
        simp only
        omega
      · have a2 : ¬ n / 128 / 128 < 128 := by omega
        have a3 : n / 128 / 128 / 128 < 128 := by omega
        rw [lenF, if_neg a2, if_neg h3, List.cons_append, lenRf_step, lenF, List.singleton_append, lenRf_last _ _ _ _ _ a3]
        refine Prod.ext ?_ rfl
        simp only
        omega
theorem flags_lt' (p : Pk) (h : p.ty = 3 → p.qos ≤ 2) : flagsN p < 16 := by
  unfold flagsN bitN
  split
  · rename_i h3
    have := h h3
    (repeat' split) <;> omega
  · split <;> omega
theorem firstOk_enc (p : Pk) (h0 : 0 ≤ restP p) : firstOk (16 * p.ty + flagsN p) = true := by
  have hty := rest_types h0
  have hq : p.ty = 3 → p.qos ≤ 2 := fun h3 => (pub_parts h3 h0).2.1
  have hf := flags_lt' p hq
  have e1 : (16 * p.ty + flagsN p) / 16 = p.ty := by omega
  have e2 : (16 * p.ty + flagsN p) % 16 = flagsN p := by omega
  unfold firstOk
  rw [e1, e2, if_neg (by omega)]
  by_cases h3 : p.ty = 3
  · rw [if_pos h3]
    obtain ⟨_, _, f3, _⟩ := flags_pub p.dup p.ret p.qos (hq h3) (flagsN p) (by unfold flagsN; rw [if_pos h3])
    have := hq h3
    rw [decide_eq_true_eq]
    omega
  · rw [if_neg h3]
    unfold flagsN
    rw [if_neg h3]
    by_cases h6 : p.ty = 6 ∨ p.ty = 8 ∨ p.ty = 10
    · rw [if_pos h6, if_pos h6]; rfl
    · rw [if_neg h6, if_neg h6]; rfl
theorem bodyR_ok (p : Pk) (hp : PkOk p) (h0 : 0 ≤ restP p) : bodyR (16 * p.ty + flagsN p) (restB p) = (p, 0) := by
  have hty := rest_types h0
  have hq : p.ty = 3 → p.qos ≤ 2 := fun h3 => (pub_parts h3 h0).2.1
  have hf := flags_lt' p hq
  have e1 : (16 * p.ty + flagsN p) / 16 = p.ty := by omega
  have e2 : (16 * p.ty + flagsN p) % 16 = flagsN p := by omega
  unfold bodyR
  rw [e1, e2, allR_ok p hp h0]
  have hn : ¬ (p.ty = 1 ∧ 6 < (restB p).length ∧ (restB p).take 6 = dataB mqtt ∧ (restB p)[6]? ≠ some 4) := by
    rintro ⟨h1, _, _, h4⟩
    apply h4
    obtain ⟨hl, _⟩ := con_fields (con_parts h1 h0).1
    unfold restB
    rw [if_pos h1]
    unfold connectB
    rw [hl]
    rfl
  rw [if_neg hn]
  simp only []
  rw [if_neg (by simp; omega)]
theorem dec_enc (p : Pk) (hp : PkOk p) (h0 : 0 ≤ restP p) (t : Bs) : decR (encB p ++ t) = (p, (encB p).length, 0) := by
  have hmx : restP p ≤ 268435455 := by unfold restP restOf; split <;> omega
  have hrl := restB_len p hp h0
  have hty := rest_types h0
  have hq : p.ty = 3 → p.qos ≤ 2 := fun h3 => (pub_parts h3 h0).2.1
  have hf := flags_lt' p hq
  have hel := encB_len p hp h0
  obtain ⟨n, hn⟩ : ∃ n : Nat, restP p = (n : Int) := ⟨(restP p).toNat, by omega⟩
  rw [hn] at hrl hel
  have hn2 : (restB p).length = n := by omega
  have e : encB p ++ t = byteN (16 * p.ty + flagsN p) :: (lenB n ++ (restB p ++ t)) := by
    unfold encB
    rw [hn]
    simp
  rw [e]
  simp only [decR]
  rw [byteN_nat _ (by omega), firstOk_enc p h0, lenR_len n (by omega)]
  have hll := lenB_len n (by omega)
  simp only [ne_eq, not_true_eq_false, if_false, Bool.true_eq_false]
  rw [if_neg (by rw [List.length_append, List.length_append]; omega)]
  have e3 : ((lenB n ++ (restB p ++ t)).drop (lenS n)).take n = restB p := by
    rw [← hll, List.drop_left, ← hn2, List.take_left]
  rw [e3, bodyR_ok p hp h0]
  simp only [not_true_eq_false, if_false]
  rw [hel]
  simp
/-- No packet's bytes begin with another one's. -/
theorem enc_apart (p q : Pk) (hp : PkOk p) (hq : PkOk q) (h : 0 ≤ restP p) (h2 : 0 ≤ restP q) (t : Bs) (e : encB q = encB p ++ t) : p = q := by
  have h3 := dec_enc q hq h2 []
  rw [List.append_nil, e, dec_enc p hp h t] at h3
  exact congrArg Prod.fst h3
end Go.Proofs.YtfljdlaelanliaaDoor

