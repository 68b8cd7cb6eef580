/- Plain mathematics of reading a packet's bytes: what is written is read as it was, whatever stands behind it. No program. -/
import Derived.Test.YtkphaihbdmjogaaDoorPlainWrite
namespace Go.Proofs.YtkphaihbdmjogaaDoor

/-- What is left, and whether something was not so. -/
abbrev Cur := Bs × Bool
def baB (L : Bs) : ByteArray := ⟨L.toArray⟩
theorem baB_bl (s : ByteArray) : baB (bl s) = s := bl_inj rfl
theorem bl_baB (L : Bs) : bl (baB L) = L := rfl
def oneR : Cur → Nat × Cur
  | ([], _) => (0, ([], true))
  | (b :: t, k) => (b.toNat, (t, k))
def wordR : Cur → Nat × Cur
  | (a :: b :: t, k) => (a.toNat * 256 + b.toNat, (t, k))
  | (l, _) => (0, (l, true))
def dataR : Cur → ByteArray × Cur
  | (a :: b :: t, k) => if a.toNat * 256 + b.toNat ≤ t.length then (baB (t.take (a.toNat * 256 + b.toNat)), (t.drop (a.toNat * 256 + b.toNat), k)) else (e0, (a :: b :: t, true))
  | (l, _) => (e0, (l, true))
def textR (c : Cur) : ByteArray × Cur := if validL (bl (dataR c).1) = true then dataR c else (e0, (c.1, true))
def conR (c0 : Cur) : Pk × Cur :=
  let a := textR c0
  let b := oneR a.2
  let f := oneR b.2
  let k := wordR (f.2.1, f.2.2 || (a.1 != mqtt) || decide (f.1 % 2 = 1))
  let n := textR k.2
  let wt := if f.1 / 4 % 2 = 1 then textR n.2 else (e0, n.2)
  let wp := if f.1 / 4 % 2 = 1 then dataR wt.2 else (e0, wt.2)
  let u := if f.1 / 128 % 2 = 1 then textR wp.2 else (e0, wp.2)
  let s := if f.1 / 64 % 2 = 1 then dataR u.2 else (e0, u.2)
  ({ Pk.zero with ty := 1, level := b.1, clean := decide (f.1 / 2 % 2 = 1), hasWill := decide (f.1 / 4 % 2 = 1), wqos := f.1 / 8 % 4, wret := decide (f.1 / 32 % 2 = 1), hasPass := decide (f.1 / 64 % 2 = 1), hasUser := decide (f.1 / 128 % 2 = 1), keep := k.1, client := n.1, wtopic := wt.1, wpayload := wp.1, user := u.1, pass := s.1 }, s.2)
def subsR (ty : Nat) : Nat → Cur → List Sb → List Sb × Cur
  | 0, c, acc => (acc, c)
  | f + 1, c, acc => if c.1 = [] ∨ c.2 = true then (acc, c) else
    let t := textR c
    let q := if ty = 8 then oneR t.2 else (0, t.2)
    subsR ty f q.2 (acc ++ [(t.1, q.1)])
def allR (ty fl : Nat) (c : Cur) : Pk × Cur :=
  if ty = 1 then conR c
  else if ty = 2 then
    let a := oneR c
    let b := oneR (a.2.1, a.2.2 || decide (1 < a.1))
    ({ Pk.zero with ty := 2, present := decide (a.1 = 1), code := b.1 }, b.2)
  else if ty = 3 then
    let t := textR c
    let i := if 0 < fl / 2 % 4 then wordR t.2 else (0, t.2)
    ({ Pk.zero with ty := 3, dup := decide (fl / 8 % 2 = 1), qos := fl / 2 % 4, ret := decide (fl % 2 = 1), topic := t.1, id := i.1, payload := baB i.2.1 }, ([], i.2.2))
  else if ty = 12 ∨ ty = 13 ∨ ty = 14 then ({ Pk.zero with ty := ty }, c)
  else
    let i := wordR c
    if ty = 9 then ({ Pk.zero with ty := ty, id := i.1, codes := baB i.2.1 }, ([], i.2.2))
    else if ty = 8 ∨ ty = 10 then
      let s := subsR ty (i.2.1.length + 1) i.2 []
      ({ Pk.zero with ty := ty, id := i.1, subs := s.1 }, s.2)
    else ({ Pk.zero with ty := ty, id := i.1 }, i.2)
def firstOk (b : Nat) : Bool :=
  if b / 16 = 0 ∨ b / 16 = 15 then false else if b / 16 = 3 then decide (b / 2 % 4 < 3)
  else if b / 16 = 6 ∨ b / 16 = 8 ∨ b / 16 = 10 then decide (b % 16 = 2) else decide (b % 16 = 0)
def lenRf : Nat → Nat → Nat → Nat → Bs → Nat × Nat × Nat
  | 0, _, _, _, _ => (0, 0, 4)
  | _ + 1, _, _, _, [] => (0, 0, 2)
  | f + 1, sc, acc, u, c :: t => if c.toNat < 128 then (acc + c.toNat % 128 * sc, u + 1, 0) else lenRf f (sc * 128) (acc + c.toNat % 128 * sc) (u + 1) t
def lenR (L : Bs) : Nat × Nat × Nat := lenRf 4 1 0 0 L
/-- A packet's rest read: the packet, or ErrForm. -/
def bodyR (b : Nat) (L : Bs) : Pk × Nat :=
  if b / 16 = 1 ∧ 6 < L.length ∧ L.take 6 = dataB mqtt ∧ L[6]? ≠ some 4 then ({ Pk.zero with ty := 1, level := (L.getD 6 0).toNat }, 0)
  else
    let r := allR (b / 16) (b % 16) (L, false)
    if r.2.2 = true ∨ r.2.1 ≠ [] ∨ restP r.1 < 0 then (Pk.zero, 4) else (r.1, 0)
/-- The packet with whose bytes a text begins, how many they are, the error. -/
def decR : Bs → Pk × Nat × Nat
  | [] => (Pk.zero, 0, 2)
  | b :: t =>
    if firstOk b.toNat = false then (Pk.zero, 0, 4)
    else if (lenR t).2.2 ≠ 0 then (Pk.zero, 0, (lenR t).2.2)
    else if t.length - (lenR t).2.1 < (lenR t).1 then (Pk.zero, 0, 2)
    else
      let r := bodyR b.toNat ((t.drop (lenR t).2.1).take (lenR t).1)
      if r.2 ≠ 0 then (Pk.zero, 0, r.2) else (r.1, 1 + (lenR t).2.1 + (lenR t).1, 0)

theorem byteN_nat (n : Nat) (h : n < 256) : (byteN n).toNat = n := by
  unfold byteN
  rw [UInt8.toNat_ofNat']
  omega
theorem oneR_byte (n : Nat) (h : n < 256) (r : Bs) (k : Bool) : oneR (byteN n :: r, k) = (n, (r, k)) := by
  show ((byteN n).toNat, (r, k)) = _
  rw [byteN_nat n h]
theorem wordR_word (n : Nat) (h : n < 65536) (r : Bs) (k : Bool) : wordR (wordB n ++ r, k) = (n, (r, k)) := by
  show ((byteN (n / 256)).toNat * 256 + (byteN (n % 256)).toNat, (r, k)) = _
  rw [byteN_nat _ (by omega), byteN_nat _ (by omega)]
  congr 1
  omega
theorem dataR_data (s : ByteArray) (h : s.size ≤ 65535) (r : Bs) (k : Bool) : dataR (dataB s ++ r, k) = (s, (r, k)) := by
  have e : dataB s ++ r = byteN (s.size / 256) :: byteN (s.size % 256) :: (bl s ++ r) := rfl
  rw [e]
  unfold dataR
  have e2 : (byteN (s.size / 256)).toNat * 256 + (byteN (s.size % 256)).toNat = s.size := by
    rw [byteN_nat _ (by omega), byteN_nat _ (by omega)]; omega
  have e3 : s.size = (bl s).length := (blen s).symm
  simp only [e2]
  rw [if_pos (by rw [List.length_append, blen]; omega)]
  rw [e3, List.take_left, List.drop_left, baB_bl]
theorem textR_data (s : ByteArray) (h : validL (bl s) = true) (r : Bs) (k : Bool) : textR (dataB s ++ r, k) = (s, (r, k)) := by
  have h2 := valid_some h
  rw [blen] at h2
  unfold textR
  rw [dataR_data s h2, if_pos h]
theorem name_valid {s : Bs} (h : nameL s = true) : validL s = true := by
  unfold nameL at h; simp at h; exact h.1.2
theorem filter_valid {s : Bs} (h : filterL s = true) : validL s = true := by
  unfold filterL at h; simp at h; exact h.1.2
theorem flags_con : ∀ (a b c d e : Bool) (q : Nat), q ≤ 2 → ∀ f, f = bitN a 128 + bitN b 64 + bitN c 32 + 8 * q + bitN d 4 + bitN e 2 →
    f < 256 ∧ f % 2 = 0 ∧ decide (f / 2 % 2 = 1) = e ∧ decide (f / 4 % 2 = 1) = d ∧ f / 8 % 4 = q ∧ decide (f / 32 % 2 = 1) = c ∧ decide (f / 64 % 2 = 1) = b ∧ decide (f / 128 % 2 = 1) = a := by
  intro a b c d e q hq f hf
  subst hf
  have : q = 0 ∨ q = 1 ∨ q = 2 := by omega
  rcases this with rfl | rfl | rfl <;> revert a b c d e <;> decide
theorem flags_pub : ∀ (a b : Bool) (q : Nat), q ≤ 2 → ∀ f, f = bitN a 8 + 2 * q + bitN b 1 → f < 16 ∧ decide (f / 8 % 2 = 1) = a ∧ f / 2 % 4 = q ∧ decide (f % 2 = 1) = b := by
  intro a b q hq f hf
  subst hf
  have : q = 0 ∨ q = 1 ∨ q = 2 := by omega
  rcases this with rfl | rfl | rfl <;> revert a b <;> decide
theorem mqtt_valid : validL (bl mqtt) = true := by kernel_rfl
theorem con_fields {p : Pk} (h : connectOk p = true) : p.level = 4 ∧ validL (bl p.client) = true ∧ willOk p = true ∧ userOk p = true ∧ passOk p = true ∧ validL (bl p.user) = true ∧ p.pass.size ≤ 65535 := by
  unfold connectOk at h
  simp only [Bool.and_eq_true, decide_eq_true_eq] at h
  obtain ⟨⟨⟨⟨⟨⟨h1, h2⟩, h3⟩, h4⟩, h5⟩, h6⟩, h7⟩ := h
  exact ⟨h1, h2, h3, h4, h5, h6, h7⟩
theorem conR_ok (p : Pk) (hp : PkOk p) (h1 : p.ty = 1) (h0 : 0 ≤ restP p) : conR (connectB p, false) = (p, ([], false)) := by
  obtain ⟨h, _⟩ := con_parts h1 h0
  obtain ⟨hl, hc, hw, hu, hs, hv, hz⟩ := con_fields h
  have zz := (zeros_iff p).1 (rest_bare h0)
  have z3 := zz.z3 (by omega)
  have z2 := zz.z2 (by omega)
  have z9 := zz.z9 (by omega)
  have zi := zz.zi (by omega)
  have zs := zz.zs (by omega) (by omega)
  have hq : p.wqos ≤ 2 := by
    unfold willOk at hw
    split at hw
    · simp only [Bool.and_eq_true, decide_eq_true_eq] at hw; exact hw.2
    · simp only [decide_eq_true_eq] at hw
      have := hw.2.2.1
      omega
  obtain ⟨f1, f2, f3, f4, f5, f6, f7, f8⟩ := flags_con p.hasUser p.hasPass p.wret p.hasWill p.clean p.wqos hq (conFlags p) rfl
  have hk := hp.keep
  unfold conR connectB
  simp only [List.append_assoc, List.cons_append, List.nil_append]
  rw [textR_data mqtt mqtt_valid]
  simp only []
  rw [oneR_byte p.level (by omega)]
  simp only []
  rw [oneR_byte _ f1]
  have e1 : (false || (mqtt != mqtt) || decide (conFlags p % 2 = 1)) = false := by rw [f2]; rfl
  simp only [e1]
  rw [wordR_word _ hk]
  simp only []
  rw [textR_data _ hc]
  simp only []
  have g4 : (conFlags p / 4 % 2 = 1) = (p.hasWill = true) := by rw [← f4]; simp
  have g8 : (conFlags p / 128 % 2 = 1) = (p.hasUser = true) := by rw [← f8]; simp
  have g7 : (conFlags p / 64 % 2 = 1) = (p.hasPass = true) := by rw [← f7]; simp
  simp only [f3, f4, f5, f6, f7, f8, g4, g8, g7]
  clear f1 f2 f3 f4 f5 f6 f7 f8 g4 g8 g7 e1
  have st1 : ∀ r, (if p.hasWill = true then textR ((if p.hasWill = true then dataB p.wtopic ++ dataB p.wpayload else []) ++ r, false) else (e0, ((if p.hasWill = true then dataB p.wtopic ++ dataB p.wpayload else []) ++ r, false))) = (p.wtopic, ((if p.hasWill = true then dataB p.wpayload else []) ++ r, false)) := by
    intro r
    unfold willOk at hw
    cases h : p.hasWill
    · rw [h] at hw
      simp only [Bool.false_eq_true, if_false, decide_eq_true_eq] at hw
      simp [hw.1]
    · rw [h] at hw
      simp only [if_true, Bool.and_eq_true, decide_eq_true_eq] at hw
      simp only [if_true, List.append_assoc]
      rw [textR_data _ (name_valid hw.1.1)]
  have st2 : ∀ r, (if p.hasWill = true then dataR ((if p.hasWill = true then dataB p.wpayload else []) ++ r, false) else (e0, ((if p.hasWill = true then dataB p.wpayload else []) ++ r, false))) = (p.wpayload, (r, false)) := by
    intro r
    unfold willOk at hw
    cases h : p.hasWill
    · rw [h] at hw
      simp only [Bool.false_eq_true, if_false, decide_eq_true_eq] at hw
      simp [hw.2.1]
    · rw [h] at hw
      simp only [if_true, Bool.and_eq_true, decide_eq_true_eq] at hw
      simp only [if_true]
      rw [dataR_data _ hw.1.2]
  have st3 : ∀ r, (if p.hasUser = true then textR ((if p.hasUser = true then dataB p.user else []) ++ r, false) else (e0, ((if p.hasUser = true then dataB p.user else []) ++ r, false))) = (p.user, (r, false)) := by
    intro r
    unfold userOk at hu
    cases h : p.hasUser
    · rw [h] at hu
      simp only [Bool.false_or, Bool.and_eq_true] at hu
      simp [empty_bl _ hu.1]
    · simp only [if_true]
      rw [textR_data _ hv]
  have st4 : (if p.hasPass = true then dataR ((if p.hasPass = true then dataB p.pass else []), false) else (e0, ((if p.hasPass = true then dataB p.pass else []), false))) = (p.pass, (([] : Bs), false)) := by
    unfold passOk at hs
    cases h : p.hasPass
    · rw [h] at hs
      simp only [Bool.false_or] at hs
      simp [empty_bl _ hs]
    · simp only [if_true]
      have := dataR_data p.pass hz [] false
      rw [List.append_nil] at this
      exact this
  rw [st1]
  simp only []
  rw [st2]
  simp only []
  rw [st3]
  simp only []
  rw [st4]
  clear st1 st2 st3 st4 hw hu hs hv hz hq hk hc h h0 zz hp
  obtain ⟨ty, dup, qos, ret, id, topic, payload, level, clean, keep, client, hasWill, wtopic, wpayload, wqos, wret, hasUser, hasPass, user, pass, present, code, subs, codes⟩ := p
  simp only at *
  obtain ⟨rfl, rfl, rfl, rfl, rfl⟩ := z3
  obtain ⟨rfl, rfl⟩ := z2
  subst z9 zi zs h1 hl
  cases hasWill <;> cases hasUser <;> cases hasPass <;> rfl
theorem subsR_ok (ty : Nat) : ∀ (S : List Sb) (f : Nat) (acc : List Sb), S.length < f → (∀ x ∈ S, validL (bl x.1) = true ∧ x.2 < 256 ∧ (ty ≠ 8 → x.2 = 0)) → subsR ty f (S.flatMap (subB ty), false) acc = (acc ++ S, ([], false))
  | [], f, acc, hf, _ => by
    cases f with
    | zero => simp [subsR]
    | succ f => simp [subsR]
  | x :: r, f, acc, hf, h => by
    cases f with
    | zero => simp at hf
    | succ f =>
      obtain ⟨hv, hq, h8⟩ := h x (by simp)
      have ih := subsR_ok ty r f (acc ++ [x]) (by simp at hf; omega) (fun y hy => h y (by simp [hy]))
      have hne : ¬ (((x :: r).flatMap (subB ty)) = [] ∨ false = true) := by
        rw [List.flatMap_cons]
        unfold subB dataB wordB
        simp
      unfold subsR
      rw [if_neg hne]
      have e1 : (x :: r).flatMap (subB ty) = dataB x.1 ++ ((if ty = 8 then [byteN x.2] else []) ++ r.flatMap (subB ty)) := by
        rw [List.flatMap_cons]
        unfold subB
        rw [List.append_assoc]
      simp only [e1]
      rw [textR_data _ hv]
      simp only []
      by_cases h : ty = 8
      · simp only [if_pos h, List.singleton_append]
        rw [oneR_byte _ hq]
        simp only []
        rw [ih]
        simp
      · simp only [if_neg h, List.nil_append]
        have e2 : ((x.1, 0) : Sb) = x := by rw [← h8 h]
        rw [e2, ih]
        simp
theorem subs_parts {p : Pk} (h8 : p.ty = 8 ∨ p.ty = 10) (h0 : 0 ≤ restP p) : p.id ≠ 0 ∧ p.subs ≠ [] ∧ p.subs.all (subOk (mostN p)) = true ∧ restP p = 2 + (subsLen (moreN p) p.subs : Int) := by
  have e := rest_type h0
  have ht : typeN p = subsN p := by
    unfold typeN
    rw [if_neg (by omega), if_neg (by omega), if_neg (by omega), if_neg (by omega), if_pos h8]
  rw [ht] at e
  rw [e] at h0
  rw [e]
  unfold subsN at *
  split at h0
  · omega
  · rename_i h
    rw [if_neg h]
    split at h0
    · rename_i ha
      rw [if_pos ha]
      exact ⟨fun x => h (Or.inl x), fun x => h (Or.inr x), ha, rfl⟩
    · omega
theorem ids_parts {p : Pk} (h3 : p.ty ≠ 3) (hi : 4 ≤ p.ty ∧ p.ty ≤ 11) (h0 : 0 ≤ restP p) : p.id ≠ 0 := by
  have e := rest_type h0
  intro hid
  rw [e] at h0
  unfold typeN idN subsN codesN at h0
  rw [if_neg (by omega), if_neg (by omega), if_neg (by omega)] at h0
  simp [hid] at h0
  (repeat' split at h0) <;> omega
theorem allR_ok (p : Pk) (hp : PkOk p) (h0 : 0 ≤ restP p) : allR p.ty (flagsN p) (restB p, false) = (p, ([], false)) := by
  have zz := (zeros_iff p).1 (rest_bare h0)
  have hty := rest_types h0
  unfold allR restB
  by_cases h1 : p.ty = 1
  · rw [if_pos h1, if_pos h1, conR_ok p hp h1 h0]
  rw [if_neg h1, if_neg h1]
  have z1 := zz.z1 h1
  by_cases h2 : p.ty = 2
  · have z3 := zz.z3 (by omega)
    have z9 := zz.z9 (by omega)
    have zi := zz.zi (by omega)
    have zs := zz.zs (by omega) (by omega)
    have hc := hp.code
    rw [if_pos h2, if_pos h2]
    have hb : bitN p.present 1 < 256 := by unfold bitN; split <;> omega
    simp only [oneR_byte _ hb]
    have e1 : (false || decide (1 < bitN p.present 1)) = false := by unfold bitN; cases p.present <;> rfl
    have e2 : decide (bitN p.present 1 = 1) = p.present := by unfold bitN; cases p.present <;> rfl
    simp only [e1, e2, oneR_byte _ hc]
    clear h0 hp zz hty e1 e2 hb hc
    obtain ⟨ty, dup, qos, ret, id, topic, payload, level, clean, keep, client, hasWill, wtopic, wpayload, wqos, wret, hasUser, hasPass, user, pass, present, code, subs, codes⟩ := p
    simp only at *
    obtain ⟨rfl, rfl, rfl, rfl, rfl⟩ := z3
    obtain ⟨rfl, rfl, rfl, rfl, rfl, rfl, rfl, rfl, rfl, rfl, rfl, rfl, rfl⟩ := z1
    subst z9 zi zs h2
    rfl
  rw [if_neg h2, if_neg h2]
  have z2 := zz.z2 h2
  unfold otherB
  by_cases h3 : p.ty = 3
  · have z9 := zz.z9 (by omega)
    have zs := zz.zs (by omega) (by omega)
    obtain ⟨hn, hq, hid⟩ := pub_parts h3 h0
    have hi := hp.id
    obtain ⟨f1, f2, f3, f4⟩ := flags_pub p.dup p.ret p.qos hq (flagsN p) (by unfold flagsN; rw [if_pos h3])
    rw [if_pos h3]
    simp only [if_pos h3, List.append_assoc]
    rw [textR_data _ (name_valid hn)]
    simp only [f2, f3, f4, z9, zs, e0_bl, List.flatMap_nil, List.nil_append]
    have e1 : (if 0 < p.qos then wordR ((if p.id = 0 then [] else wordB p.id) ++ bl p.payload, false) else (0, ((if p.id = 0 then [] else wordB p.id) ++ bl p.payload, false))) = (p.id, (bl p.payload, false)) := by
      rcases hid with ⟨q0, i0, _⟩ | ⟨q0, i0, _⟩
      · rw [if_neg (by omega), i0]; rfl
      · rw [if_pos q0, if_neg (by omega), wordR_word _ hi]
    rw [e1]
    simp only [baB_bl]
    clear h0 hp zz hty e1 hi f1 f2 f3 f4 hid hn hq h1 h2
    obtain ⟨ty, dup, qos, ret, id, topic, payload, level, clean, keep, client, hasWill, wtopic, wpayload, wqos, wret, hasUser, hasPass, user, pass, present, code, subs, codes⟩ := p
    simp only at *
    obtain ⟨rfl, rfl, rfl, rfl, rfl, rfl, rfl, rfl, rfl, rfl, rfl, rfl, rfl⟩ := z1
    obtain ⟨rfl, rfl⟩ := z2
    subst z9 zs h3
    rfl
  rw [if_neg h3]
  simp only [if_neg h3, List.nil_append]
  have z3 := zz.z3 h3
  by_cases hd : p.ty = 12 ∨ p.ty = 13 ∨ p.ty = 14
  · rw [if_pos hd]
    have z9 := zz.z9 (by omega)
    have zi := zz.zi (by omega)
    have zs := zz.zs (by omega) (by omega)
    simp only [zi, zs, z9, z3.2.2.2.2, e0_bl, if_true, List.flatMap_nil, List.append_nil]
    clear h0 hp zz hty h1 h2 h3 hd
    obtain ⟨ty, dup, qos, ret, id, topic, payload, level, clean, keep, client, hasWill, wtopic, wpayload, wqos, wret, hasUser, hasPass, user, pass, present, code, subs, codes⟩ := p
    simp only at *
    obtain ⟨rfl, rfl, rfl, rfl, rfl, rfl, rfl, rfl, rfl, rfl, rfl, rfl, rfl⟩ := z1
    obtain ⟨rfl, rfl⟩ := z2
    obtain ⟨rfl, rfl, rfl, rfl, rfl⟩ := z3
    subst z9 zs zi
    rfl
  rw [if_neg hd]
  have hid := ids_parts h3 (by omega) h0
  have hi := hp.id
  simp only [if_neg hid, List.append_assoc]
  rw [wordR_word _ hi]
  simp only [z3.2.2.2.2, e0_bl, List.append_nil]
  by_cases h9 : p.ty = 9
  · rw [if_pos h9]
    have zs := zz.zs (by omega) (by omega)
    simp only [zs, List.flatMap_nil, List.nil_append, baB_bl]
    clear h0 hp zz hty h1 h2 h3 hd hid hi h9
    obtain ⟨ty, dup, qos, ret, id, topic, payload, level, clean, keep, client, hasWill, wtopic, wpayload, wqos, wret, hasUser, hasPass, user, pass, present, code, subs, codes⟩ := p
    simp only at *
    obtain ⟨rfl, rfl, rfl, rfl, rfl, rfl, rfl, rfl, rfl, rfl, rfl, rfl, rfl⟩ := z1
    obtain ⟨rfl, rfl⟩ := z2
    obtain ⟨rfl, rfl, rfl, rfl, rfl⟩ := z3
    subst zs
    rfl
  rw [if_neg h9]
  have z9 := zz.z9 h9
  simp only [z9, e0_bl, List.append_nil]
  by_cases h8 : p.ty = 8 ∨ p.ty = 10
  · rw [if_pos h8]
    obtain ⟨_, _, hall, _⟩ := subs_parts h8 h0
    have hS : ∀ x ∈ p.subs, validL (bl x.1) = true ∧ x.2 < 256 ∧ (p.ty ≠ 8 → x.2 = 0) := by
      intro x hx
      have h5 := List.all_eq_true.1 hall x hx
      unfold subOk at h5
      simp only [Bool.and_eq_true, decide_eq_true_eq] at h5
      refine ⟨filter_valid h5.1, (hp.each x hx).2, fun h => ?_⟩
      have h10 : p.ty = 10 := by omega
      unfold mostN at h5
      rw [if_pos h10] at h5
      omega
    have hlen : p.subs.length < (p.subs.flatMap (subB p.ty)).length + 1 := by
      rw [subsB_len]
      have : ∀ (m : Nat) (S : List Sb), S.length ≤ subsLen m S := by
        intro m S
        unfold subsLen
        induction S with
        | nil => simp
        | cons x r ih => simp only [List.length_cons, List.map_cons, List.sum_cons]; omega
      have := this (if p.ty = 8 then 1 else 0) p.subs
      omega
    have hr := subsR_ok p.ty p.subs _ [] hlen hS
    rw [hr]
    simp only [List.nil_append]
    clear h0 hp zz hty h1 h2 h3 hd hid hi h9 hall hS hlen hr h8
    obtain ⟨ty, dup, qos, ret, id, topic, payload, level, clean, keep, client, hasWill, wtopic, wpayload, wqos, wret, hasUser, hasPass, user, pass, present, code, subs, codes⟩ := p
    simp only at *
    obtain ⟨rfl, rfl, rfl, rfl, rfl, rfl, rfl, rfl, rfl, rfl, rfl, rfl, rfl⟩ := z1
    obtain ⟨rfl, rfl⟩ := z2
    obtain ⟨rfl, rfl, rfl, rfl, rfl⟩ := z3
    subst z9
    rfl
  · rw [if_neg h8]
    have zs := zz.zs (by omega) (by omega)
    simp only [zs, List.flatMap_nil]
    clear h0 hp zz hty h1 h2 h3 hd hid hi h9 h8
    obtain ⟨ty, dup, qos, ret, id, topic, payload, level, clean, keep, client, hasWill, wtopic, wpayload, wqos, wret, hasUser, hasPass, user, pass, present, code, subs, codes⟩ := p
    simp only at *
    obtain ⟨rfl, rfl, rfl, rfl, rfl, rfl, rfl, rfl, rfl, rfl, rfl, rfl, rfl⟩ := z1
    obtain ⟨rfl, rfl⟩ := z2
    obtain ⟨rfl, rfl, rfl, rfl, rfl⟩ := z3
    subst zs z9
    rfl
theorem lenRf_last (f sc acc u x : Nat) (h : x < 128) (t : Bs) : lenRf (f + 1) sc acc u (byteN x :: t) = (acc + x * sc, u + 1, 0) := by
  unfold lenRf
  rw [byteN_nat x (by omega), if_pos h, Nat.mod_eq_of_lt h]
theorem lenRf_step (f sc acc u x : Nat) (t : Bs) : lenRf (f + 1) sc acc u (byteN (x % 128 + 128) :: t) = lenRf f (sc * 128) (acc + x % 128 * sc) (u + 1) t := by
  rw [lenRf, byteN_nat _ (by omega), if_neg (by omega)]
  have : (x % 128 + 128) % 128 = x % 128 := by omega
  rw [this]
theorem lenR_len (n : Nat) (h : n ≤ 268435455) (r : Bs) : lenR (lenB n ++ r) = (n, lenS n, 0) := by
  unfold lenR lenB lenS
  by_cases h1 : n < 128
  · rw [lenF, if_pos h1, if_pos h1, List.singleton_append, lenRf_last _ _ _ _ _ h1]
    simp
  · rw [lenF, if_neg h1, if_neg h1, List.cons_append, lenRf_step]
    by_cases h2 : n < 16384
    · have a1 : n / 128 < 128 := by omega
      rw [lenF, if_pos a1, if_pos h2, List.singleton_append, lenRf_last _ _ _ _ _ a1]
      refine Prod.ext ?_ rfl
      simp only
      omega
    · have a1 : ¬ n / 128 < 128 := by omega
      rw [lenF, if_neg a1, if_neg h2, List.cons_append, lenRf_step]
      by_cases h3 : n < 2097152
      · have a2 : n / 128 / 128 < 128 := by omega
        rw [lenF, if_pos a2, if_pos h3, List.singleton_append, lenRf_last _ _ _ _ _ a2]
        refine Prod.ext ?_ rfl
        simp only
        omega
      · have a2 : ¬ n / 128 / 128 < 128 := by omega
        have a3 : n / 128 / 128 / 128 < 128 := by omega
        rw [lenF, if_neg a2, if_neg h3, List.cons_append, lenRf_step, lenF, List.singleton_append, lenRf_last _ _ _ _ _ a3]
        refine Prod.ext ?_ rfl
        simp only
        omega
theorem flags_lt' (p : Pk) (h : p.ty = 3 → p.qos ≤ 2) : flagsN p < 16 := by
  unfold flagsN bitN
  split
  · rename_i h3
    have := h h3
    (repeat' split) <;> omega
  · split <;> omega
theorem firstOk_enc (p : Pk) (h0 : 0 ≤ restP p) : firstOk (16 * p.ty + flagsN p) = true := by
  have hty := rest_types h0
  have hq : p.ty = 3 → p.qos ≤ 2 := fun h3 => (pub_parts h3 h0).2.1
  have hf := flags_lt' p hq
  have e1 : (16 * p.ty + flagsN p) / 16 = p.ty := by omega
  have e2 : (16 * p.ty + flagsN p) % 16 = flagsN p := by omega
  unfold firstOk
  rw [e1, e2, if_neg (by omega)]
  by_cases h3 : p.ty = 3
  · rw [if_pos h3]
    obtain ⟨_, _, f3, _⟩ := flags_pub p.dup p.ret p.qos (hq h3) (flagsN p) (by unfold flagsN; rw [if_pos h3])
    have := hq h3
    rw [decide_eq_true_eq]
    omega
  · rw [if_neg h3]
    unfold flagsN
    rw [if_neg h3]
    by_cases h6 : p.ty = 6 ∨ p.ty = 8 ∨ p.ty = 10
    · rw [if_pos h6, if_pos h6]; rfl
    · rw [if_neg h6, if_neg h6]; rfl
theorem bodyR_ok (p : Pk) (hp : PkOk p) (h0 : 0 ≤ restP p) : bodyR (16 * p.ty + flagsN p) (restB p) = (p, 0) := by
  have hty := rest_types h0
  have hq : p.ty = 3 → p.qos ≤ 2 := fun h3 => (pub_parts h3 h0).2.1
  have hf := flags_lt' p hq
  have e1 : (16 * p.ty + flagsN p) / 16 = p.ty := by omega
  have e2 : (16 * p.ty + flagsN p) % 16 = flagsN p := by omega
  unfold bodyR
  rw [e1, e2, allR_ok p hp h0]
  have hn : ¬ (p.ty = 1 ∧ 6 < (restB p).length ∧ (restB p).take 6 = dataB mqtt ∧ (restB p)[6]? ≠ some 4) := by
    rintro ⟨h1, _, _, h4⟩
    apply h4
    obtain ⟨hl, _⟩ := con_fields (con_parts h1 h0).1
    unfold restB
    rw [if_pos h1]
    unfold connectB
    rw [hl]
    rfl
  rw [if_neg hn]
  simp only []
  rw [if_neg (by simp; omega)]
theorem dec_enc (p : Pk) (hp : PkOk p) (h0 : 0 ≤ restP p) (t : Bs) : decR (encB p ++ t) = (p, (encB p).length, 0) := by
  have hmx : restP p ≤ 268435455 := by unfold restP restOf; split <;> omega
  have hrl := restB_len p hp h0
  have hty := rest_types h0
  have hq : p.ty = 3 → p.qos ≤ 2 := fun h3 => (pub_parts h3 h0).2.1
  have hf := flags_lt' p hq
  have hel := encB_len p hp h0
  obtain ⟨n, hn⟩ : ∃ n : Nat, restP p = (n : Int) := ⟨(restP p).toNat, by omega⟩
  rw [hn] at hrl hel
  have hn2 : (restB p).length = n := by omega
  have e : encB p ++ t = byteN (16 * p.ty + flagsN p) :: (lenB n ++ (restB p ++ t)) := by
    unfold encB
    rw [hn]
    simp
  rw [e]
  simp only [decR]
  rw [byteN_nat _ (by omega), firstOk_enc p h0, lenR_len n (by omega)]
  have hll := lenB_len n (by omega)
  simp only [ne_eq, not_true_eq_false, if_false, Bool.true_eq_false]
  rw [if_neg (by rw [List.length_append, List.length_append]; omega)]
  have e3 : ((lenB n ++ (restB p ++ t)).drop (lenS n)).take n = restB p := by
    rw [← hll, List.drop_left, ← hn2, List.take_left]
  rw [e3, bodyR_ok p hp h0]
  simp only [ne_eq, not_true_eq_false, if_false]
  rw [hel]
  simp
/-- No packet's bytes begin with another one's. -/
theorem enc_apart (p q : Pk) (hp : PkOk p) (hq : PkOk q) (h : 0 ≤ restP p) (h2 : 0 ≤ restP q) (t : Bs) (e : encB q = encB p ++ t) : p = q := by
  have h3 := dec_enc q hq h2 []
  rw [List.append_nil, e, dec_enc p hp h t] at h3
  exact congrArg Prod.fst h3
end Go.Proofs.YtkphaihbdmjogaaDoor
