/- Plain mathematics of packets: whether one may be and its rest, the program's way and the document's; both are one. No program. -/
import Derived.Test.YtkphaihbdmjogaaDoorPlainPacket
namespace Go.Proofs.YtkphaihbdmjogaaDoor

def restOf (n : Int) (b : Bool) : Int := if n < 0 ∨ 268435455 < n ∨ b = false then -1 else n
def connackN (p : Pk) : Int := if p.code ≤ 5 ∧ (p.code = 0 ∨ p.present = false) then 2 else -1
/-- The rest that a packet's type gives it; -1: it may not be. -/
def typeN (p : Pk) : Int :=
  if p.ty = 1 then connectN p else if p.ty = 2 then connackN p else if p.ty = 3 then publishN p
  else if p.ty = 4 ∨ p.ty = 5 ∨ p.ty = 6 ∨ p.ty = 7 ∨ p.ty = 11 then idN p else if p.ty = 8 ∨ p.ty = 10 then subsN p else if p.ty = 9 then codesN p
  else if p.ty = 12 ∨ p.ty = 13 ∨ p.ty = 14 then 0 else -1
def restP (p : Pk) : Int := restOf (typeN p) (bareB p)
theorem restP_ge (p : Pk) : -1 ≤ restP p := by
  unfold restP restOf
  split <;> omega
theorem restP_neg (p : Pk) (h : restP p < 0) : restP p = -1 := by
  unfold restP restOf at *
  split at h
  · rw [if_pos ‹_›]
  · rename_i h2
    omega

/-- A packet with those fields alone that its type has. -/
def onlyS (p : Pk) : Pk := { (onlyF p) with subs := if p.ty = 8 ∨ p.ty = 10 then p.subs else [] }
def subR (p : Pk) (x : Sb) : Bool := filterL (fB x) && decide (x.2 ≤ 2) && !(decide (p.ty = 10) && decide (0 < x.2))
def listsR (p : Pk) : Bool := p.subs.all (subR p) && (bl p.codes).all codeOk && (decide (p.ty = 8 ∨ p.ty = 10) == !p.subs.isEmpty) && (decide (p.ty = 9) == !(bl p.codes).isEmpty)
def connectR (p : Pk) : Bool := decide (p.level = 4) && validL (bl p.client) && willOk p && (if p.hasUser then validL (bl p.user) else (bl p.user).isEmpty && !p.hasPass) && (if p.hasPass then decide (p.pass.size ≤ 65535) else (bl p.pass).isEmpty)
def restR (p : Pk) : Nat :=
  p.payload.size + p.codes.size + (if p.id = 0 then 0 else 2) + subsLen (if p.ty = 8 then 1 else 0) p.subs +
    (if p.ty = 1 then connectLen p else if p.ty = 2 then 2 else if p.ty = 3 then 2 + p.topic.size else 0)
def hasI (ty : Nat) : Bool := decide (3 ≤ ty ∧ ty ≤ 11)
def rightR (p : Pk) : Bool :=
  decide (1 ≤ p.ty ∧ p.ty ≤ 14) && decide (p = onlyS p) && listsR p && decide (p.qos ≤ 2) && (!decide (p.ty = 1) || connectR p) && (!decide (p.ty = 2) || decide (p.code ≤ 5) && !(p.present && decide (0 < p.code))) &&
    (if p.ty = 3 then nameL (bl p.topic) && !(decide (p.qos = 0) && (p.dup || decide (p.id ≠ 0))) && !(decide (0 < p.qos) && decide (p.id = 0)) else !(hasI p.ty && decide (p.id = 0))) && decide (restR p ≤ 268435455)

theorem onlyF_subs (p : Pk) : (onlyF p).subs = [] := by unfold onlyF; (repeat' split) <;> rfl
theorem bare_only (p : Pk) : decide (p = onlyS p) = bareB p := by
  have h0 : (p.subs.isEmpty || decide (p.ty = 8) || decide (p.ty = 10)) = decide ((if p.ty = 8 ∨ p.ty = 10 then p.subs else []) = p.subs) := by
    by_cases h : p.ty = 8 ∨ p.ty = 10
    · rw [if_pos h]
      rcases h with h | h <;> simp [h]
    · rw [if_neg h]
      have h8 : p.ty ≠ 8 := fun e => h (Or.inl e)
      have h10 : p.ty ≠ 10 := fun e => h (Or.inr e)
      cases p.subs <;> simp [h8, h10]
  rw [Bool.eq_iff_iff]
  unfold bareB
  rw [h0]
  simp only [decide_eq_true_eq, Bool.and_eq_true]
  constructor
  · intro h
    have e1 : p.subs = _ := congrArg Pk.subs h
    have e2 : p.bare = (onlyS p).bare := congrArg Pk.bare h
    refine ⟨e1.symm, e2.trans ?_⟩
    have h3 := onlyF_subs p
    unfold onlyS Pk.bare
    generalize onlyF p = q at *
    rw [← h3]
  · rintro ⟨h1, h2⟩
    unfold onlyS
    rw [h1, ← h2]
    rfl

/-- All fields that a packet's type has not are as in a new one. -/
structure Zeros (p : Pk) : Prop where
  z3 : p.ty ≠ 3 → p.dup = false ∧ p.qos = 0 ∧ p.ret = false ∧ p.topic = e0 ∧ p.payload = e0
  z1 : p.ty ≠ 1 → p.level = 0 ∧ p.clean = false ∧ p.keep = 0 ∧ p.client = e0 ∧ p.hasWill = false ∧ p.wtopic = e0 ∧ p.wpayload = e0 ∧ p.wqos = 0 ∧ p.wret = false ∧ p.hasUser = false ∧ p.hasPass = false ∧ p.user = e0 ∧ p.pass = e0
  z2 : p.ty ≠ 2 → p.present = false ∧ p.code = 0
  z9 : p.ty ≠ 9 → p.codes = e0
  zi : p.ty = 1 ∨ p.ty = 2 ∨ p.ty = 12 ∨ p.ty = 13 ∨ p.ty = 14 → p.id = 0
  zs : p.ty ≠ 8 → p.ty ≠ 10 → p.subs = []
theorem zeros_iff (p : Pk) : bareB p = true ↔ Zeros p := by
  unfold bareB
  constructor
  · intro h
    simp only [Bool.and_eq_true, Bool.or_eq_true, decide_eq_true_eq, List.isEmpty_iff] at h
    obtain ⟨h1, h2⟩ := h
    have hs : p.ty ≠ 8 → p.ty ≠ 10 → p.subs = [] := fun h8 h10 => by
      rcases h1 with (h | h) | h
      · exact h
      · exact absurd h h8
      · exact absurd h h10
    clear h1
    have f1 := congrArg Pk.dup h2
    have f2 := congrArg Pk.qos h2
    have f3 := congrArg Pk.ret h2
    have f4 := congrArg Pk.topic h2
    have f5 := congrArg Pk.payload h2
    have g1 := congrArg Pk.level h2
    have g2 := congrArg Pk.clean h2
    have g3 := congrArg Pk.keep h2
    have g4 := congrArg Pk.client h2
    have g5 := congrArg Pk.hasWill h2
    have g6 := congrArg Pk.wtopic h2
    have g7 := congrArg Pk.wpayload h2
    have g8 := congrArg Pk.wqos h2
    have g9 := congrArg Pk.wret h2
    have g10 := congrArg Pk.hasUser h2
    have g11 := congrArg Pk.hasPass h2
    have g12 := congrArg Pk.user h2
    have g13 := congrArg Pk.pass h2
    have i1 := congrArg Pk.present h2
    have i2 := congrArg Pk.code h2
    have i3 := congrArg Pk.codes h2
    have i4 := congrArg Pk.id h2
    simp only [Pk.bare] at f1 f2 f3 f4 f5 g1 g2 g3 g4 g5 g6 g7 g8 g9 g10 g11 g12 g13 i1 i2 i3 i4
    clear h2
    unfold onlyF at *
    refine ⟨fun h => ?_, fun h => ?_, fun h => ?_, fun h => ?_, fun h => ?_, hs⟩
    · refine ⟨f1.trans ?_, f2.trans ?_, f3.trans ?_, f4.trans ?_, f5.trans ?_⟩ <;> (repeat' split) <;> first | rfl | contradiction
    · refine ⟨g1.trans ?_, g2.trans ?_, g3.trans ?_, g4.trans ?_, g5.trans ?_, g6.trans ?_, g7.trans ?_, g8.trans ?_, g9.trans ?_, g10.trans ?_, g11.trans ?_, g12.trans ?_, g13.trans ?_⟩ <;> (repeat' split) <;> first | rfl | contradiction
    · refine ⟨i1.trans ?_, i2.trans ?_⟩ <;> (repeat' split) <;> first | rfl | contradiction
    · refine i3.trans ?_; (repeat' split) <;> first | rfl | contradiction
    · refine i4.trans ?_; (repeat' split) <;> first | rfl | omega
  · rintro ⟨z3, z1, z2, z9, zi, zs⟩
    obtain ⟨ty, dup, qos, ret, id, topic, payload, level, clean, keep, client, hasWill, wtopic, wpayload, wqos, wret, hasUser, hasPass, user, pass, present, code, subs, codes⟩ := p
    simp only at z3 z1 z2 z9 zi zs
    unfold onlyF Pk.bare
    simp only [Bool.and_eq_true, Bool.or_eq_true, decide_eq_true_eq, List.isEmpty_iff]
    refine ⟨?_, ?_⟩
    · by_cases h8 : ty = 8
      · exact Or.inl (Or.inr h8)
      · by_cases h10 : ty = 10
        · exact Or.inr h10
        · exact Or.inl (Or.inl (zs h8 h10))
    · (repeat' split) <;> simp_all [Pk.zero]

theorem e0_bl : bl e0 = [] := rfl
theorem e0_size : e0.size = 0 := rfl
theorem valid_nil : validL [] = true := by kernel_rfl
theorem rest_fin (b : Bool) (L : Nat) (n : Int) (hn : n = if b then (L : Int) else -1) : (b && decide (L ≤ 268435455)) = decide (0 ≤ restOf n true) ∧ (0 ≤ restOf n true → restOf n true = (L : Int)) := by
  subst hn
  unfold restOf
  cases b with
  | false => simp
  | true =>
    by_cases hl : L ≤ 268435455
    · have h1 : ¬ (268435455 : Int) < (L : Int) := by omega
      have h2 : ¬ (L : Int) < 0 := by omega
      simp [hl, h1, h2]
    · have h1 : (268435455 : Int) < (L : Int) := by omega
      simp [hl, h1]
theorem empty_bl (s : ByteArray) (h : (bl s).isEmpty = true) : s = e0 := bl_inj (by rw [List.isEmpty_iff.1 h]; rfl)
theorem connectR_ok (p : Pk) : connectR p = connectOk p := by
  unfold connectR connectOk userOk passOk
  cases hu : p.hasUser <;> cases hp : p.hasPass <;> simp
  · cases h1 : (bl p.user).isEmpty
    · simp
    · have e1 := empty_bl _ h1
      cases h2 : (bl p.pass).isEmpty
      · simp
      · have e2 := empty_bl _ h2
        rw [e1, e2, e0_bl, valid_nil, e0_size]; simp
  · cases h2 : (bl p.pass).isEmpty
    · simp
    · have e2 := empty_bl _ h2
      rw [e2, e0_size]; simp
/-- The document's answer is the program's. -/
theorem right_rest (p : Pk) (hp : PkOk p) : rightR p = decide (0 ≤ restP p) ∧ (0 ≤ restP p → restP p = (restR p : Int)) := by
  cases hb : bareB p with
  | false =>
    have h1 : rightR p = false := by unfold rightR; rw [bare_only, hb]; simp
    have h2 : restP p = -1 := by unfold restP restOf; rw [hb]; simp
    rw [h1, h2]
    exact ⟨rfl, by omega⟩
  | true =>
    obtain ⟨z3, z1, z2, z9, zi, zs⟩ := (zeros_iff p).1 hb
    have hR : restP p = restOf (typeN p) true := by unfold restP; rw [hb]
    have hO : decide (p = onlyS p) = true := by rw [bare_only, hb]
    have go : ∀ (b : Bool) (L : Nat), typeN p = (if b then (L : Int) else -1) → (rightR p = (b && decide (restR p ≤ 268435455))) → (b = true → restR p = L) → rightR p = decide (0 ≤ restP p) ∧ (0 ≤ restP p → restP p = (restR p : Int)) := by
      intro b L h1 h2 h3
      rw [hR, h2]
      cases b with
      | false => rw [h1]; simp [restOf]
      | true =>
        rw [h3 rfl]
        exact rest_fin true L _ h1
    clear hR
    by_cases h1 : p.ty = 1
    · obtain ⟨a1, a2, a3, a4, a5⟩ := z3 (by omega)
      have c1 := z9 (by omega)
      have d1 := zi (by omega)
      have s1 := zs (by omega) (by omega)
      refine go (connectOk p) (connectLen p) (by unfold typeN; rw [if_pos h1]; rfl) ?_ (fun _ => ?_)
      · unfold rightR listsR; rw [hO, connectR_ok]; simp [h1, a2, c1, d1, s1, e0_bl, hasI]
      · unfold restR; simp [h1, a5, c1, d1, s1, e0_size, subsLen]
    by_cases h2 : p.ty = 2
    · obtain ⟨a1, a2, a3, a4, a5⟩ := z3 (by omega)
      have c1 := z9 (by omega)
      have d1 := zi (by omega)
      have s1 := zs (by omega) (by omega)
      refine go (decide (p.code ≤ 5) && !(p.present && decide (0 < p.code))) 2 ?_ ?_ (fun _ => ?_)
      · unfold typeN connackN
        rw [if_neg h1, if_pos h2]
        cases p.present <;> by_cases hc : p.code = 0 <;> by_cases h5 : p.code ≤ 5 <;> simp [hc, h5] <;> omega
      · unfold rightR listsR; rw [hO]; simp [h2, a2, c1, d1, s1, e0_bl, hasI]
      · unfold restR; simp [h2, a5, c1, d1, s1, e0_size, subsLen]
    by_cases h3 : p.ty = 3
    · have c1 := z9 (by omega)
      have s1 := zs (by omega) (by omega)
      refine go (nameL (bl p.topic) && decide (p.qos ≤ 2) && !(decide (p.qos = 0) && (p.dup || decide (p.id ≠ 0))) && !(decide (0 < p.qos) && decide (p.id = 0))) (2 + p.topic.size + p.payload.size + if p.id = 0 then 0 else 2) ?_ ?_ (fun _ => ?_)
      · unfold typeN publishN
        rw [if_neg h1, if_neg h2, if_pos h3]
        cases nameL (bl p.topic) <;> cases p.dup <;> by_cases hq : p.qos = 0 <;> by_cases hi : p.id = 0 <;> by_cases h5 : p.qos ≤ 2 <;> simp [hq, hi, h5] <;> omega
      · unfold rightR listsR; rw [hO]; simp [h3, c1, s1, e0_bl, hasI]
        cases nameL (bl p.topic) <;> by_cases h5 : p.qos ≤ 2 <;> simp [h5, Bool.and_assoc]
      · unfold restR; simp [h3, c1, s1, e0_size, subsLen]; omega
    obtain ⟨a1, a2, a3, a4, a5⟩ := z3 h3
    by_cases h9 : p.ty = 9
    · have s1 := zs (by omega) (by omega)
      refine go (!decide (p.id = 0) && !(bl p.codes).isEmpty && (bl p.codes).all codeOk) (2 + p.codes.size) ?_ ?_ (fun h => ?_)
      · unfold typeN codesN
        rw [if_neg h1, if_neg h2, if_neg h3, if_neg (by omega), if_neg (by omega), if_pos h9]
        cases (bl p.codes).isEmpty <;> by_cases hi : p.id = 0 <;> cases (bl p.codes).all codeOk <;> simp [hi]
      · unfold rightR listsR; rw [hO]
        cases (bl p.codes).isEmpty <;> by_cases hi : p.id = 0 <;> cases (bl p.codes).all codeOk <;> simp [h9, a2, s1, hasI, hi]
      · have hi : p.id ≠ 0 := by intro e; simp [e] at h
        unfold restR; simp [h9, a5, s1, e0_size, subsLen, hi]; omega
    have c1 := z9 h9
    by_cases h8 : p.ty = 8 ∨ p.ty = 10
    · have hm : (mostN p = 2 ∧ moreN p = 1 ∧ p.ty = 8) ∨ (mostN p = 0 ∧ moreN p = 0 ∧ p.ty = 10) := by
        unfold mostN moreN
        rcases h8 with h | h
        · left; simp [h]
        · right; simp [h]
      have hall : p.subs.all (subR p) = p.subs.all (subOk (mostN p)) := by
        congr 1
        funext x
        unfold subR subOk
        cases filterL (fB x) with
        | false => simp
        | true =>
          rcases hm with ⟨m1, _, m3⟩ | ⟨m1, _, m3⟩
          · rw [m1, m3]; simp
          · rw [m1, m3]
            by_cases hx : x.2 = 0
            · simp [hx]
            · have : 0 < x.2 := by omega
              simp [this, hx]
      refine go (!decide (p.id = 0) && !p.subs.isEmpty && p.subs.all (subOk (mostN p))) (2 + subsLen (moreN p) p.subs) ?_ ?_ (fun h => ?_)
      · unfold typeN subsN
        rw [if_neg h1, if_neg h2, if_neg h3, if_neg (by omega), if_pos h8]
        cases hs : p.subs with
        | nil => simp
        | cons x r =>
          by_cases hi : p.id = 0
          · simp [hi]
          · cases (x :: r).all (subOk (mostN p)) <;> simp [hi]
      · unfold rightR listsR; rw [hO, hall]
        have hI : hasI p.ty = true := by unfold hasI; rcases h8 with h | h <;> simp [h]
        cases p.subs.isEmpty <;> by_cases hi : p.id = 0 <;> cases p.subs.all (subOk (mostN p)) <;> rcases h8 with h | h <;> simp [h, a2, c1, hasI, hi, e0_bl]
      · have hi : p.id ≠ 0 := by intro e; simp [e] at h
        unfold restR
        rcases hm with ⟨_, m2, m3⟩ | ⟨_, m2, m3⟩
        · rw [m2]; simp [m3, a5, c1, e0_size, hi]
        · rw [m2]; simp [m3, a5, c1, e0_size, hi]
    have s1 := zs (fun e => h8 (Or.inl e)) (fun e => h8 (Or.inr e))
    by_cases hd : p.ty = 12 ∨ p.ty = 13 ∨ p.ty = 14
    · have d1 := zi (by omega)
      refine go true 0 ?_ ?_ (fun _ => ?_)
      · unfold typeN
        rw [if_neg h1, if_neg h2, if_neg h3, if_neg (by omega), if_neg h8, if_neg h9, if_pos hd]; rfl
      · unfold rightR listsR; rw [hO]
        rcases hd with h | h | h <;> simp [h, a2, c1, d1, s1, e0_bl, hasI]
      · unfold restR
        rcases hd with h | h | h <;> simp [h, a5, c1, d1, s1, e0_size, subsLen]
    by_cases hi : p.ty = 4 ∨ p.ty = 5 ∨ p.ty = 6 ∨ p.ty = 7 ∨ p.ty = 11
    · refine go (!decide (p.id = 0)) 2 ?_ ?_ (fun h => ?_)
      · unfold typeN idN
        rw [if_neg h1, if_neg h2, if_neg h3, if_pos hi]
        by_cases h0 : p.id = 0 <;> simp [h0]
      · unfold rightR listsR; rw [hO]
        rcases hi with h | h | h | h | h <;> by_cases h0 : p.id = 0 <;> simp [h, h0, a2, c1, s1, e0_bl, hasI]
      · have h0 : p.id ≠ 0 := by intro e; simp [e] at h
        unfold restR
        rcases hi with h | h | h | h | h <;> simp [h, h0, a5, c1, s1, e0_size, subsLen]
    · refine go false 0 ?_ ?_ (fun h => by cases h)
      · unfold typeN
        rw [if_neg h1, if_neg h2, if_neg h3, if_neg hi, if_neg h8, if_neg h9, if_neg hd]; rfl
      · unfold rightR
        have : ¬ (1 ≤ p.ty ∧ p.ty ≤ 14) := by omega
        simp [this]
end Go.Proofs.YtkphaihbdmjogaaDoor
