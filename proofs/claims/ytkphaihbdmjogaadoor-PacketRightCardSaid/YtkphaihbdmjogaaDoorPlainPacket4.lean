/- Plain mathematics of packets: bytes more of a payload, of a password; a field another one. No program. -/
import Derived.Test.YtkphaihbdmjogaaDoorPlainPacket3
namespace Go.Proofs.YtkphaihbdmjogaaDoor

theorem bsize (a b : ByteArray) : (a ++ b).size = a.size + b.size := ByteArray.size_append
theorem rest_bare {p : Pk} (h : 0 ≤ restP p) : bareB p = true := by
  unfold restP restOf at h
  cases hb : bareB p with
  | true => rfl
  | false => rw [hb] at h; simp at h
theorem rest_type {p : Pk} (h : 0 ≤ restP p) : restP p = typeN p := by
  unfold restP restOf at *
  split at h
  · omega
  · rename_i h2; rw [if_neg h2]
theorem rest_of {q : Pk} {n : Int} (hb : bareB q = true) (ht : typeN q = n) (h0 : 0 ≤ n) (hm : n ≤ 268435455) : restP q = n := by
  unfold restP restOf
  rw [hb, ht, if_neg (by rintro (h | h | h) <;> first | omega | cases h)]
theorem ty3 {p : Pk} (h : p.ty = 3) : typeN p = publishN p := by unfold typeN; simp [h]
theorem ty1 {p : Pk} (h : p.ty = 1) : typeN p = connectN p := by unfold typeN; simp [h]
theorem pub_parts {p : Pk} (h : p.ty = 3) (h0 : 0 ≤ restP p) : nameL (bl p.topic) = true ∧ p.qos ≤ 2 ∧ ((p.qos = 0 ∧ p.id = 0 ∧ p.dup = false ∧ restP p = 2 + (p.topic.size : Int) + p.payload.size) ∨ (0 < p.qos ∧ 0 < p.id ∧ restP p = 2 + (p.topic.size : Int) + p.payload.size + 2)) := by
  have e := (rest_type h0).trans (ty3 h)
  rw [e] at h0
  rw [e]
  clear e
  unfold publishN at *
  by_cases hn : nameL (bl p.topic) = false ∨ 2 < p.qos
  · rw [if_pos hn] at h0; omega
  · rw [if_neg hn] at h0
    rw [if_neg hn]
    refine ⟨?_, by omega, ?_⟩
    · cases hc : nameL (bl p.topic) with
      | true => rfl
      | false => exact absurd (Or.inl hc) hn
    by_cases h1 : 0 < p.qos ∧ 0 < p.id
    · rw [if_pos h1]
      exact Or.inr ⟨h1.1, h1.2, rfl⟩
    · rw [if_neg h1] at h0
      rw [if_neg h1]
      by_cases h2 : 0 < p.qos ∨ 0 < p.id ∨ p.dup = true
      · rw [if_pos h2] at h0; omega
      · rw [if_neg h2]
        refine Or.inl ⟨by omega, by omega, ?_, rfl⟩
        cases hd : p.dup with
        | false => rfl
        | true => exact absurd (Or.inr (Or.inr hd)) h2
theorem pub_mk {p : Pk} (h : p.ty = 3) (hz : Zeros p) (hn : nameL (bl p.topic) = true) (hq : p.qos ≤ 2) (hs : p.payload.size ≤ 100000) :
    (p.qos = 0 → p.id = 0 → p.dup = false → restP p = 2 + (p.topic.size : Int) + p.payload.size) ∧ (0 < p.qos → 0 < p.id → restP p = 2 + (p.topic.size : Int) + p.payload.size + 2) := by
  have hb := (zeros_iff p).2 hz
  have hl := name_len hn
  rw [blen] at hl
  constructor
  · intro a1 a2 a3
    refine rest_of hb ?_ (by omega) (by omega)
    rw [ty3 h]
    unfold publishN
    rw [hn, a1, a2, a3]; simp
  · intro a1 a2
    refine rest_of hb ?_ (by omega) (by omega)
    rw [ty3 h]
    unfold publishN
    rw [hn, if_neg (by rintro (h | h) <;> first | omega | cases h), if_pos ⟨a1, a2⟩]
def payMore (p : Pk) (s : ByteArray) : Pk := { p with payload := p.payload ++ s }
def payQos (p : Pk) (s : ByteArray) : Pk := { p with payload := p.payload ++ s, qos := 2, id := 1 }
def payNone (p : Pk) (s : ByteArray) : Pk := { p with payload := p.payload ++ s, qos := 0, id := 0, dup := false }
def passMore (p : Pk) (s : ByteArray) : Pk := { p with pass := p.pass ++ s }
def passNew (p : Pk) (s : ByteArray) : Pk := { p with hasPass := true, pass := s }
theorem rests_pub {p : Pk} {s : ByteArray} (hg : Small p) (h : p.ty = 3) (h0 : 0 ≤ restP p) (hs : s.size ≤ 1000) :
    restP (payMore p s) = restP p + s.size ∧ (p.qos = 0 → restP (payQos p s) = restP p + s.size + 2) ∧ (p.qos ≠ 0 → restP (payNone p s) = restP p + s.size - 2) := by
  have hz := (zeros_iff p).1 (rest_bare h0)
  have hp := hg.parts
  obtain ⟨z3, z1, z2, z9, zi, zs⟩ := hz
  have ha := z1 (by omega)
  have hb := z2 (by omega)
  have hc := z9 (by omega)
  have hd := zs (by omega) (by omega)
  obtain ⟨hn, hq, hk⟩ := pub_parts h h0
  have q1 : Zeros (payMore p s) := ⟨fun e => absurd h e, fun _ => ha, fun _ => hb, fun _ => hc, fun e => (by simp only [payMore] at e; omega), fun _ _ => hd⟩
  have q2 : Zeros (payQos p s) := ⟨fun e => absurd h e, fun _ => ha, fun _ => hb, fun _ => hc, fun e => (by simp only [payQos] at e; omega), fun _ _ => hd⟩
  have q3 : Zeros (payNone p s) := ⟨fun e => absurd h e, fun _ => ha, fun _ => hb, fun _ => hc, fun e => (by simp only [payNone] at e; omega), fun _ _ => hd⟩
  have r1 := pub_mk (p := payMore p s) h q1 hn hq (by simp only [payMore, bsize]; omega)
  have r2 := pub_mk (p := payQos p s) h q2 hn (by simp [payQos]) (by simp only [payQos, bsize]; omega)
  have r3 := pub_mk (p := payNone p s) h q3 hn (by simp [payNone]) (by simp only [payNone, bsize]; omega)
  simp only [payMore, payQos, payNone, bsize] at r1 r2 r3 ⊢
  rcases hk with ⟨k1, k2, k3, k4⟩ | ⟨k1, k2, k4⟩
  · have e1 := r1.1 k1 k2 k3
    have e2 := r2.2 (by omega) (by omega)
    rw [k4]
    exact ⟨by rw [e1]; push_cast; omega, fun _ => by rw [e2]; push_cast; omega, fun e => absurd k1 e⟩
  · have e1 := r1.2 k1 k2
    have e3 := r3.1 trivial trivial trivial
    rw [k4]
    exact ⟨by rw [e1]; push_cast; omega, fun e => by omega, fun e => by rw [e3]; push_cast; omega⟩
theorem con_parts {p : Pk} (h : p.ty = 1) (h0 : 0 ≤ restP p) : connectOk p = true ∧ restP p = (connectLen p : Int) := by
  have e := (rest_type h0).trans (ty1 h)
  rw [e] at h0
  rw [e]
  unfold connectN at *
  cases hn : connectOk p with
  | false => rw [hn] at h0; simp at h0
  | true => exact ⟨rfl, if_pos rfl⟩
theorem connect_small {p : Pk} (hg : Small p) : connectLen p ≤ 100000 := by
  have hp := hg.parts
  unfold connectLen
  (repeat' split) <;> omega
theorem rests_con {p : Pk} {s : ByteArray} (hg : Small p) (h : p.ty = 1) (h0 : 0 ≤ restP p) (hs : s.size ≤ 1000) :
    (p.hasPass = true → restP (passMore p s) = restP p + s.size) ∧ (p.hasPass = false → p.hasUser = true → restP (passNew p s) = restP p + 2 + s.size) := by
  have hz := (zeros_iff p).1 (rest_bare h0)
  have hp := hg.parts
  have hcs := connect_small hg
  obtain ⟨z3, z1, z2, z9, zi, zs⟩ := hz
  have ha := z3 (by omega)
  have hb := z2 (by omega)
  have hc := z9 (by omega)
  have hd := zs (by omega) (by omega)
  have he := zi (Or.inl h)
  obtain ⟨hk, hl⟩ := con_parts h h0
  have q1 : bareB (passMore p s) = true := (zeros_iff _).2 ⟨fun _ => ha, fun e => absurd h e, fun _ => hb, fun _ => hc, fun _ => he, fun _ _ => hd⟩
  have q2 : bareB (passNew p s) = true := (zeros_iff _).2 ⟨fun _ => ha, fun e => absurd h e, fun _ => hb, fun _ => hc, fun _ => he, fun _ _ => hd⟩
  unfold connectOk at hk
  simp only [Bool.and_eq_true, decide_eq_true_eq] at hk
  obtain ⟨⟨⟨⟨⟨⟨k1, k2⟩, k3⟩, k4⟩, k5⟩, k6⟩, k7⟩ := hk
  rw [hl]
  constructor
  · intro hpw
    have o1 : connectOk (passMore p s) = true := by
      unfold connectOk
      simp only [Bool.and_eq_true, decide_eq_true_eq]
      refine ⟨⟨⟨⟨⟨⟨k1, k2⟩, k3⟩, k4⟩, ?_⟩, k6⟩, by simp only [passMore, bsize]; omega⟩
      unfold passOk; simp [passMore, hpw]
    have o2 : connectLen (passMore p s) = connectLen p + s.size := by
      unfold connectLen
      simp only [passMore, hpw, bsize, if_true]; omega
    refine rest_of q1 ?_ (by omega) (by omega)
    rw [ty1 (p := passMore p s) h]
    unfold connectN
    rw [o1, o2, if_pos rfl]; push_cast; rfl
  · intro hpw hus
    have o1 : connectOk (passNew p s) = true := by
      unfold connectOk
      simp only [Bool.and_eq_true, decide_eq_true_eq]
      refine ⟨⟨⟨⟨⟨⟨k1, k2⟩, k3⟩, ?_⟩, ?_⟩, k6⟩, by simp only [passNew]; omega⟩
      · unfold userOk; simp [passNew, hus]
      · unfold passOk; simp [passNew]
    have o2 : connectLen (passNew p s) = connectLen p + 2 + s.size := by
      unfold connectLen
      simp only [passNew, hpw, hus, if_true, Bool.false_eq_true, if_false]; omega
    refine rest_of q2 ?_ (by omega) (by omega)
    rw [ty1 (p := passNew p s) h]
    unfold connectN
    rw [o1, o2, if_pos rfl]; push_cast; omega

/- A field another one. -/
def moreF (p : Pk) : Nat → Pk
  | 0 => { p with dup := !p.dup }
  | 1 => { p with qos := (p.qos + 1) % 256 }
  | 2 => { p with ret := !p.ret }
  | 3 => { p with id := (p.id + 1) % 65536 }
  | 4 => { p with topic := p.topic ++ b1' [116] }
  | 5 => { p with payload := p.payload ++ b1' [112] }
  | 6 => { p with level := (p.level + 1) % 256 }
  | 7 => { p with clean := !p.clean }
  | 8 => { p with keep := (p.keep + 1) % 65536 }
  | 9 => { p with client := p.client ++ b1' [99] }
  | 10 => { p with hasWill := !p.hasWill }
  | 11 => { p with wret := !p.wret }
  | 12 => { p with user := p.user ++ b1' [117] }
  | 13 => { p with hasUser := !p.hasUser }
  | 14 => { p with pass := p.pass ++ b1' [115] }
  | 15 => { p with present := !p.present }
  | 16 => { p with code := (p.code + 1) % 256 }
  | _ => { p with codes := p.codes ++ b1' [0] }
where b1' (l : List UInt8) : ByteArray := ⟨l.toArray⟩
def typesF : Nat → List Nat
  | 3 => [3, 4, 5, 6, 7, 8, 9, 10, 11]
  | 6 | 7 | 8 | 9 | 10 | 11 | 12 | 13 | 14 => [1]
  | 15 | 16 => [2]
  | 0 | 1 | 2 | 4 | 5 => [3]
  | _ => [9]
theorem more_size (s : ByteArray) (l : List UInt8) (hl : l ≠ []) : s ++ moreF.b1' l ≠ s := by
  intro e
  have := congrArg ByteArray.size e
  rw [bsize] at this
  cases l with
  | nil => exact hl rfl
  | cons x r =>
    have h2 : (moreF.b1' (x :: r)).size = r.length + 1 := by simp [moreF.b1', ByteArray.size]
    omega
theorem more_ne (p : Pk) (hp : PkTy p) (f : Nat) : p ≠ moreF p f := by
  have e8 : ∀ n : Nat, n < 256 → n ≠ (n + 1) % 256 := by omega
  have e16 : ∀ n : Nat, n < 65536 → n ≠ (n + 1) % 65536 := by omega
  intro h
  match f, h with
  | 0, h => have := congrArg Pk.dup h; simp [moreF] at this
  | 1, h => exact e8 _ hp.qos (congrArg Pk.qos h)
  | 2, h => have := congrArg Pk.ret h; simp [moreF] at this
  | 3, h => exact e16 _ hp.id (congrArg Pk.id h)
  | 4, h => exact more_size p.topic _ (by simp) (congrArg Pk.topic h).symm
  | 5, h => exact more_size p.payload _ (by simp) (congrArg Pk.payload h).symm
  | 6, h => exact e8 _ hp.level (congrArg Pk.level h)
  | 7, h => have := congrArg Pk.clean h; simp [moreF] at this
  | 8, h => exact e16 _ hp.keep (congrArg Pk.keep h)
  | 9, h => exact more_size p.client _ (by simp) (congrArg Pk.client h).symm
  | 10, h => have := congrArg Pk.hasWill h; simp [moreF] at this
  | 11, h => have := congrArg Pk.wret h; simp [moreF] at this
  | 12, h => exact more_size p.user _ (by simp) (congrArg Pk.user h).symm
  | 13, h => have := congrArg Pk.hasUser h; simp [moreF] at this
  | 14, h => exact more_size p.pass _ (by simp) (congrArg Pk.pass h).symm
  | 15, h => have := congrArg Pk.present h; simp [moreF] at this
  | 16, h => exact e8 _ hp.code (congrArg Pk.code h)
  | n + 17, h => exact more_size p.codes _ (by simp) (congrArg Pk.codes h).symm
theorem rest_types {p : Pk} (h : 0 ≤ restP p) : 1 ≤ p.ty ∧ p.ty ≤ 14 := by
  have e := rest_type h
  rw [e] at h
  unfold typeN at h
  (repeat' split at h) <;> omega

set_option maxHeartbeats 1000000 in
theorem more_bad (p : Pk) (hp : PkTy p) (h0 : 0 ≤ restP p) (f : Nat) (hf : p.ty ∉ typesF f) : restP (moreF p f) < 0 := by
  have ht := rest_types h0
  have hz := (zeros_iff p).1 (rest_bare h0)
  rcases Int.lt_or_le (restP (moreF p f)) 0 with h | h
  · exact h
  · exfalso
    have hq := (zeros_iff _).1 (rest_bare h)
    have b8 : (0 + 1) % 256 = 1 := rfl
    match f, hf, hq with
    | 0, hf, hq => have a := (hz.z3 (by simpa [typesF] using hf)).1; have b := (hq.z3 (by simpa [typesF, moreF] using hf)).1; simp [moreF, a] at b
    | 1, hf, hq => have a := (hz.z3 (by simpa [typesF] using hf)).2.1; have b := (hq.z3 (by simpa [typesF, moreF] using hf)).2.1; simp [moreF, a] at b
    | 2, hf, hq => have a := (hz.z3 (by simpa [typesF] using hf)).2.2.1; have b := (hq.z3 (by simpa [typesF, moreF] using hf)).2.2.1; simp [moreF, a] at b
    | 3, hf, hq =>
      have hk : p.ty = 1 ∨ p.ty = 2 ∨ p.ty = 12 ∨ p.ty = 13 ∨ p.ty = 14 := by simp [typesF] at hf; omega
      have a := hz.zi hk; have b := hq.zi hk; simp [moreF, a] at b
    | 4, hf, hq => have a := (hz.z3 (by simpa [typesF] using hf)).2.2.2.1; have b := (hq.z3 (by simpa [typesF, moreF] using hf)).2.2.2.1; exact more_size p.topic _ (by simp) (Eq.trans b a.symm)
    | 5, hf, hq => have a := (hz.z3 (by simpa [typesF] using hf)).2.2.2.2; have b := (hq.z3 (by simpa [typesF, moreF] using hf)).2.2.2.2; exact more_size p.payload _ (by simp) (Eq.trans b a.symm)
    | 6, hf, hq => have a := (hz.z1 (by simpa [typesF] using hf)).1; have b := (hq.z1 (by simpa [typesF, moreF] using hf)).1; simp [moreF, a] at b
    | 7, hf, hq => have a := (hz.z1 (by simpa [typesF] using hf)).2.1; have b := (hq.z1 (by simpa [typesF, moreF] using hf)).2.1; simp [moreF, a] at b
    | 8, hf, hq => have a := (hz.z1 (by simpa [typesF] using hf)).2.2.1; have b := (hq.z1 (by simpa [typesF, moreF] using hf)).2.2.1; simp [moreF, a] at b
    | 9, hf, hq => have a := (hz.z1 (by simpa [typesF] using hf)).2.2.2.1; have b := (hq.z1 (by simpa [typesF, moreF] using hf)).2.2.2.1; exact more_size p.client _ (by simp) (Eq.trans b a.symm)
    | 10, hf, hq => have a := (hz.z1 (by simpa [typesF] using hf)).2.2.2.2.1; have b := (hq.z1 (by simpa [typesF, moreF] using hf)).2.2.2.2.1; simp [moreF, a] at b
    | 11, hf, hq => have a := (hz.z1 (by simpa [typesF] using hf)).2.2.2.2.2.2.2.2.1; have b := (hq.z1 (by simpa [typesF, moreF] using hf)).2.2.2.2.2.2.2.2.1; simp [moreF, a] at b
    | 12, hf, hq => have a := (hz.z1 (by simpa [typesF] using hf)).2.2.2.2.2.2.2.2.2.2.2.1; have b := (hq.z1 (by simpa [typesF, moreF] using hf)).2.2.2.2.2.2.2.2.2.2.2.1; exact more_size p.user _ (by simp) (Eq.trans b a.symm)
    | 13, hf, hq => have a := (hz.z1 (by simpa [typesF] using hf)).2.2.2.2.2.2.2.2.2.1; have b := (hq.z1 (by simpa [typesF, moreF] using hf)).2.2.2.2.2.2.2.2.2.1; simp [moreF, a] at b
    | 14, hf, hq => have a := (hz.z1 (by simpa [typesF] using hf)).2.2.2.2.2.2.2.2.2.2.2.2; have b := (hq.z1 (by simpa [typesF, moreF] using hf)).2.2.2.2.2.2.2.2.2.2.2.2; exact more_size p.pass _ (by simp) (Eq.trans b a.symm)
    | 15, hf, hq => have a := (hz.z2 (by simpa [typesF] using hf)).1; have b := (hq.z2 (by simpa [typesF, moreF] using hf)).1; simp [moreF, a] at b
    | 16, hf, hq => have a := (hz.z2 (by simpa [typesF] using hf)).2; have b := (hq.z2 (by simpa [typesF, moreF] using hf)).2; simp [moreF, a] at b
    | n + 17, hf, hq => have a := hz.z9 (by simpa [typesF] using hf); have b := hq.z9 (by simpa [typesF, moreF] using hf); exact more_size p.codes _ (by simp) (Eq.trans b a.symm)
/-- A filter more. -/
def subMore (p : Pk) : Pk := { p with subs := p.subs ++ [(moreF.b1' [102, 47, 35], 0)] }
theorem subLen_more (m : Nat) (S : List Sb) (x : Sb) : subsLen m (S ++ [x]) = subsLen m S + (2 + x.1.size + m) := by
  unfold subsLen
  rw [List.map_append, List.sum_append]; simp
theorem small_subs {p : Pk} (hg : Small p) : subsLen 1 p.subs ≤ 100000 := by
  have h1 := hg.parts
  have h2 := hg.few
  have key : ∀ S : List Sb, subsLen 1 S = (S.map (·.1.size)).sum + 3 * S.length := by
    intro S
    unfold subsLen
    induction S with
    | nil => rfl
    | cons x r ih => simp only [List.map_cons, List.sum_cons, List.length_cons]; rw [ih]; omega
  rw [key]; omega
theorem subsLen_01 (S : List Sb) : subsLen 0 S ≤ subsLen 1 S := by
  unfold subsLen
  induction S with
  | nil => exact Nat.le_refl _
  | cons x r ih => simp only [List.map_cons, List.sum_cons]; omega
theorem sub_more (p : Pk) (hg : Small p) (h0 : 0 ≤ restP p) : restP (subMore p) = if p.ty = 8 then restP p + 6 else if p.ty = 10 then restP p + 5 else -1 := by
  have hz := (zeros_iff p).1 (rest_bare h0)
  by_cases h : p.ty = 8 ∨ p.ty = 10
  · have hb : bareB (subMore p) = true := (zeros_iff _).2 ⟨fun e => hz.z3 e, fun e => hz.z1 e, fun e => hz.z2 e, fun e => hz.z9 e, fun e => hz.zi e, fun e1 e2 => by rcases h with h | h; exact absurd h e1; exact absurd h e2⟩
    have ht : ∀ q : Pk, q.ty = p.ty → typeN q = subsN q := fun q e => by
      unfold typeN
      rw [← e] at h
      rw [if_neg (by omega), if_neg (by omega), if_neg (by omega), if_neg (by omega), if_pos h]
    have e := (rest_type h0).trans (ht p rfl)
    rw [e] at h0
    have hi : ¬ (p.id = 0 ∨ p.subs = []) := fun hh => by unfold subsN at h0; rw [if_pos hh] at h0; omega
    have hall : p.subs.all (subOk (mostN p)) = true := by
      cases hc : p.subs.all (subOk (mostN p)) with
      | true => rfl
      | false => unfold subsN at h0; rw [if_neg hi, hc] at h0; simp at h0
    have e2 : subsN p = 2 + (subsLen (moreN p) p.subs : Int) := by unfold subsN; rw [if_neg hi, hall, if_pos rfl]
    have hsm := small_subs hg
    have h01 := subsLen_01 p.subs
    have hm : moreN p = 0 ∨ moreN p = 1 := by unfold moreN; split <;> simp
    have e3 : subsN (subMore p) = 2 + (subsLen (moreN p) p.subs : Int) + (5 + (moreN p : Int)) := by
      have i1 : ¬ ((subMore p).id = 0 ∨ (subMore p).subs = []) := by
        rintro (hh | hh)
        · exact hi (Or.inl hh)
        · simp [subMore] at hh
      have i2 : (subMore p).subs.all (subOk (mostN (subMore p))) = true := by
        show (p.subs ++ [_]).all (subOk (mostN p)) = true
        rw [List.all_append, hall, Bool.true_and, List.all_cons, List.all_nil, Bool.and_true]
        unfold subOk
        have : filterL (fB ((moreF.b1' [102, 47, 35], 0) : Sb)) = true := by kernel_rfl
        rw [this]; simp
      unfold subsN
      rw [if_neg i1, i2, if_pos rfl]
      show 2 + (subsLen (moreN p) (p.subs ++ [_]) : Int) = _
      rw [subLen_more, show (moreF.b1' [102, 47, 35]).size = 3 from rfl]
      push_cast; omega
    have hle : (subsLen (moreN p) p.subs : Int) ≤ 100000 := by rcases hm with hm | hm <;> rw [hm] <;> omega
    have er : restP (subMore p) = subsN (subMore p) := rest_of hb (ht (subMore p) rfl) (by rw [e3]; omega) (by rw [e3]; omega)
    rw [er, e3, e, e2]
    rcases h with h | h
    · have : moreN p = 1 := by unfold moreN; simp [h]
      rw [if_pos h, this]; omega
    · have : moreN p = 0 := by unfold moreN; simp [h]
      rw [if_neg (by omega), if_pos h, this]; omega
  · rw [if_neg (fun e => h (Or.inl e)), if_neg (fun e => h (Or.inr e))]
    refine restP_neg _ ?_
    rcases Int.lt_or_le (restP (subMore p)) 0 with h1 | h1
    · exact h1
    · exfalso
      have hq := ((zeros_iff _).1 (rest_bare h1)).zs (fun e => h (Or.inl e)) (fun e => h (Or.inr e))
      simp [subMore] at hq
end Go.Proofs.YtkphaihbdmjogaaDoor
