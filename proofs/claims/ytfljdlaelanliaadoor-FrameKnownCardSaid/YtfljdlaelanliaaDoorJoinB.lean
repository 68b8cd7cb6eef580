/- Plain mathematics of texts put behind a slash: characters, levels, what is taken. No condition; no program. -/
import Derived.Test.YtfljdlaelanliaaDoorJoinA
namespace Go.Proofs.YtfljdlaelanliaaDoor
open Go.Lib

end Go.Proofs.YtfljdlaelanliaaDoor

/- Plain mathematics of packets: their data; the rest of each type. No condition; no program. -/
namespace Go.Proofs.YtfljdlaelanliaaDoor

/-- A packet as plain data. -/
structure Pk where
  ty : Nat
  dup : Bool
  qos : Nat
  ret : Bool
  id : Nat
  topic : ByteArray
  payload : ByteArray
  level : Nat
  clean : Bool
  keep : Nat
  client : ByteArray
  hasWill : Bool
  wtopic : ByteArray
  wpayload : ByteArray
  wqos : Nat
  wret : Bool
  hasUser : Bool
  hasPass : Bool
  user : ByteArray
  pass : ByteArray
  present : Bool
  code : Nat
  subs : List Sb
  codes : ByteArray
deriving DecidableEq
def e0 : ByteArray := ⟨#[]⟩
def Pk.zero : Pk := ⟨0, false, 0, false, 0, e0, e0, 0, false, 0, e0, false, e0, e0, 0, false, false, false, e0, e0, false, 0, [], e0⟩
/-- What the memory of a machine allows, and no more. -/
structure PkOk (p : Pk) : Prop where
  ty : p.ty < 256
  qos : p.qos < 256
  id : p.id < 65536
  level : p.level < 256
  keep : p.keep < 65536
  wqos : p.wqos < 256
  code : p.code < 256
  topic : p.topic.size ≤ 300000000
  payload : p.payload.size ≤ 300000000
  client : p.client.size ≤ 300000000
  wtopic : p.wtopic.size ≤ 300000000
  wpayload : p.wpayload.size ≤ 300000000
  user : p.user.size ≤ 300000000
  pass : p.pass.size ≤ 300000000
  codes : p.codes.size ≤ 300000000
  few : p.subs.length ≤ 100000000
  each : ∀ x ∈ p.subs, x.1.size ≤ 300000000 ∧ x.2 < 256

def idN (p : Pk) : Int := if p.id = 0 then -1 else 2
def publishN (p : Pk) : Int :=
  if nameL (bl p.topic) = false ∨ 2 < p.qos then -1
  else if 0 < p.qos ∧ 0 < p.id then 2 + (p.topic.size : Int) + p.payload.size + 2
  else if 0 < p.qos ∨ 0 < p.id ∨ p.dup = true then -1
  else 2 + (p.topic.size : Int) + p.payload.size
def codeOk (b : UInt8) : Bool := decide (b.toNat ≤ 2) || decide (b.toNat = 128)
def codesN (p : Pk) : Int := if p.id = 0 ∨ (bl p.codes).isEmpty = true then -1 else if (bl p.codes).all codeOk = true then 2 + (p.codes.size : Int) else -1
def mostN (p : Pk) : Nat := if p.ty = 10 then 0 else 2
def moreN (p : Pk) : Nat := if p.ty = 10 then 0 else 1
def subOk (most : Nat) (x : Sb) : Bool := filterL (fB x) && decide (x.2 ≤ most)
def subsLen (more : Nat) (S : List Sb) : Nat := (S.map fun x => 2 + x.1.size + more).sum
def subsN (p : Pk) : Int := if p.id = 0 ∨ p.subs = [] then -1 else if p.subs.all (subOk (mostN p)) = true then 2 + (subsLen (moreN p) p.subs : Int) else -1
def willZero (p : Pk) : Prop := p.wtopic = e0 ∧ p.wpayload = e0 ∧ p.wqos = 0 ∧ p.wret = false
instance (p : Pk) : Decidable (willZero p) := inferInstanceAs (Decidable (_ ∧ _ ∧ _ ∧ _))
def willOk (p : Pk) : Bool := if p.hasWill then nameL (bl p.wtopic) && decide (p.wpayload.size ≤ 65535) && decide (p.wqos ≤ 2) else decide (willZero p)
def userOk (p : Pk) : Bool := p.hasUser || ((bl p.user).isEmpty && !p.hasPass)
def passOk (p : Pk) : Bool := p.hasPass || (bl p.pass).isEmpty
def connectOk (p : Pk) : Bool := decide (p.level = 4) && validL (bl p.client) && willOk p && userOk p && passOk p && validL (bl p.user) && decide (p.pass.size ≤ 65535)
def connectLen (p : Pk) : Nat := 12 + p.client.size + (if p.hasWill then 4 + p.wtopic.size + p.wpayload.size else 0) + (if p.hasUser then 2 + p.user.size else 0) + (if p.hasPass then 2 + p.pass.size else 0)
def connectN (p : Pk) : Int := if connectOk p then (connectLen p : Int) else -1
def Pk.bare (p : Pk) : Pk := { p with subs := [] }
/-- A packet with those fields alone that its type has; its list aside. -/
def onlyF (p : Pk) : Pk :=
  if p.ty = 1 then { Pk.zero with ty := p.ty, level := p.level, clean := p.clean, keep := p.keep, client := p.client, hasWill := p.hasWill, wtopic := p.wtopic, wpayload := p.wpayload, wqos := p.wqos, wret := p.wret, hasUser := p.hasUser, hasPass := p.hasPass, user := p.user, pass := p.pass }
  else if p.ty = 2 then { Pk.zero with ty := p.ty, present := p.present, code := p.code }
  else if p.ty = 3 then { Pk.zero with ty := p.ty, dup := p.dup, qos := p.qos, ret := p.ret, id := p.id, topic := p.topic, payload := p.payload }
  else if p.ty = 9 then { Pk.zero with ty := p.ty, id := p.id, codes := p.codes }
  else if p.ty = 12 ∨ p.ty = 13 ∨ p.ty = 14 then { Pk.zero with ty := p.ty }
  else { Pk.zero with ty := p.ty, id := p.id }
def bareB (p : Pk) : Bool := (p.subs.isEmpty || decide (p.ty = 8) || decide (p.ty = 10)) && decide (p.bare = onlyF p)
theorem onlyF_ok {p : Pk} (h : PkOk p) : PkOk (onlyF p) := by
  have hz : e0.size = 0 := rfl
  unfold onlyF
  obtain ⟨h1, h2, h3, h4, h5, h6, h7, h8, h9, h10, h11, h12, h13, h14, h15, h16, h17⟩ := h
  (repeat' split) <;> (constructor <;> simp [Pk.zero, hz] <;> omega)
end Go.Proofs.YtfljdlaelanliaaDoor

/- Plain mathematics of packets: whether one may be and its rest, the program's way and the document's; both are one. No program. -/
namespace Go.Proofs.YtfljdlaelanliaaDoor

def restOf (n : Int) (b : Bool) : Int := if n < 0 ∨ 268435455 < n ∨ b = false then -1 else n
def connackN (p : Pk) : Int := if p.code ≤ 5 ∧ (p.code = 0 ∨ p.present = false) then 2 else -1
/-- The rest that a packet's type gives it; -1: it may not be. -/
def typeN (p : Pk) : Int :=
  if p.ty = 1 then connectN p else if p.ty = 2 then connackN p else if p.ty = 3 then publishN p
  else if p.ty = 4 ∨ p.ty = 5 ∨ p.ty = 6 ∨ p.ty = 7 ∨ p.ty = 11 then idN p else if p.ty = 8 ∨ p.ty = 10 then subsN p else if p.ty = 9 then codesN p
  else if p.ty = 12 ∨ p.ty = 13 ∨ p.ty = 14 then 0 else -1
def restP (p : Pk) : Int := restOf (typeN p) (bareB p)
end Go.Proofs.YtfljdlaelanliaaDoor

/- Plain mathematics of packets: names, filters, and what a field more makes of a rest. No program. -/
namespace Go.Proofs.YtfljdlaelanliaaDoor

/-- What the types of a packet's fields allow. -/
structure PkTy (p : Pk) : Prop where
  ty : p.ty < 256
  qos : p.qos < 256
  id : p.id < 65536
  level : p.level < 256
  keep : p.keep < 65536
  wqos : p.wqos < 256
  code : p.code < 256
  each : ∀ x ∈ p.subs, x.2 < 256
def sizesL (p : Pk) : List Nat := [p.topic.size, p.payload.size, p.client.size, p.wtopic.size, p.wpayload.size, p.user.size, p.pass.size, p.codes.size] ++ p.subs.map (·.1.size)
structure Small (p : Pk) : Prop where
  few : p.subs.length ≤ 100
  sum : (sizesL p).sum ≤ 10000
theorem Small.parts {p : Pk} (h : Small p) : p.topic.size + p.payload.size + p.client.size + p.wtopic.size + p.wpayload.size + p.user.size + p.pass.size + p.codes.size + (p.subs.map (·.1.size)).sum ≤ 10000 := by
  have := h.sum
  unfold sizesL at this
  simp at this
  omega
theorem le_sum {α : Type} (f : α → Nat) : ∀ (L : List α) (x : α), x ∈ L → f x ≤ (L.map f).sum
  | [], x, h => by cases h
  | y :: r, x, h => by
    rw [List.map_cons, List.sum_cons]
    rcases List.mem_cons.1 h with rfl | h
    · omega
    · have := le_sum f r x h; omega
theorem Small.ok {p : Pk} (h : Small p) (t : PkTy p) : PkOk p := by
  have hp := h.parts
  have hf := h.few
  refine ⟨t.ty, t.qos, t.id, t.level, t.keep, t.wqos, t.code, by omega, by omega, by omega, by omega, by omega, by omega, by omega, by omega, by omega, fun x hx => ⟨?_, t.each x hx⟩⟩
  have := le_sum (fun x : Sb => x.1.size) p.subs x hx
  omega

end Go.Proofs.YtfljdlaelanliaaDoor

/- Plain mathematics of packets: bytes more of a payload, of a password; a field another one. No program. -/
namespace Go.Proofs.YtfljdlaelanliaaDoor

end Go.Proofs.YtfljdlaelanliaaDoor

/- Plain mathematics of filters: byte by byte, as the reference looks, is level by level. No program. -/
namespace Go.Proofs.YtfljdlaelanliaaDoor

end Go.Proofs.YtfljdlaelanliaaDoor

/- Plain mathematics of a packet's bytes: words, lengths, fields, the rest, the whole. No program. -/
namespace Go.Proofs.YtfljdlaelanliaaDoor

def byteN (n : Nat) : UInt8 := UInt8.ofNat n
def wordB (n : Nat) : Bs := [byteN (n / 256), byteN (n % 256)]
def dataB (s : ByteArray) : Bs := wordB s.size ++ bl s
def lenS (n : Nat) : Nat := if n < 128 then 1 else if n < 16384 then 2 else if n < 2097152 then 3 else 4
def mqtt : ByteArray := ⟨#[77, 81, 84, 84]⟩
end Go.Proofs.YtfljdlaelanliaaDoor

/- Plain mathematics of reading a packet's bytes: what is written is read as it was, whatever stands behind it. No program. -/
namespace Go.Proofs.YtfljdlaelanliaaDoor

/-- What is left, and whether something was not so. -/
abbrev Cur := Bs × Bool
def baB (L : Bs) : ByteArray := ⟨L.toArray⟩
theorem baB_bl (s : ByteArray) : baB (bl s) = s := bl_inj rfl
theorem bl_baB (L : Bs) : bl (baB L) = L := rfl
def oneR : Cur → Nat × Cur
  | ([], _) => (0, ([], true))
  | (b :: t, k) => (b.toNat, (t, k))
def wordR : Cur → Nat × Cur
  | (a :: b :: t, k) => (a.toNat * 256 + b.toNat, (t, k))
  | (l, _) => (0, (l, true))
def dataR : Cur → ByteArray × Cur
  | (a :: b :: t, k) => if a.toNat * 256 + b.toNat ≤ t.length then (baB (t.take (a.toNat * 256 + b.toNat)), (t.drop (a.toNat * 256 + b.toNat), k)) else (e0, (a :: b :: t, true))
  | (l, _) => (e0, (l, true))
def textR (c : Cur) : ByteArray × Cur := if validL (bl (dataR c).1) = true then dataR c else (e0, (c.1, true))
def conR (c0 : Cur) : Pk × Cur :=
  let a := textR c0
  let b := oneR a.2
  let f := oneR b.2
  let k := wordR (f.2.1, f.2.2 || (a.1 != mqtt) || decide (f.1 % 2 = 1))
  let n := textR k.2
  let wt := if f.1 / 4 % 2 = 1 then textR n.2 else (e0, n.2)
  let wp := if f.1 / 4 % 2 = 1 then dataR wt.2 else (e0, wt.2)
  let u := if f.1 / 128 % 2 = 1 then textR wp.2 else (e0, wp.2)
  let s := if f.1 / 64 % 2 = 1 then dataR u.2 else (e0, u.2)
  ({ Pk.zero with ty := 1, level := b.1, clean := decide (f.1 / 2 % 2 = 1), hasWill := decide (f.1 / 4 % 2 = 1), wqos := f.1 / 8 % 4, wret := decide (f.1 / 32 % 2 = 1), hasPass := decide (f.1 / 64 % 2 = 1), hasUser := decide (f.1 / 128 % 2 = 1), keep := k.1, client := n.1, wtopic := wt.1, wpayload := wp.1, user := u.1, pass := s.1 }, s.2)
def subsR (ty : Nat) : Nat → Cur → List Sb → List Sb × Cur
  | 0, c, acc => (acc, c)
  | f + 1, c, acc => if c.1 = [] ∨ c.2 = true then (acc, c) else
    let t := textR c
    let q := if ty = 8 then oneR t.2 else (0, t.2)
    subsR ty f q.2 (acc ++ [(t.1, q.1)])
def allR (ty fl : Nat) (c : Cur) : Pk × Cur :=
  if ty = 1 then conR c
  else if ty = 2 then
    let a := oneR c
    let b := oneR (a.2.1, a.2.2 || decide (1 < a.1))
    ({ Pk.zero with ty := 2, present := decide (a.1 = 1), code := b.1 }, b.2)
  else if ty = 3 then
    let t := textR c
    let i := if 0 < fl / 2 % 4 then wordR t.2 else (0, t.2)
    ({ Pk.zero with ty := 3, dup := decide (fl / 8 % 2 = 1), qos := fl / 2 % 4, ret := decide (fl % 2 = 1), topic := t.1, id := i.1, payload := baB i.2.1 }, ([], i.2.2))
  else if ty = 12 ∨ ty = 13 ∨ ty = 14 then ({ Pk.zero with ty := ty }, c)
  else
    let i := wordR c
    if ty = 9 then ({ Pk.zero with ty := ty, id := i.1, codes := baB i.2.1 }, ([], i.2.2))
    else if ty = 8 ∨ ty = 10 then
      let s := subsR ty (i.2.1.length + 1) i.2 []
      ({ Pk.zero with ty := ty, id := i.1, subs := s.1 }, s.2)
    else ({ Pk.zero with ty := ty, id := i.1 }, i.2)
def firstOk (b : Nat) : Bool :=
  if b / 16 = 0 ∨ b / 16 = 15 then false else if b / 16 = 3 then decide (b / 2 % 4 < 3)
  else if b / 16 = 6 ∨ b / 16 = 8 ∨ b / 16 = 10 then decide (b % 16 = 2) else decide (b % 16 = 0)
def lenRf : Nat → Nat → Nat → Nat → Bs → Nat × Nat × Nat
  | 0, _, _, _, _ => (0, 0, 4)
  | _ + 1, _, _, _, [] => (0, 0, 2)
  | f + 1, sc, acc, u, c :: t => if c.toNat < 128 then (acc + c.toNat % 128 * sc, u + 1, 0) else lenRf f (sc * 128) (acc + c.toNat % 128 * sc) (u + 1) t
def lenR (L : Bs) : Nat × Nat × Nat := lenRf 4 1 0 0 L
/-- A packet's rest read: the packet, or ErrForm. -/
def bodyR (b : Nat) (L : Bs) : Pk × Nat :=
  if b / 16 = 1 ∧ 6 < L.length ∧ L.take 6 = dataB mqtt ∧ L[6]? ≠ some 4 then ({ Pk.zero with ty := 1, level := (L.getD 6 0).toNat }, 0)
  else
    let r := allR (b / 16) (b % 16) (L, false)
    if r.2.2 = true ∨ r.2.1 ≠ [] ∨ restP r.1 < 0 then (Pk.zero, 4) else (r.1, 0)
/-- The packet with whose bytes a text begins, how many they are, the error. -/
def decR : Bs → Pk × Nat × Nat
  | [] => (Pk.zero, 0, 2)
  | b :: t =>
    if firstOk b.toNat = false then (Pk.zero, 0, 4)
    else if (lenR t).2.2 ≠ 0 then (Pk.zero, 0, (lenR t).2.2)
    else if t.length - (lenR t).2.1 < (lenR t).1 then (Pk.zero, 0, 2)
    else
      let r := bodyR b.toNat ((t.drop (lenR t).2.1).take (lenR t).1)
      if r.2 ≠ 0 then (Pk.zero, 0, r.2) else (r.1, 1 + (lenR t).2.1 + (lenR t).1, 0)

theorem byteN_nat (n : Nat) (h : n < 256) : (byteN n).toNat = n := by
  unfold byteN
  rw [UInt8.toNat_ofNat']
  omega
end Go.Proofs.YtfljdlaelanliaaDoor

