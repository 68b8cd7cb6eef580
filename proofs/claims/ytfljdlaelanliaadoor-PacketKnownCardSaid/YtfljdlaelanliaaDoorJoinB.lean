/- Plain mathematics of texts put behind a slash: characters, levels, what is taken. No condition; no program. -/
import Derived.Test.YtfljdlaelanliaaDoorJoinA
namespace Go.Proofs.YtfljdlaelanliaaDoor
open Go.Lib

end Go.Proofs.YtfljdlaelanliaaDoor

/- Plain mathematics of packets: their data; the rest of each type. No condition; no program. -/
namespace Go.Proofs.YtfljdlaelanliaaDoor

/-- A packet as plain data. -/
structure Pk where
  ty : Nat
  dup : Bool
  qos : Nat
  ret : Bool
  id : Nat
  topic : ByteArray
  payload : ByteArray
  level : Nat
  clean : Bool
  keep : Nat
  client : ByteArray
  hasWill : Bool
  wtopic : ByteArray
  wpayload : ByteArray
  wqos : Nat
  wret : Bool
  hasUser : Bool
  hasPass : Bool
  user : ByteArray
  pass : ByteArray
  present : Bool
  code : Nat
  subs : List Sb
  codes : ByteArray
deriving DecidableEq
def e0 : ByteArray := ⟨#[]⟩
def Pk.zero : Pk := ⟨0, false, 0, false, 0, e0, e0, 0, false, 0, e0, false, e0, e0, 0, false, false, false, e0, e0, false, 0, [], e0⟩
/-- What the memory of a machine allows, and no more. -/
structure PkOk (p : Pk) : Prop where
  ty : p.ty < 256
  qos : p.qos < 256
  id : p.id < 65536
  level : p.level < 256
  keep : p.keep < 65536
  wqos : p.wqos < 256
  code : p.code < 256
  topic : p.topic.size ≤ 300000000
  payload : p.payload.size ≤ 300000000
  client : p.client.size ≤ 300000000
  wtopic : p.wtopic.size ≤ 300000000
  wpayload : p.wpayload.size ≤ 300000000
  user : p.user.size ≤ 300000000
  pass : p.pass.size ≤ 300000000
  codes : p.codes.size ≤ 300000000
  few : p.subs.length ≤ 100000000
  each : ∀ x ∈ p.subs, x.1.size ≤ 300000000 ∧ x.2 < 256

def idN (p : Pk) : Int := if p.id = 0 then -1 else 2
def publishN (p : Pk) : Int :=
  if nameL (bl p.topic) = false ∨ 2 < p.qos then -1
  else if 0 < p.qos ∧ 0 < p.id then 2 + (p.topic.size : Int) + p.payload.size + 2
  else if 0 < p.qos ∨ 0 < p.id ∨ p.dup = true then -1
  else 2 + (p.topic.size : Int) + p.payload.size
def codeOk (b : UInt8) : Bool := decide (b.toNat ≤ 2) || decide (b.toNat = 128)
def codesN (p : Pk) : Int := if p.id = 0 ∨ (bl p.codes).isEmpty = true then -1 else if (bl p.codes).all codeOk = true then 2 + (p.codes.size : Int) else -1
def mostN (p : Pk) : Nat := if p.ty = 10 then 0 else 2
def moreN (p : Pk) : Nat := if p.ty = 10 then 0 else 1
def subOk (most : Nat) (x : Sb) : Bool := filterL (fB x) && decide (x.2 ≤ most)
def subsLen (more : Nat) (S : List Sb) : Nat := (S.map fun x => 2 + x.1.size + more).sum
def subsN (p : Pk) : Int := if p.id = 0 ∨ p.subs = [] then -1 else if p.subs.all (subOk (mostN p)) = true then 2 + (subsLen (moreN p) p.subs : Int) else -1
def willZero (p : Pk) : Prop := p.wtopic = e0 ∧ p.wpayload = e0 ∧ p.wqos = 0 ∧ p.wret = false
instance (p : Pk) : Decidable (willZero p) := inferInstanceAs (Decidable (_ ∧ _ ∧ _ ∧ _))
def willOk (p : Pk) : Bool := if p.hasWill then nameL (bl p.wtopic) && decide (p.wpayload.size ≤ 65535) && decide (p.wqos ≤ 2) else decide (willZero p)
def userOk (p : Pk) : Bool := p.hasUser || ((bl p.user).isEmpty && !p.hasPass)
def passOk (p : Pk) : Bool := p.hasPass || (bl p.pass).isEmpty
def connectOk (p : Pk) : Bool := decide (p.level = 4) && validL (bl p.client) && willOk p && userOk p && passOk p && validL (bl p.user) && decide (p.pass.size ≤ 65535)
def connectLen (p : Pk) : Nat := 12 + p.client.size + (if p.hasWill then 4 + p.wtopic.size + p.wpayload.size else 0) + (if p.hasUser then 2 + p.user.size else 0) + (if p.hasPass then 2 + p.pass.size else 0)
def connectN (p : Pk) : Int := if connectOk p then (connectLen p : Int) else -1
def Pk.bare (p : Pk) : Pk := { p with subs := [] }
/-- A packet with those fields alone that its type has; its list aside. -/
def onlyF (p : Pk) : Pk :=
  if p.ty = 1 then { Pk.zero with ty := p.ty, level := p.level, clean := p.clean, keep := p.keep, client := p.client, hasWill := p.hasWill, wtopic := p.wtopic, wpayload := p.wpayload, wqos := p.wqos, wret := p.wret, hasUser := p.hasUser, hasPass := p.hasPass, user := p.user, pass := p.pass }
  else if p.ty = 2 then { Pk.zero with ty := p.ty, present := p.present, code := p.code }
  else if p.ty = 3 then { Pk.zero with ty := p.ty, dup := p.dup, qos := p.qos, ret := p.ret, id := p.id, topic := p.topic, payload := p.payload }
  else if p.ty = 9 then { Pk.zero with ty := p.ty, id := p.id, codes := p.codes }
  else if p.ty = 12 ∨ p.ty = 13 ∨ p.ty = 14 then { Pk.zero with ty := p.ty }
  else { Pk.zero with ty := p.ty, id := p.id }
def bareB (p : Pk) : Bool := (p.subs.isEmpty || decide (p.ty = 8) || decide (p.ty = 10)) && decide (p.bare = onlyF p)
theorem onlyF_ok {p : Pk} (h : PkOk p) : PkOk (onlyF p) := by
  have hz : e0.size = 0 := rfl
  unfold onlyF
  obtain ⟨h1, h2, h3, h4, h5, h6, h7, h8, h9, h10, h11, h12, h13, h14, h15, h16, h17⟩ := h
  (repeat' split) <;> (constructor <;> simp [Pk.zero, hz] <;> omega)
end Go.Proofs.YtfljdlaelanliaaDoor

/- Plain mathematics of packets: whether one may be and its rest, the program's way and the document's; both are one. No program. -/
namespace Go.Proofs.YtfljdlaelanliaaDoor

def restOf (n : Int) (b : Bool) : Int := if n < 0 ∨ 268435455 < n ∨ b = false then -1 else n
def connackN (p : Pk) : Int := if p.code ≤ 5 ∧ (p.code = 0 ∨ p.present = false) then 2 else -1
/-- The rest that a packet's type gives it; -1: it may not be. -/
def typeN (p : Pk) : Int :=
  if p.ty = 1 then connectN p else if p.ty = 2 then connackN p else if p.ty = 3 then publishN p
  else if p.ty = 4 ∨ p.ty = 5 ∨ p.ty = 6 ∨ p.ty = 7 ∨ p.ty = 11 then idN p else if p.ty = 8 ∨ p.ty = 10 then subsN p else if p.ty = 9 then codesN p
  else if p.ty = 12 ∨ p.ty = 13 ∨ p.ty = 14 then 0 else -1
def restP (p : Pk) : Int := restOf (typeN p) (bareB p)
theorem e0_size : e0.size = 0 := rfl
end Go.Proofs.YtfljdlaelanliaaDoor

/- Plain mathematics of packets: names, filters, and what a field more makes of a rest. No program. -/
namespace Go.Proofs.YtfljdlaelanliaaDoor

/-- What the types of a packet's fields allow. -/
structure PkTy (p : Pk) : Prop where
  ty : p.ty < 256
  qos : p.qos < 256
  id : p.id < 65536
  level : p.level < 256
  keep : p.keep < 65536
  wqos : p.wqos < 256
  code : p.code < 256
  each : ∀ x ∈ p.subs, x.2 < 256
def sizesL (p : Pk) : List Nat := [p.topic.size, p.payload.size, p.client.size, p.wtopic.size, p.wpayload.size, p.user.size, p.pass.size, p.codes.size] ++ p.subs.map (·.1.size)
structure Small (p : Pk) : Prop where
  few : p.subs.length ≤ 100
  sum : (sizesL p).sum ≤ 10000
theorem Small.parts {p : Pk} (h : Small p) : p.topic.size + p.payload.size + p.client.size + p.wtopic.size + p.wpayload.size + p.user.size + p.pass.size + p.codes.size + (p.subs.map (·.1.size)).sum ≤ 10000 := by
  have := h.sum
  unfold sizesL at this
  simp at this
  omega
theorem le_sum {α : Type} (f : α → Nat) : ∀ (L : List α) (x : α), x ∈ L → f x ≤ (L.map f).sum
  | [], x, h => by cases h
  | y :: r, x, h => by
    rw [List.map_cons, List.sum_cons]
    rcases List.mem_cons.1 h with rfl | h
    · omega
    · have := le_sum f r x h; omega
theorem Small.ok {p : Pk} (h : Small p) (t : PkTy p) : PkOk p := by
  have hp := h.parts
  have hf := h.few
  refine ⟨t.ty, t.qos, t.id, t.level, t.keep, t.wqos, t.code, by omega, by omega, by omega, by omega, by omega, by omega, by omega, by omega, by omega, fun x hx => ⟨?_, t.each x hx⟩⟩
  have := le_sum (fun x : Sb => x.1.size) p.subs x hx
  omega

end Go.Proofs.YtfljdlaelanliaaDoor

/- Plain mathematics of packets: bytes more of a payload, of a password; a field another one. No program. -/
namespace Go.Proofs.YtfljdlaelanliaaDoor

end Go.Proofs.YtfljdlaelanliaaDoor

/- Plain mathematics of filters: byte by byte, as the reference looks, is level by level. No program. -/
namespace Go.Proofs.YtfljdlaelanliaaDoor

end Go.Proofs.YtfljdlaelanliaaDoor

/- Plain mathematics of a packet's bytes: words, lengths, fields, the rest, the whole. No program. -/
namespace Go.Proofs.YtfljdlaelanliaaDoor

end Go.Proofs.YtfljdlaelanliaaDoor

/- Plain mathematics of reading a packet's bytes: what is written is read as it was, whatever stands behind it. No program. -/
namespace Go.Proofs.YtfljdlaelanliaaDoor

end Go.Proofs.YtfljdlaelanliaaDoor

