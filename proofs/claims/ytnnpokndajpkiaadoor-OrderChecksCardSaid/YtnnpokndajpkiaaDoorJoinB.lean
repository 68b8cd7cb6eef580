import Derived.Test.YtnnpokndajpkiaaDoorJoinA
namespace Go.Proofs.YtnnpokndajpkiaaDoor
open Go.Lib
end Go.Proofs.YtnnpokndajpkiaaDoor
namespace Go.Proofs.YtnnpokndajpkiaaDoor
structure Pk where
  ty : Nat
  dup : Bool
  qos : Nat
  ret : Bool
  id : Nat
  topic : ByteArray
  payload : ByteArray
  level : Nat
  clean : Bool
  keep : Nat
  client : ByteArray
  hasWill : Bool
  wtopic : ByteArray
  wpayload : ByteArray
  wqos : Nat
  wret : Bool
  hasUser : Bool
  hasPass : Bool
  user : ByteArray
  pass : ByteArray
  present : Bool
  code : Nat
  subs : List Sb
  codes : ByteArray
deriving DecidableEq
def e0 : ByteArray := ⟨#[]⟩
def Pk.zero : Pk := ⟨0, false, 0, false, 0, e0, e0, 0, false, 0, e0, false, e0, e0, 0, false, false, false, e0, e0, false, 0, [], e0⟩
structure PkOk (p : Pk) : Prop where
  ty : p.ty < 256
  qos : p.qos < 256
  id : p.id < 65536
  level : p.level < 256
  keep : p.keep < 65536
  wqos : p.wqos < 256
  code : p.code < 256
  topic : p.topic.size ≤ 300000000
  payload : p.payload.size ≤ 300000000
  client : p.client.size ≤ 300000000
  wtopic : p.wtopic.size ≤ 300000000
  wpayload : p.wpayload.size ≤ 300000000
  user : p.user.size ≤ 300000000
  pass : p.pass.size ≤ 300000000
  codes : p.codes.size ≤ 300000000
  few : p.subs.length ≤ 100000000
  each : ∀ x ∈ p.subs, x.1.size ≤ 300000000 ∧ x.2 < 256
def willZero (p : Pk) : Prop := p.wtopic = e0 ∧ p.wpayload = e0 ∧ p.wqos = 0 ∧ p.wret = false
instance (p : Pk) : Decidable (willZero p) := inferInstanceAs (Decidable (_ ∧ _ ∧ _ ∧ _))
def Pk.bare (p : Pk) : Pk := { p with subs := [] }
def onlyF (p : Pk) : Pk :=
  if p.ty = 1 then { Pk.zero with ty := p.ty, level := p.level, clean := p.clean, keep := p.keep, client := p.client, hasWill := p.hasWill, wtopic := p.wtopic, wpayload := p.wpayload, wqos := p.wqos, wret := p.wret, hasUser := p.hasUser, hasPass := p.hasPass, user := p.user, pass := p.pass }
  else if p.ty = 2 then { Pk.zero with ty := p.ty, present := p.present, code := p.code }
  else if p.ty = 3 then { Pk.zero with ty := p.ty, dup := p.dup, qos := p.qos, ret := p.ret, id := p.id, topic := p.topic, payload := p.payload }
  else if p.ty = 9 then { Pk.zero with ty := p.ty, id := p.id, codes := p.codes }
  else if p.ty = 12 ∨ p.ty = 13 ∨ p.ty = 14 then { Pk.zero with ty := p.ty }
  else { Pk.zero with ty := p.ty, id := p.id }
end Go.Proofs.YtnnpokndajpkiaaDoor
namespace Go.Proofs.YtnnpokndajpkiaaDoor
end Go.Proofs.YtnnpokndajpkiaaDoor
namespace Go.Proofs.YtnnpokndajpkiaaDoor
structure PkTy (p : Pk) : Prop where
  ty : p.ty < 256
  qos : p.qos < 256
  id : p.id < 65536
  level : p.level < 256
  keep : p.keep < 65536
  wqos : p.wqos < 256
  code : p.code < 256
  each : ∀ x ∈ p.subs, x.2 < 256
def sizesL (p : Pk) : List Nat := [p.topic.size, p.payload.size, p.client.size, p.wtopic.size, p.wpayload.size, p.user.size, p.pass.size, p.codes.size] ++ p.subs.map (·.1.size)
structure Small (p : Pk) : Prop where
  few : p.subs.length ≤ 100
  sum : (sizesL p).sum ≤ 10000
theorem Small.parts {p : Pk} (h : Small p) : p.topic.size + p.payload.size + p.client.size + p.wtopic.size + p.wpayload.size + p.user.size + p.pass.size + p.codes.size + (p.subs.map (·.1.size)).sum ≤ 10000 := by
  have := h.sum; unfold sizesL at this; simp at this
  omega
theorem le_sum {α : Type} (f : α → Nat) : ∀ (L : List α) (x : α), x ∈ L → f x ≤ (L.map f).sum
  | [], x, h => by cases h
  | y :: r, x, h => by
    rw [List.map_cons, List.sum_cons]; rcases List.mem_cons.1 h with rfl | h
    · omega
    · have := le_sum f r x h; omega
theorem Small.ok {p : Pk} (h : Small p) (t : PkTy p) : PkOk p := by
  have hp := h.parts; have hf := h.few; refine ⟨t.ty, t.qos, t.id, t.level, t.keep, t.wqos, t.code, by omega, by omega, by omega, by omega, by omega, by omega, by omega, by omega, by omega, fun x hx => ⟨?_, t.each x hx⟩⟩; have := le_sum (fun x : Sb => x.1.size) p.subs x hx; omega
end Go.Proofs.YtnnpokndajpkiaaDoor
namespace Go.Proofs.YtnnpokndajpkiaaDoor
end Go.Proofs.YtnnpokndajpkiaaDoor
namespace Go.Proofs.YtnnpokndajpkiaaDoor
end Go.Proofs.YtnnpokndajpkiaaDoor
namespace Go.Proofs.YtnnpokndajpkiaaDoor
end Go.Proofs.YtnnpokndajpkiaaDoor
namespace Go.Proofs.YtnnpokndajpkiaaDoor
end Go.Proofs.YtnnpokndajpkiaaDoor
