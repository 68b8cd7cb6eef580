import Derived.Test.YtnnpokndajpkiaaDoorJoinF
namespace Go.Proofs.YtnnpokndajpkiaaDoor
open Go.RowKit
def wantsT (ops : Array Oper) (L : List (Nat × Value)) (o : Oper) : Option Bool :=
  match o.guard with
  | none => some true
  | some (g, want) => match (ops[g]?).bind (·.dst) with
    | none => none
    | some t => match L.lookup t with
      | some (.bool b) => some (b == want)
      | some (.tuple xs) => if xs.isEmpty then some false else none
      | _ => none
section
variable {P : Program} {ops : Array Oper} {a : Act} {w : World} {Q : Exit → Act → World → Prop} {n : Nat} {L : List (Nat × Value)} {md : Region.Mode} {S : World → Prop} {z : Nat}
theorem wantsT_spec (F : FrL n L a) {o : Oper} {b : Bool} (h : wantsT ops L o = some b) : Region.wanted o (yielded ops a.tmps) = b := by
  unfold wantsT at h; split at h
  · rename_i hg
    injection h with h
    rw [← h]; exact free_want hg
  · rename_i g want hg
    split at h
    · cases h
    · rename_i t ht
      split at h
      · rename_i b2 hb
        injection h with h
        rw [← h]; exact wanted_at F hg ht hb
      · rename_i xs hb
        split at h
        · injection h with h
          subst h; unfold Region.wanted yielded; rw [hg]; simp only [ht, Option.bind_some, F.at' t _ hb]; cases want <;> rfl
        · cases h
      · cases h
end
end Go.Proofs.YtnnpokndajpkiaaDoor
namespace Go.Proofs.YtnnpokndajpkiaaDoor
open Go.RowKit
structure Ob where
  blk : Nat
  base : Nat
  cells : List Value
def MemOk (w : World) : List Ob → Prop
  | [] => True
  | o :: r => w.rangeAt o.blk o.base o.cells ∧ MemOk w r
def AllEq : List (Value × Value) → Prop
  | [] => True
  | x :: r => x.1 = x.2 ∧ AllEq r
structure Ix where
  a : Option Addr
  len : Nat
  cap : Nat
  k : IntKind
  i : Int
  m : Nat
  res : Addr
def Ix.ok (x : Ix) : Prop := ∃ b o j, x.a = some ⟨b, o, none⟩ ∧ x.i = ((j : Nat) : Int) ∧ j < x.len ∧ x.res = ⟨b, o + j * x.m, none⟩
def AllIx : List Ix → Prop
  | [] => True
  | x :: r => x.ok ∧ AllIx r
inductive Hn where
  | c
  | l (k off : Nat)
  | f (j : Nat)
  | i (j : Nat)
def ldv (P : Program) (ty : TypeId) (ob : Ob) (off : Nat) : Option Value :=
  match P.underlying ty with
  | none => none
  | some d => match P.info? ty with
    | none => none
    | some i => if d.isRow then
        (if Nat.beq ((ob.cells.drop off).take i.size).length i.size then some (.agg ((ob.cells.drop off).take i.size).toArray) else none)
      else ob.cells[off]?
def claim (obs : List Ob) (Fs : List (Value × Value)) (Is : List Ix) : Hn → List Value
  | .c => []
  | .l k off => match obs[k]? with
    | some ob => [.pointer (some ⟨ob.blk, ob.base + off, none⟩)]
    | none => []
  | .f j => match Fs[j]? with
    | some x => [x.1]
    | none => []
  | .i j => match Is[j]? with
    | some x => [.slice x.a x.len x.cap, .int x.k x.i]
    | none => []
theorem AllEq.get : ∀ {Fs : List (Value × Value)} {j : Nat} {x : Value × Value}, AllEq Fs → Fs[j]? = some x → x.1 = x.2
  | [], _, _, _, h => by simp at h
  | y :: r, 0, x, h, e => by
    simp only [List.getElem?_cons_zero, Option.some.injEq] at e; subst e; exact h.1
  | y :: r, j + 1, x, h, e => AllEq.get h.2 (by simpa using e)
theorem AllIx.get : ∀ {Is : List Ix} {j : Nat} {x : Ix}, AllIx Is → Is[j]? = some x → x.ok
  | [], _, _, _, h => by simp at h
  | y :: r, 0, x, h, e => by
    simp only [List.getElem?_cons_zero, Option.some.injEq] at e; subst e; exact h.1
  | y :: r, j + 1, x, h, e => AllIx.get h.2 (by simpa using e)
theorem idx_run {P : Program} {w : World} {x : Ix} (hx : x.ok) {t e : TypeId} {q : TypeInfo} (hu : P.underlying t = some (.slice e)) (hi : P.info? e = some q) (hm : q.size = x.m) : (Instr.indexAt t (.slice x.a x.len x.cap) (.int x.k x.i)).run P w = .ok (.pointer (some x.res)) w := by
  obtain ⟨b, o, j, h1, h2, h3, h4⟩ := hx; have he : P.elem t = e := by simp [Program.elem, hu]
  have ht : P.underlying t = some (.slice (P.elem t)) := by rw [he]; exact hu
  have hs : (sizeOf e).run P w = .ok x.m w := by simp [sizeOf, typeInfo, hi, hm]
  rw [h1, run_indexAt_slice (h := ht), h2, if_pos (by omega), he, hs, h4]; simp only [Result.andThen_ok, Int.toNat_natCast, Addr.add_mid]
theorem MemOk.get {w : World} : ∀ {obs : List Ob} {k : Nat} {ob : Ob}, MemOk w obs → obs[k]? = some ob → w.rangeAt ob.blk ob.base ob.cells
  | [], _, _, _, h => by simp at h
  | y :: r, 0, x, h, e => by
    simp only [List.getElem?_cons_zero, Option.some.injEq] at e; subst e; exact h.1
  | y :: r, j + 1, x, h, e => MemOk.get h.2 (by simpa using e)
theorem ldv_run {P : Program} {w : World} {ob : Ob} {ty : TypeId} {off : Nat} {v : Value} (hm : w.rangeAt ob.blk ob.base ob.cells) (h : ldv P ty ob off = some v) : (Instr.loadAt ty (.pointer (some ⟨ob.blk, ob.base + off, none⟩))).run P w = .ok v w := by
  unfold ldv at h; split at h
  · cases h
  · rename_i d hu
    split at h
    · cases h
    · rename_i i hi
      split at h
      · rename_i hr
        split at h
        · rename_i hl
          injection h with h
          subst h; refine run_loadAt_mid w _ _ ty _ d (fun j u hj => ?_) hu hr (by rw [hi]; exact congrArg some (Nat.eq_of_beq_eq_true hl).symm); rw [List.getElem?_take] at hj; split at hj
          · rw [List.getElem?_drop] at hj
            rw [Nat.add_assoc]; exact hm _ u hj
          · cases hj
        · cases h
      · rename_i hr
        have hc := hm off v h; have hagg : (isAgg ty).run P w = .ok false w := by
          unfold isAgg; rw [Sem.run_bind, run_underlying hu w]; cases d <;> simp_all
        simp only [Instr.loadAt, Instr.sureAddr, Sem.run_bind, Sem.run_pure, Result.andThen_ok, loadVar, hagg, Bool.false_eq_true, if_false, run_load, hc]
section
variable {P : Program} {ops : Array Oper} {a : Act} {w : World} {Q : Exit → Act → World → Prop} {n : Nat} {L : List (Nat × Value)} {md : Region.Mode} {S : World → Prop} {z : Nat}
end
theorem tF {b : Bool} (h : b = false) : Value.bool b = .bool false := by rw [h]
theorem eqI {x y : Int} (h : x = y) : Value.bool (x == y) = .bool true := by rw [h, beq_self_eq_true]
theorem eqI' {x y : Int} (h : x ≠ y) : Value.bool (x == y) = .bool false := by rw [beq_eq_false_iff_ne.2 h]
theorem neI {x y : Int} (h : x ≠ y) : Value.bool (x != y) = .bool true := by rw [bne_iff_ne.2 h]
theorem neI' {x y : Int} (h : x = y) : Value.bool (x != y) = .bool false := by rw [h, bne_self_eq_false]
theorem dcT {p : Prop} [Decidable p] (h : p) : Value.bool (decide p) = .bool true := by rw [decide_eq_true h]
theorem dcF {p : Prop} [Decidable p] (h : ¬ p) : Value.bool (decide p) = .bool false := by rw [decide_eq_false h]
theorem addI {k : Nat} (h : k < 9223372036854775807) : Value.int .i64 (IntKind.i64.wrap ((k : Int) + 1)) = .int .i64 ((k + 1 : Nat) : Int) := by
  congr 1; rw [IntKind.wrap_i64]; omega
theorem eqS {x y : ByteArray} (h : x = y) : Value.bool (x.toList == y.toList) = .bool true := by rw [h, beq_self_eq_true]
theorem eqS' {x y : ByteArray} (h : x ≠ y) : Value.bool (x.toList == y.toList) = .bool false := by
  rw [beq_eq_false_iff_ne.2]; intro e; rw [Lib.toList_data, Lib.toList_data] at e; apply h
  cases x with
  | mk x => cases y with
    | mk y => exact congrArg ByteArray.mk (Array.toList_inj.1 e)
theorem neS {x y : ByteArray} (h : x ≠ y) : Value.bool (!(x.toList == y.toList)) = .bool true := by
  have := eqS' h; injection this with this
  rw [this]; rfl
theorem neS' {x y : ByteArray} (h : x = y) : Value.bool (!(x.toList == y.toList)) = .bool false := by rw [h, beq_self_eq_true]; rfl
theorem BoxAt.range {w : World} {X : Nat} {cs : Array Value} {T : TypeId} (h : BoxAt w X cs T) : w.rangeAt X 0 cs.toList := fun j v hv => by
  rw [Nat.zero_add, h.cells j, ← Array.getElem?_toList]; exact hv
end Go.Proofs.YtnnpokndajpkiaaDoor
namespace Go.Proofs.YtnnpokndajpkiaaDoor
open Go.RowKit
end Go.Proofs.YtnnpokndajpkiaaDoor
namespace Go.Proofs.YtnnpokndajpkiaaDoor
open Go.RowKit
structure Kn (w : World) where
  obs : List Ob
  fs : List (Value × Value)
  ix : List Ix
  hM : MemOk w obs
  hF : AllEq fs
  hI : AllIx ix
def k0 {w : World} : Kn w := ⟨[], [], [], trivial, trivial, trivial⟩
section
variable {P : Program} {ops : Array Oper} {a : Act} {w : World} {Q : Exit → Act → World → Prop} {n : Nat} {L : List (Nat × Value)} {md : Region.Mode} {S : World → Prop} {z : Nat}
end
end Go.Proofs.YtnnpokndajpkiaaDoor
