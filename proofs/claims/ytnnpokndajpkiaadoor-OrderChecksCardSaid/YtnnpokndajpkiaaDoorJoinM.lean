import Derived.Test.YtnnpokndajpkiaaDoorJoinH
import Derived.Test.YtnnpokndajpkiaaDoorJoinC
import Derived.Test.YtnnpokndajpkiaaDoorJoinF
import Derived.Test.YtnnpokndajpkiaaDoorJoinA
import Derived.Test.YtnnpokndajpkiaaDoorTopic2
import Derived.Test.YtnnpokndajpkiaaDoorJoinW
import Derived.Test.YtnnpokndajpkiaaDoorJoinQ
import Derived.Test.YtnnpokndajpkiaaDoorLess
namespace Go.Proofs.YtnnpokndajpkiaaDoor
open Go.RowKit
structure Ms where
  topic : ByteArray
  payload : ByteArray
  qos : Nat
  ret : Bool
deriving DecidableEq
def msV (m : Ms) : Array Value := #[.string m.topic, .string m.payload, .int .u8 (m.qos : Int), .bool m.ret]
def Ms.zero : Ms := ⟨e0, e0, 0, false⟩
structure Nt where
  kind : Nat
  op : Int
  conn : Int
  client : ByteArray
  p : Pk
  msg : Ms
  codes : ByteArray
  present : Bool
  qos : Nat
deriving DecidableEq
def Nt.zero : Nt := ⟨0, 0, 0, e0, Pk.zero, Ms.zero, e0, false, 0⟩
def ntV (n : Nt) (a : Option Addr) (c : Nat) : Array Value :=
  #[.int .u8 (n.kind : Int), .int .i64 n.op, .int .i64 n.conn, .string n.client, .int .u8 (n.p.ty : Int), .bool n.p.dup, .int .u8 (n.p.qos : Int), .bool n.p.ret, .int .u16 (n.p.id : Int), .string n.p.topic, .string n.p.payload, .int .u8 (n.p.level : Int), .bool n.p.clean, .int .u16 (n.p.keep : Int), .string n.p.client, .bool n.p.hasWill, .string n.p.wtopic, .string n.p.wpayload, .int .u8 (n.p.wqos : Int), .bool n.p.wret, .bool n.p.hasUser, .bool n.p.hasPass, .string n.p.user, .string n.p.pass, .bool n.p.present, .int .u8 (n.p.code : Int), .slice a n.p.subs.length c, .string n.p.codes,
    .string n.msg.topic, .string n.msg.payload, .int .u8 (n.msg.qos : Int), .bool n.msg.ret, .string n.codes, .bool n.present, .int .u8 (n.qos : Int)]
theorem infoMs : (Tryd.prog.info? 37).map (·.size) = some 4 := by kernel_rfl
theorem infoMsR : (Tryd.prog.info? 37).map (fun i => (i.zero, i.size, i.bytes)) = some (some (.agg (msV Ms.zero)), 4, 40) := by kernel_rfl
theorem infoNt : (Tryd.prog.info? 53).map (·.size) = some 35 := by kernel_rfl
theorem infoNtR : (Tryd.prog.info? 53).map (fun i => (i.zero, i.size, i.bytes)) = some (some (.agg (ntV Nt.zero none 0)), 35, 304) := by kernel_rfl
theorem ms_one (m : Ms) : (msV m).all (·.oneCell') = true := by kernel_rfl
theorem nt_one (n : Nt) (a : Option Addr) (c : Nat) : (ntV n a c).all (·.oneCell') = true := by kernel_rfl
end Go.Proofs.YtnnpokndajpkiaaDoor
namespace Go.Proofs.YtnnpokndajpkiaaDoor
open Go.RowKit
structure KeyF (P : Program) (kt : TypeId) {α : Type} [DecidableEq α] (f : α → Value) (d : TypeDesc) : Prop where
  und : P.underlying kt = some d
  same : ∀ a b, Instr.sameNow d (f a) (f b) = some (decide (a = b))
  flat : (match d with | .interface _ | .array _ _ | .struct _ => false | _ => true) = true
  bits : ∀ a, Instr.sameBits 10000 (f a) (f a) = true
section
variable {P : Program} {α : Type} {f : α → Value} {kt : TypeId} {d : TypeDesc}
def kvE (e : MapEntry) : Value × Value := (e.key, e.val)
def fkE (f : α → Value) (x : α × Value) : Value × Value := (f x.1, x.2)
def MapAt (w : World) (b : Nat) (f : α → Value) (es : List (α × Value)) : Prop := ∃ (arr : Array MapEntry) (c : Nat), w.heap[b]? = some (.map arr c) ∧ arr.toList.map kvE = es.map (fkE f)
theorem MapAt.lt {w : World} {b : Nat} {es : List (α × Value)} (h : MapAt w b f es) : b < w.heap.size := by
  obtain ⟨arr, c, h1, _⟩ := h; exact (Array.getElem?_eq_some_iff.1 h1).1
theorem MapAt.only {F : Nat → Prop} {w w' : World} {b : Nat} {es : List (α × Value)} (h : MapAt w b f es) (k : Only F w w') (hF : ¬ F b) : MapAt w' b f es := by
  have hlt := h.lt; obtain ⟨arr, c, h1, h2⟩ := h; exact ⟨arr, c, by rw [k.block b hlt hF]; exact h1, h2⟩
theorem MapAt.below {w w' : World} {b : Nat} {es : List (α × Value)} (h : MapAt w b f es) (k : Below w.heap.size w w') : MapAt w' b f es := h.only (Only.of_below k (fun _ => False)) (fun h => h)
theorem run_getMap {w : World} {b : Nat} {arr : Array MapEntry} {c : Nat} (h : w.heap[b]? = some (.map arr c)) : (getObj b).run P w = .ok (.map arr c) w := by
  unfold getObj; simp [Sem.run, h]
theorem run_setMap {w : World} {b : Nat} {arr : Array MapEntry} {c : Nat} (h : w.heap[b]? = some (.map arr c)) (o : Obj) : (setObj b o).run P w = .ok () { w with heap := w.heap.setIfInBounds b o } := by
  unfold setObj; simp [Sem.run, h]
theorem only_setObj (w : World) (b : Nat) (o : Obj) : Only (fun j => j = b) w { w with heap := w.heap.setIfInBounds b o } :=
  ⟨rfl, rfl, rfl, by simp, fun k _ hk => by
    show (w.heap.setIfInBounds b o)[k]? = _; rw [Array.getElem?_setIfInBounds]; rw [if_neg (fun e => hk e.symm)]⟩
variable [DecidableEq α]
def findE : List (α × Value) → α → Nat → Option (Nat × Value)
  | [], _, _ => none
  | (k, v) :: r, a, i => if a = k then some (i, v) else findE r a (i + 1)
def getE : List (α × Value) → α → Option Value
  | [], _ => none
  | (k, v) :: r, a => if a = k then some v else getE r a
def putE : List (α × Value) → α → Value → List (α × Value)
  | [], a, v => [(a, v)]
  | (k, u) :: r, a, v => if a = k then (a, v) :: r else (k, u) :: putE r a v
def delE : List (α × Value) → α → List (α × Value)
  | [], _ => []
  | (k, u) :: r, a => if a = k then r else (k, u) :: delE r a
theorem findE_get : ∀ (es : List (α × Value)) (a : α) (i : Nat), (findE es a i).map (·.2) = getE es a
  | [], _, _ => rfl
  | (k, v) :: r, a, i => by
    simp only [findE, getE]; split
    · rfl
    · exact findE_get r a (i + 1)
theorem findNow_E (K : KeyF P kt f d) : ∀ (l : List MapEntry) (es : List (α × Value)) (a : α) (i : Nat), l.map kvE = es.map (fkE f) → Instr.findNow d (f a) l i = some (findE es a i)
  | [], [], _, _, _ => rfl
  | [], _ :: _, _, _, h => by cases h
  | _ :: _, [], _, _, h => by cases h
  | e :: l, (k, v) :: r, a, i, h => by
    simp only [List.map_cons, List.cons.injEq, kvE, fkE, Prod.mk.injEq] at h; obtain ⟨⟨h1, h2⟩, h3⟩ := h; simp only [Instr.findNow, findE, h1, K.same]; by_cases e : a = k
    · rw [if_pos e, decide_eq_true e, h2]
    · rw [if_neg e, decide_eq_false e]
      exact findNow_E K l r a (i + 1) h3
theorem put_E (v : Value) : ∀ (l : List MapEntry) (es : List (α × Value)) (a : α) (i0 i : Nat) (u : Value), l.map kvE = es.map (fkE f) → findE es a i0 = some (i, u) → i0 ≤ i ∧ (l[i - i0]?).map (·.key) = some (f a) ∧ (l.modify (i - i0) fun e => { e with key := f a, val := v }).map kvE = (putE es a v).map (fkE f)
  | [], [], _, _, _, _, _, h2 => by cases h2
  | [], _ :: _, _, _, _, _, h, _ => by cases h
  | _ :: _, [], _, _, _, _, h, _ => by cases h
  | e :: l, (k, w) :: r, a, i0, i, u, h, h2 => by
    simp only [List.map_cons, List.cons.injEq] at h; obtain ⟨h1, h3⟩ := h; simp only [findE] at h2; split at h2
    · rename_i hak
      injection h2 with h2
      injection h2 with h4 h5
      subst h4; refine ⟨Nat.le_refl _, ?_, ?_⟩
      · rw [Nat.sub_self]
        simp only [kvE, fkE, Prod.mk.injEq] at h1; simp [h1.1, hak]
      · rw [Nat.sub_self]
        simp only [putE, if_pos hak, List.modify_zero_cons, List.map_cons, h3]; rfl
    · rename_i hak
      obtain ⟨h4, h5, h6⟩ := put_E v l r a (i0 + 1) i u h3 h2; have e1 : i - i0 = (i - (i0 + 1)) + 1 := by omega
      refine ⟨by omega, ?_, ?_⟩
      · rw [e1, List.getElem?_cons_succ]; exact h5
      · rw [e1]
        simp only [putE, if_neg hak, List.modify_succ_cons, List.map_cons, h6, h1]
theorem push_E (v : Value) (c : Nat) : ∀ (l : List MapEntry) (es : List (α × Value)) (a : α) (i0 : Nat), l.map kvE = es.map (fkE f) → findE es a i0 = none → (l ++ [({ key := f a, val := v, born := c } : MapEntry)]).map kvE = (putE es a v).map (fkE f)
  | [], [], _, _, _, _ => rfl
  | [], _ :: _, _, _, h, _ => by cases h
  | _ :: _, [], _, _, h, _ => by cases h
  | e :: l, (k, w) :: r, a, i0, h, h2 => by
    simp only [List.map_cons, List.cons.injEq] at h; obtain ⟨h1, h3⟩ := h; simp only [findE] at h2; split at h2
    · cases h2
    · rename_i hak
      simp only [List.cons_append, List.map_cons, putE, if_neg hak, h1]; rw [push_E v c l r a (i0 + 1) h3 h2]
theorem del_E : ∀ (l : List MapEntry) (es : List (α × Value)) (a : α) (i0 i : Nat) (u : Value), l.map kvE = es.map (fkE f) → findE es a i0 = some (i, u) → i0 ≤ i ∧ i - i0 < l.length ∧ (l.eraseIdx (i - i0)).map kvE = (delE es a).map (fkE f)
  | [], [], _, _, _, _, _, h2 => by cases h2
  | [], _ :: _, _, _, _, _, h, _ => by cases h
  | _ :: _, [], _, _, _, _, h, _ => by cases h
  | e :: l, (k, w) :: r, a, i0, i, u, h, h2 => by
    simp only [List.map_cons, List.cons.injEq] at h; obtain ⟨h1, h3⟩ := h; simp only [findE] at h2; split at h2
    · rename_i hak
      injection h2 with h2
      injection h2 with h4 h5
      subst h4; refine ⟨Nat.le_refl _, by simp, ?_⟩; rw [Nat.sub_self]; simp only [delE, if_pos hak, List.eraseIdx_cons_zero, h3]
    · rename_i hak
      obtain ⟨h4, h5, h6⟩ := del_E l r a (i0 + 1) i u h3 h2; have e1 : i - i0 = (i - (i0 + 1)) + 1 := by omega
      refine ⟨by omega, by rw [List.length_cons]; omega, ?_⟩; rw [e1]; simp only [delE, if_neg hak, List.eraseIdx_cons_succ, List.map_cons, h6, h1]
theorem del_none : ∀ (es : List (α × Value)) (a : α) (i0 : Nat), findE es a i0 = none → delE es a = es
  | [], _, _, _ => rfl
  | (k, w) :: r, a, i0, h => by
    simp only [findE] at h; split at h
    · cases h
    · rename_i hak
      simp only [delE, if_neg hak]; rw [del_none r a (i0 + 1) h]
theorem run_checkK (K : KeyF P kt f d) (em : Bool) (a : α) (w : World) : (Instr.checkKey em 10000 kt (f a)).run P w = .ok () w := by
  have hu := K.und; have hfl := K.flat; show (Instr.checkKey em (9999 + 1) kt (f a)).run P w = _; unfold Instr.checkKey; simp only [Sem.run_bind, run_underlying hu, Result.andThen_ok]; cases d <;> first | rfl | cases hfl
theorem run_findK (K : KeyF P kt f d) {l : List MapEntry} {es : List (α × Value)} (h : l.map kvE = es.map (fkE f)) (a : α) (w : World) : (Instr.findKey kt (f a) l).run P w = .ok (findE es a 0) w := by
  unfold Instr.findKey; simp only [Sem.run_bind, run_underlying K.und, Result.andThen_ok, findNow_E K l es a 0 h, Sem.run_pure]
theorem run_lookupE (K : KeyF P kt f d) {T et : TypeId} (hT : P.underlying T = some (.map kt et)) {w : World} {b : Nat} {es : List (α × Value)} (h : MapAt w b f es) (a : α) {z : Value} (hz : (zeroValue et).run P w = .ok z w) :
    (Instr.lookup T (.map (some b)) (f a) false).run P w = .ok ((getE es a).getD z) w := by
  obtain ⟨arr, c, h1, h2⟩ := h; have hg := findE_get es a 0; unfold Instr.lookup; simp only [Sem.run_bind, run_underlying hT, Result.andThen_ok, run_getMap h1, Sem.run_pure, run_checkK K, run_findK K h2]; cases hf : findE es a 0 with
  | none =>
    rw [hf] at hg; simp only [Sem.run_bind, hz, Result.andThen_ok, Sem.run_pure, ← hg]; rfl
  | some x =>
    obtain ⟨i, v⟩ := x; rw [hf] at hg; simp only [← hg]; rfl
theorem run_mapUpdateE (K : KeyF P kt f d) {T et : TypeId} (hT : P.underlying T = some (.map kt et)) {w : World} {b : Nat} {es : List (α × Value)} (h : MapAt w b f es) (a : α) (v : Value) :
    ∃ w', (Instr.mapUpdate T (.map (some b)) (f a) v).run P w = .ok () w' ∧ MapAt w' b f (putE es a v) ∧ Only (fun j => j = b) w w' := by
  have hlt := h.lt; obtain ⟨arr, c, h1, h2⟩ := h; unfold Instr.mapUpdate; simp only [Sem.run_bind, run_underlying hT, Result.andThen_ok, run_getMap h1, run_checkK K, run_findK K h2]; cases hf : findE es a 0 with
  | none =>
    refine ⟨_, run_setMap h1 _, ⟨arr.push { key := f a, val := v, born := c }, c + 1, ?_, ?_⟩, only_setObj _ _ _⟩
    · show (w.heap.setIfInBounds b _)[b]? = _
      rw [Array.getElem?_setIfInBounds_self_of_lt hlt]
    · rw [Array.toList_push]
      exact push_E v c _ _ a 0 h2 hf
  | some x =>
    obtain ⟨i, u⟩ := x; obtain ⟨_, h3, h4⟩ := put_E v _ _ a 0 i u h2 hf; rw [Nat.sub_zero] at h3 h4; have h5 : ((arr[i]?).map (·.key)).getD (f a) = f a := by
      rw [← Array.getElem?_toList, h3]; rfl
    have h6 : (Instr.keyThatStays (f a) (f a)).run P w = .ok (f a) w := by
      unfold Instr.keyThatStays; rw [if_pos (K.bits a)]; rfl
    simp only [h5, Sem.run_bind, h6, Result.andThen_ok]; refine ⟨_, run_setMap h1 _, ⟨arr.modify i fun e => { e with key := f a, val := v }, c, ?_, ?_⟩, only_setObj _ _ _⟩
    · show (w.heap.setIfInBounds b _)[b]? = _
      rw [Array.getElem?_setIfInBounds_self_of_lt hlt]
    · rw [Array.toList_modify]
      exact h4
theorem run_deleteE (K : KeyF P kt f d) {T et : TypeId} (hT : P.underlying T = some (.map kt et)) {w : World} {b : Nat} {es : List (α × Value)} (h : MapAt w b f es) (a : α) (ty kt2 : TypeId) :
    ∃ w', (Builtin.delete_ #[T, kt2] ty #[.map (some b), f a]).run P w = .ok (.tuple #[]) w' ∧ MapAt w' b f (delE es a) ∧ Only (fun j => j = b) w w' := by
  have hlt := h.lt; obtain ⟨arr, c, h1, h2⟩ := h; unfold Builtin.delete_; simp only [List.getElem?_toArray, List.getElem?_cons_zero, List.getElem?_cons_succ, Sem.run_bind, run_underlying hT, Result.andThen_ok, run_getMap h1, run_checkK K, run_findK K h2]; cases hf : findE es a 0 with
  | none =>
    refine ⟨{ w with heap := w.heap.setIfInBounds b (.map arr c) }, by simp only [Sem.run_bind, run_setMap h1, Result.andThen_ok, Sem.run_pure], ⟨arr, c, ?_, ?_⟩, only_setObj _ _ _⟩
    · show (w.heap.setIfInBounds b _)[b]? = _
      rw [Array.getElem?_setIfInBounds_self_of_lt hlt]
    · rw [del_none es a 0 hf]; exact h2
  | some x =>
    obtain ⟨i, u⟩ := x; obtain ⟨_, h3, h4⟩ := del_E _ _ a 0 i u h2 hf; rw [Nat.sub_zero] at h3 h4; refine ⟨{ w with heap := w.heap.setIfInBounds b (.map (arr.eraseIdxIfInBounds i) c) }, by simp only [Sem.run_bind, run_setMap h1, Result.andThen_ok, Sem.run_pure], ⟨arr.eraseIdxIfInBounds i, c, ?_, ?_⟩, only_setObj _ _ _⟩
    · show (w.heap.setIfInBounds b _)[b]? = _
      rw [Array.getElem?_setIfInBounds_self_of_lt hlt]
    · rw [← h4]
      unfold Array.eraseIdxIfInBounds; have h3' : i < arr.size := by simpa using h3
      rw [dif_pos h3', Array.toList_eraseIdx]
end
section
variable {P : Program} {ops : Array Oper} {rest : List Oper} {a : Act} {w : World} {Q : Exit → Act → World → Prop} {n : Nat} {L : List (Nat × Value)} {o : Oper} {md : Region.Mode} {S : World → Prop} {z : Nat}
theorem fr_skW (F : FrL n L a) (hg : o.guard = none) (hd : o.dst = none) (w2 : World) (he : ∀ a', FrL n L a' → (execOp a'.eval o).run P w = .ok .skip w2) (k : ∀ a', FrL n L a' → wpList P ops Q rest a' w2) : wpList P ops Q (o :: rest) a w :=
  wpList_plain hg fun K hK => by
    unfold Oper.wp; rw [he a F]; show K (a.put o.dst undef) _; rw [hd]; exact hK _ _ (k _ F)
theorem fr_stepSk (F : FrL n L a) {i m : Nat} {listed : Array Bool} (hi : ops[i]? = some o) (hg : o.guard = none) (hd : o.dst = none) (w2 : World) (he : ∀ a', FrL n L a' → (execOp a'.eval o).run P w = .ok .skip w2) (hS : S w2)
    (k : ∀ a', FrL n L a' → AnyT P md ops Q S z m (listed.setIfInBounds i true) a' w2) (hr : Region.ready md ops listed = [i] := by kernel_rfl) : AnyT P md ops Q S z (m + 1) listed a w := by
  refine AnyT.step hr hi (fun K hK => ?_); rw [if_pos (free_want hg)]; unfold Oper.wp; rw [he a F]; refine hK.out _ _ (fun _ => hS) (fun _ => ?_); rw [hd]; exact k _ F
theorem fr_stepVn (F : FrL n L a) {i m : Nat} {listed : Array Bool} (hi : ops[i]? = some o) (hg : o.guard = none) (hd : o.dst = none) (v : Value) (w2 : World) (he : ∀ a', FrL n L a' → (execOp a'.eval o).run P w = .ok (.value v) w2) (hS : S w2)
    (k : ∀ a', FrL n L a' → AnyT P md ops Q S z m (listed.setIfInBounds i true) a' w2) (hr : Region.ready md ops listed = [i] := by kernel_rfl) : AnyT P md ops Q S z (m + 1) listed a w := by
  refine AnyT.step hr hi (fun K hK => ?_); rw [if_pos (free_want hg)]; unfold Oper.wp; rw [he a F]; refine hK.out _ _ (fun _ => hS) (fun _ => ?_); rw [hd]; exact k _ F
variable {α : Type} [DecidableEq α] {f : α → Value} {kt : TypeId} {d : TypeDesc}
theorem op_lookup (K : KeyF P kt f d) {T et : TypeId} (hT : P.underlying T = some (.map kt et)) {b : Nat} {es : List (α × Value)} (h : MapAt w b f es) (k : α) {zv : Value} (hz : (zeroValue et).run P w = .ok zv w) {ρ : Operand → Value} {x y : Operand} (ho : o.op = .lookup T x y false) (hx : ρ x = .map (some b)) (hy : ρ y = f k) :
    (execOp ρ o).run P w = .ok (.value ((getE es k).getD zv)) w := by
  unfold execOp; simp only [ho, hx, hy, Sem.run_bind, run_lookupE K hT h k hz, Result.andThen_ok, Sem.run_pure]
theorem op_update (K : KeyF P kt f d) {T et : TypeId} (hT : P.underlying T = some (.map kt et)) {b : Nat} {es : List (α × Value)} (h : MapAt w b f es) (k : α) (v : Value) : ∃ w', MapAt w' b f (putE es k v) ∧ Only (fun j => j = b) w w' ∧
    ∀ {o : Oper} {ρ : Operand → Value} {x y u : Operand}, o.op = .mapUpdate T x y u ∨ o.op = .insert T x y u → ρ x = .map (some b) → ρ y = f k → ρ u = v → (execOp ρ o).run P w = .ok .skip w' := by
  obtain ⟨w', h1, h2, h3⟩ := run_mapUpdateE K hT h k v; refine ⟨w', h2, h3, ?_⟩; intro o ρ x y u ho hx hy hu; unfold execOp; rcases ho with ho | ho <;> simp only [ho, hx, hy, hu, Sem.run_bind, h1, Result.andThen_ok, Sem.run_pure]
theorem op_delete (K : KeyF P kt f d) {T et : TypeId} (hT : P.underlying T = some (.map kt et)) {b : Nat} {es : List (α × Value)} (h : MapAt w b f es) (k : α) (kt2 : TypeId) : ∃ w', MapAt w' b f (delE es k) ∧ Only (fun j => j = b) w w' ∧
    ∀ {o : Oper} {ρ : Operand → Value} {x y : Operand}, o.op = .call { callee := .builtin .delete, args := #[x, y], argTypes := #[T, kt2] } → ρ x = .map (some b) → ρ y = f k → (execOp ρ o).run P w = .ok (.value (.tuple #[])) w' := by
  obtain ⟨w', h1, h2, h3⟩ := run_deleteE K hT h k 0 kt2; refine ⟨w', h2, h3, ?_⟩; intro o ρ x y ho hx hy; unfold execOp; simp only [ho, resolve, invoke, builtin, Sem.run_bind, Sem.run_pure, Result.andThen_ok, List.map_toArray, List.map_cons, List.map_nil, hx, hy]; have h4 : (Builtin.delete_ #[T, kt2] o.type #[.map (some b), f k]).run P w = .ok (.tuple #[]) w' := h1; simp only [h4, Result.andThen_ok]
end
theorem ba_beq (a b : ByteArray) : (a == b) = true ↔ a = b := by
  obtain ⟨x⟩ := a; obtain ⟨y⟩ := b; constructor
  · intro h
    have e : x = y := by simpa using (show (x == y) = true from h)
    rw [e]
  · intro h
    injection h with h
    subst h; show (x == x) = true; simp
theorem key_string {P : Program} {kt : TypeId} (h : P.underlying kt = some .string) : KeyF P kt Value.string .string := ⟨h, fun a b => by
  show some (a == b) = some (decide (a = b)); by_cases e : a = b
  · rw [decide_eq_true e, (ba_beq a b).2 e]
  · rw [decide_eq_false e, Bool.eq_false_iff.2 (fun h => e ((ba_beq a b).1 h))], rfl, fun a => by
  show (a == a) = true; exact (ba_beq a a).2 rfl⟩
theorem key_int {P : Program} {kt : TypeId} {q : IntKind} (h : P.underlying kt = some (.int q)) : KeyF P kt (fun i : Int => Value.int q i) (.int q) := ⟨h, fun a b => by
  show (if q = q then some (a == b) else none) = some (decide (a = b)); rw [if_pos rfl]; by_cases e : a = b
  · subst e; simp
  · rw [decide_eq_false e, beq_eq_false_iff_ne.2 e], rfl, fun a => by
  show (q == q && a == a) = true; rw [beq_self_eq_true a]; cases q <;> rfl⟩
end Go.Proofs.YtnnpokndajpkiaaDoor
namespace Go.Proofs.YtnnpokndajpkiaaDoor
def mayM (m : Ms) : Bool := nameL (bl m.topic) && decide (m.qos ≤ 2)
structure Se where
  conn : Int
  clean : Bool
  S : List Sb
abbrev Sess := ByteArray → Option Se
def updS (σ : Sess) (c : ByteArray) (x : Option Se) : Sess := fun d => if d = c then x else σ d
def setAll (S : List Sb) : List Sb → List Nat × List Sb
  | [] => ([], S)
  | x :: r => ((setS S x.1 x.2).1 :: (setAll (setS S x.1 x.2).2 r).1, (setAll (setS S x.1 x.2).2 r).2)
def dropAll (S : List Sb) (T : List Sb) : List Sb := T.foldl (fun S x => delS S (bl x.1)) S
def codesS (l : List Nat) : ByteArray := ⟨(l.map UInt8.ofNat).toArray⟩
def applyS (σ : Sess) (n : Nt) : (ByteArray × Bool × Bool) × Sess :=
  if n.kind = 5 then ((e0, false, mayM n.msg), σ)
  else if n.kind ≠ 2 then ((e0, false, true), σ)
  else if n.p.ty = 1 then
    if n.conn < 1 ∨ (∃ s, σ n.client = some s ∧ 0 < s.conn) then ((e0, false, false), σ)
    else match σ n.client with
      | some s => if s.clean = false ∧ n.p.clean = false then ((e0, true, true), updS σ n.client (some ⟨n.conn, n.p.clean, s.S⟩)) else ((e0, false, true), updS σ n.client (some ⟨n.conn, n.p.clean, []⟩))
      | none => ((e0, false, true), updS σ n.client (some ⟨n.conn, n.p.clean, []⟩))
  else match σ n.client with
    | none => ((e0, false, false), σ)
    | some s =>
      if n.conn < 1 ∨ s.conn ≠ n.conn then ((e0, false, false), σ)
      else if n.p.ty = 8 then ((codesS (setAll s.S n.p.subs).1, false, true), updS σ n.client (some { s with S := (setAll s.S n.p.subs).2 }))
      else if n.p.ty = 10 then ((e0, false, true), updS σ n.client (some { s with S := dropAll s.S n.p.subs }))
      else if n.p.ty = 14 ∨ n.p.ty = 0 then ((e0, false, true), updS σ n.client (if s.clean then none else some { s with conn := 0 }))
      else ((e0, false, false), σ)
end Go.Proofs.YtnnpokndajpkiaaDoor
namespace Go.Proofs.YtnnpokndajpkiaaDoor
open Go.RowKit
theorem keyS : KeyF Tryd.prog 9 Value.string .string := key_string Tryd.underlying9
set_option maxRecDepth 100000 in
set_option maxHeartbeats 4000000 in
theorem keep_May (m : Ms) (w : World) (hE : Env w) (hq : m.qos < 256) (ht : m.topic.size < 4294967281) : Calls Tryd.prog 118 #[.agg (msV m)] w fun e w' => e = .returned (.bool (mayM m)) ∧ Below w.heap.size w w' := by
  obtain ⟨RR, hRR⟩ : ∃ RR : Ending → World → Prop, RR = fun e w' => e = .returned (.bool (mayM m)) ∧ Below w.heap.size w w' := ⟨_, rfl⟩
  have FIN := Lib.hid (show ∀ b w', b = mayM m → Below w.heap.size w w' → RR (.returned (.bool b)) w' from fun b w' h1 hb => by rw [hRR, h1]; exact ⟨rfl, hb⟩); rw [← hRR]; have HN := Lib.hid (show ∀ w9, Env w9 → Calls Tryd.prog 127 #[.string m.topic] w9 fun e w' => e = .returned (.bool (nameL (bl m.topic))) ∧ Below w9.heap.size w9 w' from fun w9 h => topic_Name m.topic w9 h ht); obtain ⟨w9, hw9⟩ : ∃ w9, w9 = w := ⟨_, rfl⟩
  have HK : Keep w [] [] w9 := by rw [hw9]; exact Keep.begin hE _ (by intro r hr; cases hr)
  suffices hgo : Calls Tryd.prog 118 #[.agg (msV m)] w9 RR by rw [hw9] at hgo; exact hgo
  clear hw9 hRR hE; go_enter Tryd.func118, Tryd.ntmps118
  refine wp_forget (n := 11) (L := [(0, .agg (msV m))]) (FrL.add (FrL.nil ?_ ?_) _ _ ?_) ?_; iterate 3 rfl
  intro a9 F; refine xR ?_; refine fr_box F HK 1 (by decide) rfl 37 _ rfl rfl (msV m) (fun a' F' => F'.ev 0 rfl) ?_; rintro X a10 w10 hX F' HK' hb; clear HK F hb hX; clear a9 w9; rename World => w9
  rename Act => a9
  have HK := HK'; have F := F'; clear HK' F'; replace HK : Keep w [(X, (msV m), 37)] [] w9 := HK; refine xE F k0 [.c] [(1, pQ X 0)] ?_; clear F a9; intro a9 F; obtain ⟨nb, hnb⟩ : ∃ nb, nameL (bl m.topic) = nb := ⟨_, rfl⟩
  have HNB := Lib.hid hnb; rw [hnb] at HN; clear hnb; cases nb
  ·
   refine xR ?_; refine xP F (kO [⟨X, 0, [.string m.topic]⟩] ⟨one_cell ((HK.at 0 rfl).cells 0), trivial⟩) [.c, .l 0 0] [(4, .string m.topic), (1, pQ X 0)] ?_; clear F a9; intro a9 F; refine fr_call F (wanted_free rfl) 5 rfl (by decide) 127 #[.string m.topic] (by intro a' F'; have h4 := F'.at' 4 _ rfl; go_simp) (HN.out _ HK.env) ?_; rintro e9 w8 ⟨rfl, hb8⟩; replace HK := HK.below hb8; clear hb8; clear w9; rename World => w9
   refine ⟨_, rfl, ?_⟩; clear F a9; intro a9 F; refine xE F k0 (xC 6 []) [(2, .bool false)] ?_; clear F a9; intro a9 F; refine wp_ret ?_; exact fr_ret1 F rfl _ rfl (FIN.out _ _ (by unfold mayM; rw [HNB.out]; rfl) HK.low)
  ·
   refine xR ?_; refine xP F (kO [⟨X, 0, [.string m.topic]⟩] ⟨one_cell ((HK.at 0 rfl).cells 0), trivial⟩) [.c, .l 0 0] [(4, .string m.topic), (1, pQ X 0)] ?_; clear F a9; intro a9 F; refine fr_call F (wanted_free rfl) 5 rfl (by decide) 127 #[.string m.topic] (by intro a' F'; have h4 := F'.at' 4 _ rfl; go_simp) (HN.out _ HK.env) ?_; rintro e9 w8 ⟨rfl, hb8⟩; replace HK := HK.below hb8; clear hb8; clear w9; rename World => w9
   refine ⟨_, rfl, ?_⟩; clear F a9; intro a9 F; refine xP F (kO [⟨X, 2, [.int .u8 (m.qos : Int)]⟩] ⟨one_cell ((HK.at 0 rfl).cells 2), trivial⟩) [.c, .c, .l 0 0] [(8, .int .u8 (m.qos : Int)), (6, .bool true)] ?_; clear F a9; intro a9 F; refine fr_do F (by rw [wanted_at F rfl (t := 6) (b := true) (by kernel_rfl) rfl]; rfl) 9 rfl (by decide) (.bool (decide (m.qos ≤ 2))) (by intro a' F'; have h8 := F'.at' 8 _ rfl; go_simp <;> first | rfl | omega | (rw [IntKind.wrap_i64]; omega) | (rw [IntKind.wrap_u8]; omega) | (intro hcon; exfalso; omega) | (rw [Bool.eq_iff_iff]; simp; omega) | (rw [decide_eq_decide]; omega) | (congr 1; omega) | (congr 2; omega) | (rw [if_pos (by omega)]; congr 4 <;> omega) | (rw [if_pos (by omega), if_pos (by omega)]; congr 4 <;> omega)) ?_; clear F a9; intro a9 F; refine xE F k0 [.c, .c] [(2, .bool (decide (m.qos ≤ 2)))] ?_; clear F a9; intro a9 F; refine wp_ret ?_; exact fr_ret1 F rfl _ rfl (FIN.out _ _ (by unfold mayM; rw [HNB.out]; rfl) HK.low)
set_option maxRecDepth 100000 in
set_option maxHeartbeats 4000000 in
theorem keep_New (w : World) (hE : Env w) : Calls Tryd.prog 45 #[] w fun e w' => ∃ K KM, e = .returned (.pointer (some ⟨K, 0, none⟩)) ∧ BoxAt w' K #[.map (some KM)] 134 ∧ MapAt w' KM Value.string [] ∧ Below w.heap.size w w' ∧ w.heap.size ≤ K ∧ w.heap.size ≤ KM ∧ K ≠ KM := by
  obtain ⟨RR, hRR⟩ : ∃ RR : Ending → World → Prop, RR = fun e w' => ∃ K KM, e = .returned (.pointer (some ⟨K, 0, none⟩)) ∧ BoxAt w' K #[.map (some KM)] 134 ∧ MapAt w' KM Value.string [] ∧ Below w.heap.size w w' ∧ w.heap.size ≤ K ∧ w.heap.size ≤ KM ∧ K ≠ KM := ⟨_, rfl⟩
  have FIN := Lib.hid (show ∀ w' K KM, BoxAt w' K #[.map (some KM)] 134 → MapAt w' KM Value.string [] → Below w.heap.size w w' → w.heap.size ≤ K → w.heap.size ≤ KM → K ≠ KM → RR (.returned (.pointer (some ⟨K, 0, none⟩))) w' from fun w' K KM h1 h2 h3 h4 h5 h6 => by rw [hRR]; exact ⟨K, KM, rfl, h1, h2, h3, h4, h5, h6⟩); rw [← hRR]; obtain ⟨w9, hw9⟩ : ∃ w9, w9 = w := ⟨_, rfl⟩
  have HK : Keep w [] [] w9 := by rw [hw9]; exact Keep.begin hE _ (by intro r hr; cases hr)
  suffices hgo : Calls Tryd.prog 45 #[] w9 RR by rw [hw9] at hgo; exact hgo
  clear hw9 hRR hE; go_enter Tryd.func45, Tryd.ntmps45
  refine wp_forget (n := 4) (L := []) (FrL.nil ?_ ?_) ?_; iterate 2 rfl
  intro a9 F; refine xG F k0 [.c] [(0, .pointer none)] ?_; clear F a9; intro a9 F; replace F : FrL 4 [] a9 := FrL.nil F.size F.defers; refine xR ?_; refine fr_doW F (wanted_free rfl) 1 rfl (by decide) (.map (some w9.heap.size)) (w9.alloc (.map #[] 0)) (fun a' F' => rfl) ?_; clear F a9; intro a9 F; have hb8 : Below w9.heap.size w9 (w9.alloc (.map #[] 0)) := (Below.refl _ _).alloc (Nat.le_refl _) _; have HM : MapAt (w9.alloc (.map #[] 0)) w9.heap.size Value.string [] := ⟨#[], 0, heap_alloc_new w9 _, rfl⟩
  have hlow := HK.low.size; replace HK := HK.below hb8; obtain ⟨KM, hKM⟩ : ∃ KM, w9.heap.size = KM := ⟨_, rfl⟩
  rw [hKM] at HM F hlow; clear hb8 hKM; generalize w9.alloc (.map #[] 0) = w8 at *; clear w9; rename World => w9
  refine fr_do F (wanted_free rfl) 2 rfl (by decide) (.agg #[.map (some KM)]) (by intro a' F'; have g1 := F'.get 1 rfl; exact run_build_to rfl (by simp only [List.map_toArray, List.map_cons, List.map_nil, Act.eval, g1]; kernel_rfl)) ?_; clear F a9; intro a9 F; refine fr_box F HK 3 (by decide) rfl 134 _ rfl rfl #[.map (some KM)] (fun a' F' => F'.ev 2 rfl) ?_; have hlt := HM.lt; rintro K a10 w10 hX F' HK' hb; replace HM := HM.below hb; have hne : K ≠ KM := by omega
  clear hX HK F hb hlt; clear a9 w9; rename World => w9
  rename Act => a9
  have HK := HK'; have F := F'; clear HK' F'; refine fr_as F (wanted_free rfl) 0 rfl (by decide) 3 rfl rfl ?_; clear F a9; intro a9 F; refine xW ?_; refine wp_ret ?_; exact fr_ret1 F rfl _ rfl (FIN.out _ _ _ (HK.at 0 rfl) HM HK.low (HK.up _ (List.mem_cons_self ..)) hlow hne)
set_option maxRecDepth 100000 in
set_option maxHeartbeats 4000000 in
theorem keep_Set (K KM : Nat) (es : List (ByteArray × Value)) (m : Ms) (w : World) (hE : Env w) (hb : BoxAt w K #[.map (some KM)] 134) (hm : MapAt w KM Value.string es) (hne : K ≠ KM) (hq : m.qos < 256) (ht : m.topic.size < 4294967281) : Calls Tryd.prog 95 #[.pointer (some ⟨K, 0, none⟩), .agg (msV m)] w fun e w' => e = .returned (.bool (mayM m)) ∧ (∃ es', MapAt w' KM Value.string es') ∧ Only (fun j => j = KM) w w' := by
  obtain ⟨RR, hRR⟩ : ∃ RR : Ending → World → Prop, RR = fun e w' => e = .returned (.bool (mayM m)) ∧ (∃ es', MapAt w' KM Value.string es') ∧ Only (fun j => j = KM) w w' := ⟨_, rfl⟩
  have FIN := Lib.hid (show ∀ b w' es', b = mayM m → MapAt w' KM Value.string es' → Only (fun j => j = KM) w w' → RR (.returned (.bool b)) w' from fun b w' es' h1 h2 h3 => by rw [hRR, h1]; exact ⟨rfl, ⟨es', h2⟩, h3⟩); rw [← hRR]; have HMA := Lib.hid (show ∀ w9, Env w9 → Calls Tryd.prog 118 #[.agg (msV m)] w9 fun e w' => e = .returned (.bool (mayM m)) ∧ Below w9.heap.size w9 w' from fun w9 h => keep_May m w9 h hq ht); obtain ⟨w9, hw9⟩ : ∃ w9, w9 = w := ⟨_, rfl⟩
  have HK : Keep w [] [] w9 := by rw [hw9]; exact Keep.begin hE _ (by intro r hr; cases hr)
  have HX : BoxAt w9 K #[.map (some KM)] 134 := by rw [hw9]; exact hb
  have hKlt := hb.lt; have hMlt := hm.lt; have HM : MapAt w9 KM Value.string es := by rw [hw9]; exact hm
  suffices hgo : Calls Tryd.prog 95 #[.pointer (some ⟨K, 0, none⟩), .agg (msV m)] w9 RR by rw [hw9] at hgo; exact hgo
  clear hw9 hRR hE hb hm; go_enter Tryd.func95, Tryd.ntmps95
  refine wp_forget (n := 29) (L := [(1, .agg (msV m)), (0, pQ K 0)]) (FrL.add (FrL.add (FrL.nil ?_ ?_) _ _ ?_) _ _ ?_) ?_; iterate 4 rfl
  intro a9 F; refine xR ?_; refine fr_box F HK 3 (by decide) rfl 37 _ rfl rfl (msV m) (fun a' F' => F'.ev 1 rfl) ?_; rintro B a10 w10 hX F' HK' hb; replace HX := HX.below hb; replace HM := HM.below hb; clear HK F hb hX; clear a9 w9; rename World => w9
  rename Act => a9
  have HK := HK'; have F := F'; clear HK' F'; replace HK : Keep w [(B, (msV m), 37)] [] w9 := HK; refine xE F k0 [.c] [(3, pQ B 0), (0, pQ K 0)] ?_; clear F a9; intro a9 F; obtain ⟨mb, hmb⟩ : ∃ mb, mayM m = mb := ⟨_, rfl⟩
  have HMB := Lib.hid hmb; rw [hmb] at HMA; clear hmb; cases mb
  ·
   refine wp_seq ?_; refine xR ?_; refine xP F k0 (xC 3 []) [(7, .bool false), (3, pQ B 0), (0, pQ K 0)] ?_; clear F a9; intro a9 F; refine fr_do F (by rw [wanted_at F rfl (t := 7) (b := false) (by kernel_rfl) rfl]; rfl) 8 rfl (by decide) (.agg ((msV m))) (by intro a' F'; exact run_load_box rfl (F'.ev 3 rfl) (HK.at 0 rfl) Tryd.underlying37 rfl infoMs) ?_; clear F a9; intro a9 F; refine fr_call F (by rw [wanted_at F rfl (t := 7) (b := false) (by kernel_rfl) rfl]; rfl) 9 rfl (by decide) 118 #[.agg (msV m)] (by intro a' F'; have h8 := F'.at' 8 _ rfl; go_simp) (HMA.out _ HK.env) ?_; rintro e9 w8 ⟨rfl, hb8⟩; replace HK := HK.below hb8; replace HX := HX.below hb8; replace HM := HM.below hb8; clear hb8; clear w9; rename World => w9
   refine ⟨_, rfl, ?_⟩; clear F a9; intro a9 F; refine eT F k0 [.c, .c] 11 [(11, .bool true), (3, pQ B 0), (0, pQ K 0)] ?_; clear F a9; refine xS k0 [.c] [(4, .bool false), (3, pQ B 0), (0, pQ K 0)] ?_; intro a9 F; refine wp_ret ?_; exact fr_ret1 F rfl _ rfl (FIN.out _ _ _ HMB.out.symm HM (Only.of_below HK.low _))
  ·
   refine wp_seq ?_; refine xR ?_; refine xP F k0 (xC 3 []) [(7, .bool false), (3, pQ B 0), (0, pQ K 0)] ?_; clear F a9; intro a9 F; refine fr_do F (by rw [wanted_at F rfl (t := 7) (b := false) (by kernel_rfl) rfl]; rfl) 8 rfl (by decide) (.agg ((msV m))) (by intro a' F'; exact run_load_box rfl (F'.ev 3 rfl) (HK.at 0 rfl) Tryd.underlying37 rfl infoMs) ?_; clear F a9; intro a9 F; refine fr_call F (by rw [wanted_at F rfl (t := 7) (b := false) (by kernel_rfl) rfl]; rfl) 9 rfl (by decide) 118 #[.agg (msV m)] (by intro a' F'; have h8 := F'.at' 8 _ rfl; go_simp) (HMA.out _ HK.env) ?_; rintro e9 w8 ⟨rfl, hb8⟩; replace HK := HK.below hb8; replace HX := HX.below hb8; replace HM := HM.below hb8; clear hb8; clear w9; rename World => w9
   refine ⟨_, rfl, ?_⟩; clear F a9; intro a9 F; refine eF F k0 [.c, .c] 11 [(11, .bool false), (3, pQ B 0), (0, pQ K 0)] ?_; clear F a9; intro a9 F; replace F := F.cut [(3, pQ B 0), (0, pQ K 0)] (by kernel_rfl); have HZ := Lib.hid (show ∀ b, decide (m.payload.size = 0) = b → (m.payload.toList == ([] : List UInt8)) = b from fun b h => by rw [Lib.toList_data, ← h]; show (bl m.payload == []) = _; rw [← bl_len]; cases bl m.payload <;> simp); by_cases hz : m.payload.size = 0
   ·
    have hpe := HZ.out true (decide_eq_true hz); refine wp_seq ?_; refine xR ?_; refine xP F (kO [⟨B, 1, [.string m.payload]⟩] ⟨one_cell ((HK.at 0 rfl).cells 1), trivial⟩) [.c, .l 0 0] [(13, .string m.payload), (3, pQ B 0), (0, pQ K 0)] ?_; clear F a9; intro a9 F; refine fr_do F (wanted_free rfl) 14 rfl (by decide) (.bool true) (by intro a' F'; have h13 := F'.at' 13 _ rfl; go_simp <;> first | rfl | omega | (rw [IntKind.wrap_i64]; omega) | (rw [IntKind.wrap_u8]; omega) | (intro hcon; exfalso; omega) | (rw [Bool.eq_iff_iff]; simp; omega) | (rw [decide_eq_decide]; omega) | (congr 1; omega) | (congr 2; omega) | (rw [if_pos (by omega)]; congr 4 <;> omega) | (rw [if_pos (by omega), if_pos (by omega)]; congr 4 <;> omega)) ?_; clear F a9; intro a9 F; replace F := F.cut [(14, .bool true), (3, pQ B 0), (0, pQ K 0)] (by kernel_rfl); refine xW ?_; refine wp_cond_true (F.ev 14 rfl) ?_; replace F := F.cut [(3, pQ B 0), (0, pQ K 0)] (by kernel_rfl); have hBK : B ≠ KM := by
      intro e; obtain ⟨arr, cc, h1, _⟩ := HM; have h2 := HK.at 0 rfl; unfold BoxAt at h2; rw [e, h1] at h2; cases h2
    refine dR (fun w' => BoxAt w' K #[.map (some KM)] 134 ∧ BoxAt w' B (msV m) 37) (by kernel_rfl) fun w8 hb8 => ?_
    replace HK := HK.below hb8; replace HX := HX.below hb8; replace HM := HM.below hb8; clear hb8 w9; rename World => w9
    refine ⟨⟨HX, HK.at 0 rfl⟩, ?_⟩; refine xPT F [⟨K, 0, [.map (some KM)]⟩, ⟨B, 0, [.string m.topic]⟩] [] [] (xN 0 (xC 3 ([.l 0 0, .c, .l 1 0]))) [(20, .string m.topic), (18, .map (some KM)), (3, pQ B 0), (0, pQ K 0)] ⟨HX, HK.at 0 rfl⟩ (fun w9 hS => ⟨one_cell (hS.1.cells 0), one_cell (hS.2.cells 0), trivial⟩) trivial trivial ?_; clear F a9; intro a9 F; obtain ⟨w7, hm7, ho7, hrun⟩ := op_delete keyS Tryd.underlying132 HM m.topic 9; refine fr_stepVn (i := 6) (o := ⟨none, _, _, _, _, _⟩) F rfl rfl rfl (.tuple #[]) w7 (fun a' F' => hrun rfl (F'.ev 18 rfl) (F'.ev 20 rfl)) ⟨?_, ?_⟩ ?_
    · exact HX.only ho7 hne
    · exact (HK.at 0 rfl).only ho7 (fun e => hBK e)
    have hon := (Only.of_below HK.low (fun j => j = KM)).trans ho7 (fun j _ h => h); clear HM; have HM := hm7; clear F a9; intro a9 F; replace F := F.cut [(3, pQ B 0), (0, pQ K 0)] (by kernel_rfl); refine AnyT.done (by kernel_rfl) ?_ _; refine NoPanic.normal ?_; show Code.wp _ _ _ _ _; refine xG F k0 [.c] [(4, .bool true), (3, pQ B 0), (0, pQ K 0)] ?_; clear F a9; intro a9 F; refine wp_ret ?_; exact fr_ret1 F rfl _ rfl (FIN.out _ _ _ HMB.out.symm HM hon)
   ·
    have hpe := HZ.out false (decide_eq_false hz); refine wp_seq ?_; refine xR ?_; refine xP F (kO [⟨B, 1, [.string m.payload]⟩] ⟨one_cell ((HK.at 0 rfl).cells 1), trivial⟩) [.c, .l 0 0] [(13, .string m.payload), (3, pQ B 0), (0, pQ K 0)] ?_; clear F a9; intro a9 F; refine fr_do F (wanted_free rfl) 14 rfl (by decide) (.bool false) (by intro a' F'; have h13 := F'.at' 13 _ rfl; go_simp <;> first | rfl | omega | (rw [IntKind.wrap_i64]; omega) | (rw [IntKind.wrap_u8]; omega) | (intro hcon; exfalso; omega) | (rw [Bool.eq_iff_iff]; simp; omega) | (rw [decide_eq_decide]; omega) | (congr 1; omega) | (congr 2; omega) | (rw [if_pos (by omega)]; congr 4 <;> omega) | (rw [if_pos (by omega), if_pos (by omega)]; congr 4 <;> omega)) ?_; clear F a9; intro a9 F; replace F := F.cut [(14, .bool false), (3, pQ B 0), (0, pQ K 0)] (by kernel_rfl); refine xW ?_; refine wp_cond_false (F.ev 14 rfl) ?_; refine xK ?_; replace F := F.cut [(3, pQ B 0), (0, pQ K 0)] (by kernel_rfl); have hup := HK.up _ (List.mem_cons_self ..); simp only at hup
    have hKB : ¬ K = B := by omega
    have hMB : ¬ KM = B := by omega
    clear hup; refine xR ?_; refine xP F k0 [.c] [(21, pQ B 3), (3, pQ B 0), (0, pQ K 0)] ?_; clear F a9; intro a9 F; refine fr_putO F HK 0 rfl rfl rfl 4 _ _ rfl 3 (.bool true) (fun a' F' => F'.ev 21 rfl) (fun a' F' => rfl) z_bool (Nat.le_of_ble_eq_true (by kernel_rfl)) (by kernel_rfl) ?_; intro a10 w10 F' HK' HO; replace HX := HX.only HO hKB; replace HM := HM.only HO hMB; clear HK F HO; clear a9 w9; rename World => w9
    rename Act => a9
    have HK := HK'; have F := F'; clear HK' F'; replace HK : Keep w [(B, (msV { m with ret := true }), 37)] [] w9 := HK; replace F := F.cut [(3, pQ B 0), (0, pQ K 0)] (by kernel_rfl); refine xW ?_; have hBK : B ≠ KM := by
      intro e; obtain ⟨arr, cc, h1, _⟩ := HM; have h2 := HK.at 0 rfl; unfold BoxAt at h2; rw [e, h1] at h2; cases h2
    refine dR (fun w' => BoxAt w' K #[.map (some KM)] 134 ∧ BoxAt w' B (msV { m with ret := true }) 37) (by kernel_rfl) fun w8 hb8 => ?_
    replace HK := HK.below hb8; replace HX := HX.below hb8; replace HM := HM.below hb8; clear hb8 w9; rename World => w9
    refine ⟨⟨HX, HK.at 0 rfl⟩, ?_⟩; refine xPT F [⟨K, 0, [.map (some KM)]⟩, ⟨B, 0, [.string m.topic]⟩] [] [] (xN 0 (xC 3 ([.l 0 0, .c, .l 1 0]))) [(27, .string m.topic), (25, .map (some KM)), (3, pQ B 0), (0, pQ K 0)] ⟨HX, HK.at 0 rfl⟩ (fun w9 hS => ⟨one_cell (hS.1.cells 0), one_cell (hS.2.cells 0), trivial⟩) trivial trivial ?_; clear F a9; intro a9 F; refine fr_takeG (i := 6) (o := ⟨some 28, _, _, _, _, _⟩) F ⟨HX, HK.at 0 rfl⟩ rfl (wanted_free rfl) 28 rfl (by decide) (.agg (msV { m with ret := true })) (fun w9 hS => (by intro a' F'; exact run_load_box rfl (F'.ev 3 rfl) hS.2 Tryd.underlying37 rfl infoMs)) ?_; clear F a9; intro a9 F; obtain ⟨w7, hm7, ho7, hrun⟩ := op_update keyS Tryd.underlying132 HM m.topic (.agg (msV { m with ret := true })); refine fr_stepSk (i := 7) (o := ⟨none, _, _, _, _, _⟩) F rfl rfl rfl w7 (fun a' F' => hrun (Or.inl rfl) (F'.ev 25 rfl) (F'.ev 27 rfl) (F'.ev 28 rfl)) ⟨?_, ?_⟩ ?_
    · exact HX.only ho7 hne
    · exact (HK.at 0 rfl).only ho7 (fun e => hBK e)
    have hon := (Only.of_below HK.low (fun j => j = KM)).trans ho7 (fun j _ h => h); clear HM; have HM := hm7; clear F a9; intro a9 F; replace F := F.cut [(3, pQ B 0), (0, pQ K 0)] (by kernel_rfl); refine AnyT.done (by kernel_rfl) ?_ _; refine NoPanic.normal ?_; show Code.wp _ _ _ _ _; refine xG F k0 [.c] [(4, .bool true), (3, pQ B 0), (0, pQ K 0)] ?_; clear F a9; intro a9 F; refine wp_ret ?_; exact fr_ret1 F rfl _ rfl (FIN.out _ _ _ HMB.out.symm HM hon)
end Go.Proofs.YtnnpokndajpkiaaDoor
namespace Go.Proofs.YtnnpokndajpkiaaDoor
open Go.RowKit
structure St where
  client : ByteArray
  s : Nat
  g : Nat
  v : Value
  conn : Int
  clean : Bool
  S : List Sb
def stV (x : St) : Array Value := #[.pointer (some ⟨x.g, 0, none⟩), .int .i64 x.conn, .bool x.clean]
def FootS (x : St) (k : Nat) : Prop := k = x.s ∨ Foot x.g x.v k
structure StAt (w : World) (B : Nat) (x : St) : Prop where
  box : BoxAt w x.s (stV x) 157
  list : LAt w B x.g x.v x.S
  fine : Fine x.S
  lo : B ≤ x.s
theorem StAt.only {F : Nat → Prop} {w w' : World} {B : Nat} {x : St} (h : StAt w B x) (k : Only F w w') (hF : ∀ j, FootS x j → ¬ F j) : StAt w' B x :=
  ⟨h.box.only k (hF _ (Or.inl rfl)), h.list.only k (hF _ (Or.inr (Or.inl rfl))) (fun r hr => hF r (Or.inr (Or.inr hr))), h.fine, h.lo⟩
theorem LAt.foot {w : World} {B g : Nat} {v : Value} {S : List Sb} (h : LAt w B g v S) {k : Nat} (hk : Foot g v k) : k < w.heap.size := by
  rcases hk with rfl | hk
  · exact h.blk.lt
  · exact (h.own.lt hk).1
theorem StAt.foot {w : World} {B : Nat} {x : St} (h : StAt w B x) {k : Nat} (hk : FootS x k) : k < w.heap.size := by
  rcases hk with rfl | hk
  · exact h.box.lt
  · exact h.list.foot hk
def findL : List St → ByteArray → Option St
  | [], _ => none
  | x :: r, c => if c = x.client then some x else findL r c
def putL : List St → St → List St
  | [], y => [y]
  | x :: r, y => if y.client = x.client then y :: r else x :: putL r y
def delL : List St → ByteArray → List St
  | [], _ => []
  | x :: r, c => if c = x.client then r else x :: delL r c
def entM (L : List St) : List (ByteArray × Value) := L.map fun x => (x.client, .pointer (some ⟨x.s, 0, none⟩))
theorem entM_get : ∀ (L : List St) (c : ByteArray), getE (entM L) c = (findL L c).map fun x => Value.pointer (some ⟨x.s, 0, none⟩)
  | [], _ => rfl
  | x :: r, c => by
    show (if c = x.client then _ else getE (entM r) c) = _; unfold findL; split
    · rfl
    · exact entM_get r c
theorem entM_put : ∀ (L : List St) (y : St), entM (putL L y) = putE (entM L) y.client (.pointer (some ⟨y.s, 0, none⟩))
  | [], _ => rfl
  | x :: r, y => by
    show _ = (if y.client = x.client then _ else (x.client, _) :: putE (entM r) y.client _)
    unfold putL; split
    · rfl
    · rw [← entM_put r y]; rfl
theorem entM_del : ∀ (L : List St) (c : ByteArray), entM (delL L c) = delE (entM L) c
  | [], _ => rfl
  | x :: r, c => by
    show _ = (if c = x.client then _ else (x.client, _) :: delE (entM r) c)
    unfold delL; split
    · rfl
    · rw [← entM_del r c]; rfl
theorem find_mem : ∀ {L : List St} {c : ByteArray} {x : St}, findL L c = some x → x ∈ L ∧ x.client = c
  | [], _, _, h => by cases h
  | y :: r, c, x, h => by
    unfold findL at h; split at h
    · rename_i e
      injection h with h
      subst h; exact ⟨List.mem_cons_self .., e.symm⟩
    · obtain ⟨h1, h2⟩ := find_mem h
      exact ⟨List.mem_cons_of_mem _ h1, h2⟩
theorem put_mem : ∀ {L : List St} {y z : St}, (L.map (·.client)).Nodup → z ∈ putL L y → z = y ∨ (z ∈ L ∧ z.client ≠ y.client)
  | [], y, z, _, h => by
    left
    simpa [putL] using h
  | x :: r, y, z, hn, h => by
    rw [List.map_cons, List.nodup_cons] at hn; unfold putL at h; split at h
    · rename_i e
      rcases List.mem_cons.1 h with h | h
      · exact Or.inl h
      · right
        refine ⟨List.mem_cons_of_mem _ h, fun e2 => hn.1 ?_⟩; rw [← e, ← e2]; exact List.mem_map_of_mem h
    · rename_i e
      rcases List.mem_cons.1 h with rfl | h
      · exact Or.inr ⟨List.mem_cons_self .., fun e2 => e e2.symm⟩
      · rcases put_mem hn.2 h with h | ⟨h, h2⟩
        · exact Or.inl h
        · exact Or.inr ⟨List.mem_cons_of_mem _ h, h2⟩
theorem put_clients : ∀ (L : List St) (y : St), (y.client ∈ L.map (·.client) ∧ (putL L y).map (·.client) = L.map (·.client)) ∨ (y.client ∉ L.map (·.client) ∧ (putL L y).map (·.client) = L.map (·.client) ++ [y.client])
  | [], y => Or.inr ⟨by simp, rfl⟩
  | x :: r, y => by
    unfold putL; split
    · rename_i e
      left
      rw [List.map_cons, List.map_cons, e]; exact ⟨List.mem_cons_self .., rfl⟩
    · rename_i e
      rw [List.map_cons, List.map_cons]; rcases put_clients r y with ⟨h1, h2⟩ | ⟨h1, h2⟩
      · exact Or.inl ⟨List.mem_cons_of_mem _ h1, by rw [h2]⟩
      · exact Or.inr ⟨by rw [List.mem_cons, not_or]; exact ⟨e, h1⟩, by rw [h2]; rfl⟩
theorem put_nd {L : List St} {y : St} (h : (L.map (·.client)).Nodup) : ((putL L y).map (·.client)).Nodup := by
  rcases put_clients L y with ⟨_, h2⟩ | ⟨hm, h2⟩
  · rw [h2]; exact h
  · rw [h2, List.nodup_append]
    refine ⟨h, by simp, fun a ha b hb e => ?_⟩; simp at hb
    subst hb; exact hm (e ▸ ha)
theorem del_sub : ∀ (L : List St) (c : ByteArray), (delL L c).Sublist L
  | [], _ => List.Sublist.refl _
  | x :: r, c => by
    unfold delL; split
    · exact List.sublist_cons_self _ _
    · exact (del_sub r c).cons_cons x
def absL (L : List St) : Sess := fun c => (findL L c).map fun x => ⟨x.conn, x.clean, x.S⟩
theorem find_put (y : St) (d : ByteArray) : ∀ L : List St, findL (putL L y) d = if d = y.client then some y else findL L d
  | [] => rfl
  | x :: r => by
    unfold putL; by_cases e : y.client = x.client
    · rw [if_pos e]
      show (if d = y.client then some y else findL r d) = if d = y.client then some y else (if d = x.client then some x else findL r d)
      by_cases h1 : d = y.client
      · rw [if_pos h1, if_pos h1]
      · rw [if_neg h1, if_neg h1, if_neg (by rw [← e]; exact h1)]
    · rw [if_neg e]
      show (if d = x.client then some x else findL (putL r y) d) = if d = y.client then some y else (if d = x.client then some x else findL r d)
      rw [find_put y d r]; by_cases h1 : d = x.client
      · rw [if_pos h1, if_pos h1, if_neg (by rw [h1]; exact fun h => e h.symm)]
      · rw [if_neg h1, if_neg h1]
theorem abs_put (L : List St) (y : St) : absL (putL L y) = updS (absL L) y.client (some ⟨y.conn, y.clean, y.S⟩) := by
  funext d
  unfold absL updS; rw [find_put]; split <;> rfl
theorem find_del (c d : ByteArray) : ∀ L : List St, (L.map (·.client)).Nodup → findL (delL L c) d = if d = c then none else findL L d
  | [], _ => by unfold delL findL; split <;> rfl
  | x :: r, hn => by
    rw [List.map_cons, List.nodup_cons] at hn; unfold delL; by_cases e : c = x.client
    · rw [if_pos e]
      show findL r d = if d = c then none else (if d = x.client then some x else findL r d)
      by_cases h1 : d = c
      · rw [if_pos h1]
        cases hf : findL r d with
        | none => rfl
        | some z =>
          obtain ⟨h2, h3⟩ := find_mem hf; exact absurd (by rw [← e, ← h1, ← h3]; exact List.mem_map_of_mem h2) hn.1
      · rw [if_neg h1, if_neg (by rw [← e]; exact h1)]
    · rw [if_neg e]
      show (if d = x.client then some x else findL (delL r c) d) = if d = c then none else (if d = x.client then some x else findL r d)
      rw [find_del c d r hn.2]; by_cases h1 : d = x.client
      · rw [if_pos h1, if_pos h1, if_neg (by rw [h1]; exact fun h => e h.symm)]
      · rw [if_neg h1, if_neg h1]
theorem abs_del {L : List St} (c : ByteArray) (hn : (L.map (·.client)).Nodup) : absL (delL L c) = updS (absL L) c none := by
  funext d
  unfold absL updS; rw [find_del c d L hn]; split <;> rfl
structure MoAt (w : World) (B m M K KM : Nat) (L : List St) : Prop where
  box : BoxAt w m #[.map (some M), .pointer (some ⟨K, 0, none⟩)] 92
  map : MapAt w M Value.string (entM L)
  kbox : BoxAt w K #[.map (some KM)] 134
  kmap : ∃ es, MapAt w KM Value.string (es : List (ByteArray × Value))
  st : ∀ x ∈ L, StAt w B x
  nd : (L.map (·.client)).Nodup
  apart : ∀ x ∈ L, ∀ z ∈ L, x.client ≠ z.client → ∀ k, FootS x k → ¬ FootS z k
  far : ∀ x ∈ L, ∀ k, FootS x k → k ≠ m ∧ k ≠ M ∧ k ≠ K ∧ k ≠ KM
  lo : B ≤ m ∧ B ≤ M ∧ B ≤ K ∧ B ≤ KM
  ne : m ≠ M ∧ m ≠ K ∧ m ≠ KM ∧ M ≠ K ∧ M ≠ KM ∧ K ≠ KM
def FootM (m M K KM : Nat) (L : List St) (k : Nat) : Prop := k = m ∨ k = M ∨ k = K ∨ k = KM ∨ ∃ x ∈ L, FootS x k
section
variable {w w' : World} {B m M K KM : Nat} {L : List St}
theorem MoAt.only {F : Nat → Prop} (h : MoAt w B m M K KM L) (k : Only F w w') (hF : ∀ j, FootM m M K KM L j → ¬ F j) : MoAt w' B m M K KM L :=
  ⟨h.box.only k (hF _ (Or.inl rfl)), h.map.only k (hF _ (Or.inr (Or.inl rfl))), h.kbox.only k (hF _ (Or.inr (Or.inr (Or.inl rfl)))), (by obtain ⟨es, he⟩ := h.kmap; exact ⟨es, he.only k (hF _ (Or.inr (Or.inr (Or.inr (Or.inl rfl)))))⟩),
   fun x hx => (h.st x hx).only k (fun j hj => hF j (Or.inr (Or.inr (Or.inr (Or.inr ⟨x, hx, hj⟩))))), h.nd, h.apart, h.far, h.lo, h.ne⟩
theorem MoAt.below (h : MoAt w B m M K KM L) (k : Below w.heap.size w w') : MoAt w' B m M K KM L := h.only (Only.of_below k (fun _ => False)) (fun _ _ h => h)
theorem MoAt.foot (h : MoAt w B m M K KM L) {k : Nat} (hk : FootM m M K KM L k) : k < w.heap.size := by
  rcases hk with rfl | rfl | rfl | rfl | ⟨x, hx, hk⟩
  · exact h.box.lt
  · exact h.map.lt
  · exact h.kbox.lt
  · obtain ⟨es, he⟩ := h.kmap; exact he.lt
  · exact (h.st x hx).foot hk
theorem MoAt.put {F : Nat → Prop} {y : St} (h : MoAt w B m M K KM L) (k : Only F w w') (hF : ∀ j, F j → j < w.heap.size → j = M ∨ ∃ x ∈ L, x.client = y.client ∧ FootS x j) (hmap : MapAt w' M Value.string (entM (putL L y)))
    (hy : StAt w' B y) (hfar : ∀ j, FootS y j → (∃ x ∈ L, x.client = y.client ∧ FootS x j) ∨ ¬ FootM m M K KM L j) : MoAt w' B m M K KM (putL L y) := by
  have hno : ∀ j, (j = m ∨ j = K ∨ j = KM) → ¬ F j := by
    intro j hj hf; have hlt : j < w.heap.size := h.foot (by rcases hj with rfl | rfl | rfl; exact Or.inl rfl; exact Or.inr (Or.inr (Or.inl rfl)); exact Or.inr (Or.inr (Or.inr (Or.inl rfl)))); obtain ⟨h1, h2, h3, h4, h5, h6⟩ := h.ne; rcases hF j hf hlt with rfl | ⟨x, hx, _, hk⟩
    · rcases hj with rfl | rfl | rfl
      · exact h1 rfl
      · exact h4 rfl
      · exact h5 rfl
    · obtain ⟨g1, g2, g3, g4⟩ := h.far x hx j hk
      rcases hj with rfl | rfl | rfl
      · exact g1 rfl
      · exact g3 rfl
      · exact g4 rfl
  have hother : ∀ z ∈ L, z.client ≠ y.client → ∀ j, FootS z j → ¬ F j := by
    intro z hz hne j hj hf; rcases hF j hf ((h.st z hz).foot hj) with rfl | ⟨x, hx, hxc, hk⟩
    · exact (h.far z hz _ hj).2.1 rfl
    · exact h.apart x hx z hz (by rw [hxc]; exact fun e => hne e.symm) j hk hj
  have hyfar : ∀ z ∈ L, z.client ≠ y.client → ∀ j, FootS y j → ¬ FootS z j := by
    intro z hz hne j hj hk; rcases hfar j hj with ⟨x, hx, hxc, hx2⟩ | hge
    · exact h.apart x hx z hz (by rw [hxc]; exact fun e => hne e.symm) j hx2 hk
    · exact hge (Or.inr (Or.inr (Or.inr (Or.inr ⟨z, hz, hk⟩))))
  refine ⟨h.box.only k (hno _ (Or.inl rfl)), hmap, h.kbox.only k (hno _ (Or.inr (Or.inl rfl))), (by obtain ⟨es, he⟩ := h.kmap; exact ⟨es, he.only k (hno _ (Or.inr (Or.inr rfl)))⟩), ?_, put_nd h.nd, ?_, ?_, h.lo, h.ne⟩
  · intro z hz
    rcases put_mem h.nd hz with rfl | ⟨hz, hne⟩
    · exact hy
    · exact (h.st z hz).only k (hother z hz hne)
  · intro x hx z hz hne j hj hk
    rcases put_mem h.nd hx with e | ⟨hx, hxn⟩
    · rcases put_mem h.nd hz with e2 | ⟨hz, hzn⟩
      · exact hne (by rw [e, e2])
      · exact hyfar z hz hzn j (e ▸ hj) hk
    · rcases put_mem h.nd hz with e2 | ⟨hz, hzn⟩
      · exact hyfar x hx hxn j (e2 ▸ hk) hj
      · exact h.apart x hx z hz hne j hj hk
  · intro x hx j hj
    rcases put_mem h.nd hx with rfl | ⟨hx, _⟩
    · rcases hfar j hj with ⟨z, hz, _, hz2⟩ | hge
      · exact h.far z hz j hz2
      · exact ⟨fun e => hge (Or.inl e), fun e => hge (Or.inr (Or.inl e)), fun e => hge (Or.inr (Or.inr (Or.inl e))), fun e => hge (Or.inr (Or.inr (Or.inr (Or.inl e))))⟩
    · exact h.far x hx j hj
theorem MoAt.del {c : ByteArray} (h : MoAt w B m M K KM L) (k : Only (fun j => j = M) w w') (hmap : MapAt w' M Value.string (entM (delL L c))) : MoAt w' B m M K KM (delL L c) := by
  obtain ⟨h1, h2, h3, h4, h5, h6⟩ := h.ne; have hs := (del_sub L c).subset; refine ⟨h.box.only k h1, hmap, h.kbox.only k (fun e => h4 e.symm), (by obtain ⟨es, he⟩ := h.kmap; exact ⟨es, he.only k (fun e => h5 e.symm)⟩), ?_, ((del_sub L c).map _).nodup h.nd, fun x hx z hz => h.apart x (hs hx) z (hs hz), fun x hx => h.far x (hs hx), h.lo, h.ne⟩; intro x hx; exact (h.st x (hs hx)).only k (fun j hj e => (h.far x (hs hx) j hj).2.1 e)
end
end Go.Proofs.YtnnpokndajpkiaaDoor
namespace Go.Proofs.YtnnpokndajpkiaaDoor
open Go.RowKit
theorem Keep.withBox {w0 w : World} {L : List Box} (h : Keep w0 L [] w) (b : Box) (hb : BoxAt w b.1 b.2.1 b.2.2) (hu : w0.heap.size ≤ b.1) (hn : ∀ x ∈ L, x.1 ≠ b.1) : Keep w0 (b :: L) [] w :=
  ⟨h.env0, h.low, fun x hx => (by rcases List.mem_cons.1 hx with rfl | hx; exact hb; exact h.box x hx), fun x hx => (by rcases List.mem_cons.1 hx with rfl | hx; exact hu; exact h.up x hx), (by
    rw [List.map_cons, List.nodup_cons]; refine ⟨fun hm => ?_, h.nod⟩; obtain ⟨x, hx, e⟩ := List.mem_map.1 hm; exact hn x hx e), fun r hr => (by cases hr), fun r hr => (by cases hr)⟩
def ptrS (o : Option St) : Value := match o with | some x => .pointer (some ⟨x.s, 0, none⟩) | none => .pointer none
theorem ptrS_is (L : List St) (c : ByteArray) : (getE (entM L) c).getD (.pointer none) = ptrS (findL L c) := by
  rw [entM_get]; cases findL L c <;> rfl
theorem zSeat (w : World) : (zeroValue 153).run Tryd.prog w = .ok (.pointer none) w := by kernel_rfl
set_option maxRecDepth 100000 in
set_option maxHeartbeats 4000000 in
theorem model_New {w0 w : World} (HK : Keep w0 [] [] w) (hsz : w0.heap.size ≤ w.heap.size) : Calls Tryd.prog 23 #[] w fun e w' => ∃ m M K KM, e = .returned (.pointer (some ⟨m, 0, none⟩)) ∧ MoAt w' w0.heap.size m M K KM [] ∧ Keep w0 [] [] w' ∧ Below w.heap.size w w' ∧ w.heap.size ≤ m ∧ w.heap.size ≤ M ∧ w.heap.size ≤ K ∧ w.heap.size ≤ KM := by
  obtain ⟨RR, hRR⟩ : ∃ RR : Ending → World → Prop, RR = fun e w' => ∃ m M K KM, e = .returned (.pointer (some ⟨m, 0, none⟩)) ∧ MoAt w' w0.heap.size m M K KM [] ∧ Keep w0 [] [] w' ∧ Below w.heap.size w w' ∧ w.heap.size ≤ m ∧ w.heap.size ≤ M ∧ w.heap.size ≤ K ∧ w.heap.size ≤ KM := ⟨_, rfl⟩
  have FIN := Lib.hid (show ∀ w' m M K KM, MoAt w' w0.heap.size m M K KM [] → Keep w0 [] [] w' → Below w.heap.size w w' → w.heap.size ≤ m → w.heap.size ≤ M → w.heap.size ≤ K → w.heap.size ≤ KM → RR (.returned (.pointer (some ⟨m, 0, none⟩))) w' from fun w' m M K KM h1 h2 h3 h4 h5 h6 h7 => by rw [hRR]; exact ⟨m, M, K, KM, rfl, h1, h2, h3, h4, h5, h6, h7⟩); rw [← hRR]; obtain ⟨w9, hw9⟩ : ∃ w9, w9 = w := ⟨_, rfl⟩
  rw [← hw9] at HK; suffices hgo : Calls Tryd.prog 23 #[] w9 RR by rw [hw9] at hgo; exact hgo
  have HB : Below w.heap.size w w9 := by rw [hw9]; exact Below.refl _ _
  clear hw9 hRR; go_enter Tryd.func23, Tryd.ntmps23
  refine wp_forget (n := 5) (L := []) (FrL.nil ?_ ?_) ?_; iterate 2 rfl
  intro a9 F; refine xG F k0 [.c] [(0, .pointer none)] ?_; clear F a9; intro a9 F; replace F : FrL 5 [] a9 := FrL.nil F.size F.defers; refine xR ?_; refine fr_doW F (wanted_free rfl) 1 rfl (by decide) (.map (some w9.heap.size)) (w9.alloc (.map #[] 0)) (fun a' F' => rfl) ?_; clear F a9; intro a9 F; have hb8 : Below w9.heap.size w9 (w9.alloc (.map #[] 0)) := (Below.refl _ _).alloc (Nat.le_refl _) _; have HM : MapAt (w9.alloc (.map #[] 0)) w9.heap.size Value.string (entM []) := ⟨#[], 0, heap_alloc_new w9 _, rfl⟩
  have hlM := HB.size; replace HB := HB.trans (hb8.mono HB.size); replace HK := HK.below hb8; obtain ⟨M, hKM⟩ : ∃ KM, w9.heap.size = KM := ⟨_, rfl⟩
  rw [hKM] at HM F hlM; clear hb8 hKM; generalize w9.alloc (.map #[] 0) = w8 at *; clear w9; rename World => w9
  have hMlt := HM.lt; refine fr_call F (wanted_free rfl) 2 rfl (by decide) 45 #[] (by intro a' F'; go_simp) (keep_New w9 HK.env) ?_; rintro e9 w8 ⟨K, KM, rfl, HKB, HKM, hb8, hk1, hk2, hk3⟩; have hlK := Nat.le_trans HB.size hk1; have hlKM := Nat.le_trans HB.size hk2; replace HM := HM.below hb8; replace HK := HK.below hb8; replace HB := HB.trans (hb8.mono HB.size); clear hb8; have hneM : M ≠ K ∧ M ≠ KM := by omega
  clear hk1 hk2 hMlt; clear w9; rename World => w9
  refine ⟨_, rfl, ?_⟩; clear F a9; intro a9 F; refine fr_do F (wanted_free rfl) 3 rfl (by decide) (.agg #[.map (some M), pQ K 0]) (by intro a' F'; have g1 := F'.get 1 rfl; have g2 := F'.get 2 rfl; exact run_build_to rfl (by simp only [List.map_toArray, List.map_cons, List.map_nil, Act.eval, g1, g2]; kernel_rfl)) ?_; clear F a9; intro a9 F; have h1 := HM.lt; have h2 := HKB.lt; have h3 := HKM.lt; refine fr_box F HK 4 (by decide) rfl 92 _ rfl rfl #[.map (some M), pQ K 0] (fun a' F' => F'.ev 3 rfl) ?_; rintro m a10 w10 hX F' HK' hb; have hlm := HB.size; replace HM := HM.below hb; replace HKB := HKB.below hb; replace HKM := HKM.below hb; replace HB := HB.trans (hb.mono HB.size); have hmn : m ≠ M ∧ m ≠ K ∧ m ≠ KM := by omega
  have hlm2 : w.heap.size ≤ m := by omega
  clear hX HK F hb h1 h2 h3 hlm; clear a9 w9; rename World => w9
  rename Act => a9
  have HK := HK'; have F := F'; clear HK' F'; refine fr_as F (wanted_free rfl) 0 rfl (by decide) 4 rfl rfl ?_; clear F a9; intro a9 F; refine xW ?_; have hup := HK.up _ (List.mem_cons_self ..); simp only at hup
  have HMO : MoAt w9 w0.heap.size m M K KM [] := ⟨HK.at 0 rfl, HM, HKB, ⟨[], HKM⟩, fun x hx => (by cases hx), List.nodup_nil, fun x hx => (by cases hx), fun x hx => (by cases hx), ⟨hup, by omega, by omega, by omega⟩, ⟨hmn.1, hmn.2.1, hmn.2.2, hneM.1, hneM.2, hk3⟩⟩
  have HK2 := HK.sub (List.nil_sublist _) (fun r hr => hr); refine wp_ret ?_; exact fr_ret1 F rfl _ rfl (FIN.out _ _ _ _ _ HMO HK2 HB hlm2 hlM hlK hlKM)
set_option maxRecDepth 100000 in
set_option maxHeartbeats 4000000 in
theorem model_seat {B m M K KM : Nat} {L : List St} (w : World) (c : ByteArray) (HMO : MoAt w B m M K KM L) : Calls Tryd.prog 97 #[.pointer (some ⟨m, 0, none⟩), .string c] w fun e w' => e = .returned (ptrS (findL L c)) ∧ w = w' := by
  obtain ⟨RR, hRR⟩ : ∃ RR : Ending → World → Prop, RR = fun e w' => e = .returned (ptrS (findL L c)) ∧ w = w' := ⟨_, rfl⟩
  have FIN := Lib.hid (show RR (.returned (ptrS (findL L c))) w from by rw [hRR]; exact ⟨rfl, rfl⟩); rw [← hRR]; clear hRR; rename World => w9
  go_enter Tryd.func97, Tryd.ntmps97
  refine wp_forget (n := 13) (L := [(1, .string c), (0, pQ m 0)]) (FrL.add (FrL.add (FrL.nil ?_ ?_) _ _ ?_) _ _ ?_) ?_; iterate 4 rfl
  intro a9 F; refine xG F k0 [.c] [(1, .string c), (0, pQ m 0)] ?_; clear F a9; refine xF k0 [.c, .c] 6 [(6, .bool false), (1, .string c), (0, pQ m 0)] ?_; intro a9 F; replace F := F.cut [(1, .string c), (0, pQ m 0)] (by kernel_rfl); refine xR ?_; refine xP F (kO [⟨m, 0, [.map (some M)]⟩] ⟨one_cell (HMO.box.cells 0), trivial⟩) (xC 3 ([.l 0 0, .c])) [(11, .string c), (10, .map (some M)), (0, pQ m 0)] ?_; clear F a9; intro a9 F; refine fr_do F (wanted_free rfl) 12 rfl (by decide) (ptrS (findL L c)) (fun a' F' => by rw [← ptrS_is]; exact op_lookup keyS Tryd.underlying88 HMO.map c (zSeat _) rfl (F'.ev 10 rfl) (F'.ev 11 rfl)) ?_; clear F a9; intro a9 F; refine xE F k0 [.c] [(4, ptrS (findL L c)), (0, pQ m 0)] ?_; clear F a9; intro a9 F; refine wp_ret ?_; exact fr_ret1 F rfl _ rfl (FIN.out)
end Go.Proofs.YtnnpokndajpkiaaDoor
