import Derived.Test.YtnnpokndajpkiaaDoorJoinF
namespace Go.Proofs.YtnnpokndajpkiaaDoor
open Go.RowKit
def wantsT (ops : Array Oper) (L : List (Nat × Value)) (o : Oper) : Option Bool :=
  match o.guard with
  | none => some true
  | some (g, want) => match (ops[g]?).bind (·.dst) with
    | none => none
    | some t => match L.lookup t with
      | some (.bool b) => some (b == want)
      | some (.tuple xs) => if xs.isEmpty then some false else none
      | _ => none
def stpT (P : Program) (ops : Array Oper) (n : Nat) (md : Region.Mode) (z : Nat) (listed : Array Bool) (L : List (Nat × Value)) (i : Nat) : Option (Nat × Value) :=
  match ops[i]? with
  | none => none
  | some o => if (Region.free md ops listed i && ((Region.ready md ops listed).contains i && waits md ops z i)) then
      match o.dst with
      | none => none
      | some s => if Nat.blt s n then
          match wantsT ops L o with
          | none => none
          | some false => some (s, undef)
          | some true => if noSel o.op && o.op.operands.toList.all (inDom L) then
              match alone P (execOp (known L) o) with
              | some (.value v) => some (s, v)
              | _ => none
            else none
        else none
    else none
def chT (P : Program) (ops : Array Oper) (n : Nat) (md : Region.Mode) (z : Nat) : List Nat → Array Bool → List (Nat × Value) → Option (List (Nat × Value))
  | [], _, L => some L
  | i :: r, listed, L => match stpT P ops n md z listed L i with
    | none => none
    | some x => chT P ops n md z r (listed.setIfInBounds i true) (x :: L)
def dstT (ops : Array Oper) (is : List Nat) : List Nat := is.filterMap fun i => (ops[i]?).bind (·.dst)
def runT (P : Program) (ops : Array Oper) (n : Nat) (md : Region.Mode) (z : Nat) (is : List Nat) (listed : Array Bool) (L : List (Nat × Value)) (ids : List Nat) : Option (List (Nat × Value)) :=
  if (dstT ops is).all (fun s => ids.contains s || !(L.lookup s).isSome) then
    match chT P ops n md z is listed L with
    | none => none
    | some L2 => picks L2 ids
  else none
def marks : List Nat → Array Bool → Array Bool
  | [], l => l
  | i :: r, l => marks r (l.setIfInBounds i true)
def addN (m : Nat) : List Nat → Nat
  | [] => m
  | _ :: r => addN m r + 1
section
variable {P : Program} {ops : Array Oper} {a : Act} {w : World} {Q : Exit → Act → World → Prop} {n : Nat} {L : List (Nat × Value)} {md : Region.Mode} {S : World → Prop} {z : Nat}
theorem wantsT_spec (F : FrL n L a) {o : Oper} {b : Bool} (h : wantsT ops L o = some b) : Region.wanted o (yielded ops a.tmps) = b := by
  unfold wantsT at h; split at h
  · rename_i hg
    injection h with h
    rw [← h]; exact free_want hg
  · rename_i g want hg
    split at h
    · cases h
    · rename_i t ht
      split at h
      · rename_i b2 hb
        injection h with h
        rw [← h]; exact wanted_at F hg ht hb
      · rename_i xs hb
        split at h
        · injection h with h
          subst h; unfold Region.wanted yielded; rw [hg]; simp only [ht, Option.bind_some, F.at' t _ hb]; cases want <;> rfl
        · cases h
      · cases h
theorem stpT_spec (F : FrL n L a) (hns : Region.noSelect ops = true) (hQ : ∀ c a a' w, Q (.panic c) a w → Q (.panic c) a' w) (hS : S w) {i s m : Nat} {v : Value} {listed : Array Bool} (h : stpT P ops n md z listed L i = some (s, v))
    (k : ∀ a', FrL n ((s, v) :: L) a' → AnyT P md ops Q S z m (listed.setIfInBounds i true) a' w) : AnyT P md ops Q S z (m + 1) listed a w := by
  unfold stpT at h; split at h
  · cases h
  · rename_i o ho
    split at h
    · rename_i hc0
      rw [Bool.and_eq_true, Bool.and_eq_true] at hc0; obtain ⟨hf, hr, hz⟩ := hc0; split at h
      · cases h
      · rename_i s' hd
        split at h
        · rename_i hs
          have hs' : s' < n := Nat.le_of_ble_eq_true hs; split at h
          · cases h
          · rename_i hw
            injection h with h
            injection h with h1 h2
            subst h1 h2; have hy : YieldsIf P ops S o undef a := Or.inr ⟨wantsT_spec F hw, rfl⟩; refine AnyT.take ho hns hf hr hz (fun c a' w' h => hQ c _ _ w' h) hy hS ?_; rw [hd]; exact k _ (F.put _ undef hs')
          · rename_i hw
            split at h
            · rename_i hc
              split at h
              · rename_i v' he
                injection h with h
                injection h with h1 h2
                subst h1 h2; rw [Bool.and_eq_true] at hc; have hy : YieldsIf P ops S o v' a := Or.inl ⟨wantsT_spec F hw, fun w' _ => by
                  rw [execOp_congr o (fun cs b e => by have h3 := hc.1; rw [e] at h3; cases h3) (fun x hx => known_ev F (List.all_eq_true.1 hc.2 x (by simpa using hx)))]; exact alone_run _ _ he w'⟩
                refine AnyT.take ho hns hf hr hz (fun c a' w' h => hQ c _ _ w' h) hy hS ?_; rw [hd]; exact k _ (F.put _ _ hs')
              · cases h
            · cases h
        · cases h
    · cases h
theorem stpT_dst {i s : Nat} {v : Value} {listed : Array Bool} (h : stpT P ops n md z listed L i = some (s, v)) : (ops[i]?).bind (·.dst) = some s := by
  unfold stpT at h; split at h
  · cases h
  · rename_i o ho
    rw [ho, Option.bind_some]; split at h
    · split at h
      · cases h
      · rename_i s' hd
        rw [hd]; split at h
        · split at h
          · cases h
          · injection h with h; injection h with h1 _; rw [h1]
          · split at h
            · split at h
              · injection h with h; injection h with h1 _; rw [h1]
              · cases h
            · cases h
        · cases h
    · cases h
theorem chT_spec (hns : Region.noSelect ops = true) (hQ : ∀ c a a' w, Q (.panic c) a w → Q (.panic c) a' w) (hS : S w) {m : Nat} : ∀ (is : List Nat) (listed : Array Bool) (L : List (Nat × Value)) (a : Act) (L2 : List (Nat × Value)), FrL n L a → chT P ops n md z is listed L = some L2 →
    (∀ a', FrL n L2 a' → AnyT P md ops Q S z m (marks is listed) a' w) → AnyT P md ops Q S z (addN m is) listed a w
  | [], listed, L, a, L2, F, h, kont => by
    simp only [chT, Option.some.injEq] at h; subst h; exact kont a F
  | i :: r, listed, L, a, L2, F, h, kont => by
    simp only [chT] at h; split at h
    · cases h
    · rename_i x hx
      obtain ⟨s, v⟩ := x; exact stpT_spec F hns hQ hS hx fun a' F' => chT_spec hns hQ hS r _ _ a' L2 F' h kont
theorem chT_old : ∀ (is : List Nat) (listed : Array Bool) (L L2 : List (Nat × Value)), chT P ops n md z is listed L = some L2 → ∀ i v, L.lookup i = some v → i ∉ dstT ops is → L2.lookup i = some v
  | [], listed, L, L2, h, i, v, hv, _ => by
    simp only [chT, Option.some.injEq] at h; subst h; exact hv
  | j :: r, listed, L, L2, h, i, v, hv, hi => by
    simp only [chT] at h; split at h
    · cases h
    · rename_i x hx
      obtain ⟨s, u⟩ := x; have hd := stpT_dst hx; unfold dstT at hi; rw [List.filterMap_cons, hd] at hi; simp only [List.mem_cons, not_or] at hi; refine chT_old r _ _ L2 h i v ?_ hi.2; rw [List.lookup_cons, beq_eq_false_iff_ne.2 hi.1]; exact hv
theorem fr_chT (F : FrL n L a) (is : List Nat) (N : List (Nat × Value)) (hS : S w) {m : Nat} {listed : Array Bool} (h : runT P ops n md z is listed L (N.map (·.1)) = some N) (kont : ∀ a', FrL n (N ++ L) a' → AnyT P md ops Q S z m (marks is listed) a' w)
    (hns : Region.noSelect ops = true := by kernel_rfl) (hQ : ∀ c a a' w, Q (.panic c) a w → Q (.panic c) a' w := by exact fun _ _ _ _ h => h) : AnyT P md ops Q S z (addN m is) listed a w := by
  unfold runT at h; split at h
  · rename_i hall
    split at h
    · cases h
    · rename_i L2 hL2
      refine chT_spec hns hQ hS is listed L a L2 F hL2 fun a' F' => kont a' ?_
      obtain ⟨h1, _⟩ := picks_spec F' _ N h; refine ⟨F'.size, F'.defers, fun i v hv => F'.at' i v ?_⟩; rcases lookup_app N L i v hv with h2 | ⟨h2, h3⟩
      · exact h1 i v h2
      · refine chT_old is listed L L2 hL2 i v h3 (fun hm => ?_)
        have h4 := List.all_eq_true.1 hall i hm; rw [h3] at h4; simp only [Option.isSome_some, Bool.not_true, Bool.or_false, List.contains_iff_mem] at h4; exact lookup_none_of N h2 h4
  · cases h
end
end Go.Proofs.YtnnpokndajpkiaaDoor
namespace Go.Proofs.YtnnpokndajpkiaaDoor
open Go.RowKit
structure Ob where
  blk : Nat
  base : Nat
  cells : List Value
def MemOk (w : World) : List Ob → Prop
  | [] => True
  | o :: r => w.rangeAt o.blk o.base o.cells ∧ MemOk w r
def AllEq : List (Value × Value) → Prop
  | [] => True
  | x :: r => x.1 = x.2 ∧ AllEq r
structure Ix where
  a : Option Addr
  len : Nat
  cap : Nat
  k : IntKind
  i : Int
  m : Nat
  res : Addr
def Ix.ok (x : Ix) : Prop := ∃ b o j, x.a = some ⟨b, o, none⟩ ∧ x.i = ((j : Nat) : Int) ∧ j < x.len ∧ x.res = ⟨b, o + j * x.m, none⟩
def AllIx : List Ix → Prop
  | [] => True
  | x :: r => x.ok ∧ AllIx r
inductive Hn where
  | c
  | l (k off : Nat)
  | f (j : Nat)
  | i (j : Nat)
def ldv (P : Program) (ty : TypeId) (ob : Ob) (off : Nat) : Option Value :=
  match P.underlying ty with
  | none => none
  | some d => match P.info? ty with
    | none => none
    | some i => if d.isRow then
        (if Nat.beq ((ob.cells.drop off).take i.size).length i.size then some (.agg ((ob.cells.drop off).take i.size).toArray) else none)
      else ob.cells[off]?
def stpX (P : Program) (ops : Array Oper) (n : Nat) (obs : List Ob) (Fs : List (Value × Value)) (Is : List Ix) (L : List (Nat × Value)) (o : Oper) (h : Hn) : Option ((Nat × Value) × List Value) :=
  match o.dst with
  | none => none
  | some s => if Nat.blt s n then
      match wantsT ops L o, h with
      | some false, .c => some ((s, undef), [])
      | some true, .c => if noSel o.op && o.op.operands.toList.all (inDom L) then
          match alone P (execOp (known L) o) with
          | some (.value v) => some ((s, v), [])
          | _ => none
        else none
      | some true, .l k off => match o.op with
        | .load ty (.tmp t) => match L.lookup t, obs[k]? with
          | some p, some ob => match ldv P ty ob off with
            | some v => some ((s, v), [p])
            | none => none
          | _, _ => none
        | _ => none
      | some true, .f j => match Fs[j]? with
        | some x => if noSel o.op && o.op.operands.toList.all (inDom L) then
            match alone P (execOp (known L) o) with
            | some (.value v) => some ((s, x.2), [v])
            | _ => none
          else none
        | none => none
      | some true, .i j => match Is[j]? with
        | some x => match o.op with
          | .indexAddr t (.tmp u) y => match L.lookup u, inDom L y, P.underlying t with
            | some p, true, some (.slice e) => match P.info? e with
              | some q => if Nat.beq q.size x.m then some ((s, .pointer (some x.res)), [p, known L y]) else none
              | none => none
            | _, _, _ => none
          | _ => none
        | none => none
      | _, _ => none
    else none
def claim (obs : List Ob) (Fs : List (Value × Value)) (Is : List Ix) : Hn → List Value
  | .c => []
  | .l k off => match obs[k]? with
    | some ob => [.pointer (some ⟨ob.blk, ob.base + off, none⟩)]
    | none => []
  | .f j => match Fs[j]? with
    | some x => [x.1]
    | none => []
  | .i j => match Is[j]? with
    | some x => [.slice x.a x.len x.cap, .int x.k x.i]
    | none => []
def claims (obs : List Ob) (Fs : List (Value × Value)) (Is : List Ix) : List Hn → List Value
  | [] => []
  | h :: r => claim obs Fs Is h ++ claims obs Fs Is r
theorem AllEq.get : ∀ {Fs : List (Value × Value)} {j : Nat} {x : Value × Value}, AllEq Fs → Fs[j]? = some x → x.1 = x.2
  | [], _, _, _, h => by simp at h
  | y :: r, 0, x, h, e => by
    simp only [List.getElem?_cons_zero, Option.some.injEq] at e; subst e; exact h.1
  | y :: r, j + 1, x, h, e => AllEq.get h.2 (by simpa using e)
theorem AllIx.get : ∀ {Is : List Ix} {j : Nat} {x : Ix}, AllIx Is → Is[j]? = some x → x.ok
  | [], _, _, _, h => by simp at h
  | y :: r, 0, x, h, e => by
    simp only [List.getElem?_cons_zero, Option.some.injEq] at e; subst e; exact h.1
  | y :: r, j + 1, x, h, e => AllIx.get h.2 (by simpa using e)
theorem idx_run {P : Program} {w : World} {x : Ix} (hx : x.ok) {t e : TypeId} {q : TypeInfo} (hu : P.underlying t = some (.slice e)) (hi : P.info? e = some q) (hm : q.size = x.m) : (Instr.indexAt t (.slice x.a x.len x.cap) (.int x.k x.i)).run P w = .ok (.pointer (some x.res)) w := by
  obtain ⟨b, o, j, h1, h2, h3, h4⟩ := hx; have he : P.elem t = e := by simp [Program.elem, hu]
  have ht : P.underlying t = some (.slice (P.elem t)) := by rw [he]; exact hu
  have hs : (sizeOf e).run P w = .ok x.m w := by simp [sizeOf, typeInfo, hi, hm]
  rw [h1, run_indexAt_slice (h := ht), h2, if_pos (by omega), he, hs, h4]; simp only [Result.andThen_ok, Int.toNat_natCast, Addr.add_mid]
theorem MemOk.get {w : World} : ∀ {obs : List Ob} {k : Nat} {ob : Ob}, MemOk w obs → obs[k]? = some ob → w.rangeAt ob.blk ob.base ob.cells
  | [], _, _, _, h => by simp at h
  | y :: r, 0, x, h, e => by
    simp only [List.getElem?_cons_zero, Option.some.injEq] at e; subst e; exact h.1
  | y :: r, j + 1, x, h, e => MemOk.get h.2 (by simpa using e)
theorem ldv_run {P : Program} {w : World} {ob : Ob} {ty : TypeId} {off : Nat} {v : Value} (hm : w.rangeAt ob.blk ob.base ob.cells) (h : ldv P ty ob off = some v) : (Instr.loadAt ty (.pointer (some ⟨ob.blk, ob.base + off, none⟩))).run P w = .ok v w := by
  unfold ldv at h; split at h
  · cases h
  · rename_i d hu
    split at h
    · cases h
    · rename_i i hi
      split at h
      · rename_i hr
        split at h
        · rename_i hl
          injection h with h
          subst h; refine run_loadAt_mid w _ _ ty _ d (fun j u hj => ?_) hu hr (by rw [hi]; exact congrArg some (Nat.eq_of_beq_eq_true hl).symm); rw [List.getElem?_take] at hj; split at hj
          · rw [List.getElem?_drop] at hj
            rw [Nat.add_assoc]; exact hm _ u hj
          · cases hj
        · cases h
      · rename_i hr
        have hc := hm off v h; have hagg : (isAgg ty).run P w = .ok false w := by
          unfold isAgg; rw [Sem.run_bind, run_underlying hu w]; cases d <;> simp_all
        simp only [Instr.loadAt, Instr.sureAddr, Sem.run_bind, Sem.run_pure, Result.andThen_ok, loadVar, hagg, Bool.false_eq_true, if_false, run_load, hc]
theorem stpX_is {P : Program} {ops : Array Oper} {n : Nat} {L : List (Nat × Value)} {a : Act} (F : FrL n L a) {obs : List Ob} {Fs : List (Value × Value)} {Is : List Ix} (hF : AllEq Fs) (hI : AllIx Is) {o : Oper} {h : Hn} {s : Nat} {v : Value} {A : List Value} (he : stpX P ops n obs Fs Is L o h = some ((s, v), A)) (hA : A = claim obs Fs Is h) :
    o.dst = some s ∧ s < n ∧ ((Region.wanted o (yielded ops a.tmps) = false ∧ v = undef) ∨ (Region.wanted o (yielded ops a.tmps) = true ∧ ∀ w, MemOk w obs → ∀ a', FrL n L a' → (execOp a'.eval o).run P w = .ok (.value v) w)) := by
  unfold stpX at he; split at he
  · cases he
  · rename_i s' hd
    split at he
    · rename_i hs
      have hs' : s' < n := Nat.le_of_ble_eq_true hs; split at he
      · rename_i hw
        injection he with he
        injection he with h1 h2
        injection h1 with h1 h3
        subst h1 h3; exact ⟨hd, hs', Or.inl ⟨wantsT_spec F hw, rfl⟩⟩
      · rename_i hw
        split at he
        · rename_i hc
          split at he
          · rename_i v' hv
            injection he with he
            injection he with h1 h2
            injection h1 with h1 h3
            subst h1 h3; rw [Bool.and_eq_true] at hc; refine ⟨hd, hs', Or.inr ⟨wantsT_spec F hw, fun w _ a' F' => ?_⟩⟩; rw [execOp_congr o (fun cs b e => by have h3 := hc.1; rw [e] at h3; cases h3) (fun x hx => known_ev F' (List.all_eq_true.1 hc.2 x (by simpa using hx)))]; exact alone_run _ _ hv w
          · cases he
        · cases he
      · rename_i k off hw
        split at he
        · rename_i ty t hop
          split at he
          · rename_i p ob hp hob
            split at he
            · rename_i v' hv
              injection he with he
              injection he with h1 h2
              injection h1 with h1 h3
              subst h1 h3 h2; refine ⟨hd, hs', Or.inr ⟨wantsT_spec F hw, fun w hm a' F' => ?_⟩⟩; simp only [claim, hob, List.cons.injEq, and_true] at hA; subst hA; unfold execOp; have hx : a'.eval (.tmp t) = .pointer (some ⟨ob.blk, ob.base + off, none⟩) := F'.ev t hp; simp only [hop, hx, ldv_run (hm.get hob) hv, Sem.run_bind, Sem.run_pure, Result.andThen_ok]
            · cases he
          · cases he
        · cases he
      · rename_i j hw
        split at he
        · rename_i x hx
          split at he
          · rename_i hc
            split at he
            · rename_i v' hv
              injection he with he
              injection he with h1 h2
              injection h1 with h1 h3
              subst h1 h3 h2; rw [Bool.and_eq_true] at hc; refine ⟨hd, hs', Or.inr ⟨wantsT_spec F hw, fun w _ a' F' => ?_⟩⟩; simp only [claim, hx, List.cons.injEq, and_true] at hA; subst hA; rw [execOp_congr o (fun cs b e => by have h3 := hc.1; rw [e] at h3; cases h3) (fun x hx => known_ev F' (List.all_eq_true.1 hc.2 x (by simpa using hx))), ← hF.get hx]; exact alone_run _ _ hv w
            · cases he
          · cases he
        · cases he
      · rename_i j hw
        split at he
        · rename_i x hx
          split at he
          · rename_i t u y hop
            split at he
            · rename_i p e hp hy hu
              split at he
              · rename_i q hq
                split at he
                · rename_i hsz
                  injection he with he
                  injection he with h1 h2
                  injection h1 with h1 h3
                  subst h1 h3 h2; refine ⟨hd, hs', Or.inr ⟨wantsT_spec F hw, fun w _ a' F' => ?_⟩⟩; simp only [claim, hx, List.cons.injEq, and_true] at hA; obtain ⟨hA1, hA2⟩ := hA; subst hA1; unfold execOp; have hx1 : a'.eval (.tmp u) = .slice x.a x.len x.cap := F'.ev u hp; have hx2 : a'.eval y = .int x.k x.i := by rw [known_ev F' hy, hA2]
                  simp only [hop, hx1, hx2, idx_run (hI.get hx) hu hq (Nat.eq_of_beq_eq_true hsz), Sem.run_bind, Sem.run_pure, Result.andThen_ok]
                · cases he
              · cases he
            · cases he
          · cases he
        · cases he
      · cases he
    · cases he
theorem stpX_len {P : Program} {ops : Array Oper} {n : Nat} {L : List (Nat × Value)} {obs : List Ob} {Fs : List (Value × Value)} {Is : List Ix} {o : Oper} {h : Hn} {x : Nat × Value} {A : List Value} (he : stpX P ops n obs Fs Is L o h = some (x, A)) : A.length = (claim obs Fs Is h).length := by
  unfold stpX at he; split at he
  · cases he
  · split at he
    · split at he
      · injection he with he; injection he with _ h2; subst h2; rfl
      · split at he
        · split at he
          · injection he with he; injection he with _ h2; subst h2; rfl
          · cases he
        · cases he
      · split at he
        · split at he
          · rename_i hob
            split at he
            · injection he with he; injection he with _ h2; subst h2
              simp only [claim, hob]; rfl
            · cases he
          · cases he
        · cases he
      · split at he
        · rename_i hx
          split at he
          · split at he
            · injection he with he; injection he with _ h2; subst h2
              simp only [claim, hx]; rfl
            · cases he
          · cases he
        · cases he
      · split at he
        · rename_i hx
          split at he
          · split at he
            · split at he
              · split at he
                · injection he with he; injection he with _ h2; subst h2
                  simp only [claim, hx]; rfl
                · cases he
              · cases he
            · cases he
          · cases he
        · cases he
      · cases he
    · cases he
def chX (P : Program) (ops : Array Oper) (n : Nat) (obs : List Ob) (Fs : List (Value × Value)) (Is : List Ix) : List Hn → List Oper → List (Nat × Value) → Option (List (Nat × Value) × List Value)
  | [], _, L => some (L, [])
  | _ :: _, [], _ => none
  | h :: r, o :: os, L => match stpX P ops n obs Fs Is L o h with
    | none => none
    | some (x, A) => match chX P ops n obs Fs Is r os (x :: L) with
      | none => none
      | some (L2, B) => some (L2, A ++ B)
def runX (P : Program) (ops : Array Oper) (n : Nat) (obs : List Ob) (Fs : List (Value × Value)) (Is : List Ix) (hs : List Hn) (os : List Oper) (L : List (Nat × Value)) (ids : List Nat) : Option (List (Nat × Value) × List Value) :=
  match chX P ops n obs Fs Is hs os L with
  | none => none
  | some (L2, B) => match picks L2 ids with
    | none => none
    | some N => some (N, B)
theorem app_split {A B C D : List Value} (h : A ++ B = C ++ D) (hl : A.length = C.length) : A = C ∧ B = D := List.append_inj h hl
section
variable {P : Program} {ops : Array Oper} {a : Act} {w : World} {Q : Exit → Act → World → Prop} {n : Nat} {L : List (Nat × Value)} {md : Region.Mode} {S : World → Prop} {z : Nat}
theorem chX_spec {obs : List Ob} {Fs : List (Value × Value)} {Is : List Ix} (hM : MemOk w obs) (hF : AllEq Fs) (hI : AllIx Is) : ∀ (hs : List Hn) (os : List Oper) (L : List (Nat × Value)) (a : Act) (L2 : List (Nat × Value)) (B : List Value), FrL n L a → chX P ops n obs Fs Is hs os L = some (L2, B) → B = claims obs Fs Is hs →
    (∀ a', FrL n L2 a' → wpList P ops Q (os.drop hs.length) a' w) → wpList P ops Q os a w
  | [], os, L, a, L2, B, F, h, _, kont => by
    simp only [chX, Option.some.injEq, Prod.mk.injEq] at h; obtain ⟨rfl, _⟩ := h; exact kont a F
  | _ :: _, [], _, _, _, _, _, h, _, _ => by cases h
  | h :: r, o :: os, L, a, L2, B, F, hc, hB, kont => by
    simp only [chX] at hc; split at hc
    · cases hc
    · rename_i x A hx
      split at hc
      · cases hc
      · rename_i L3 B' hr
        simp only [Option.some.injEq, Prod.mk.injEq] at hc; obtain ⟨rfl, rfl⟩ := hc; obtain ⟨hA, hB'⟩ := app_split (show A ++ B' = claim obs Fs Is h ++ claims obs Fs Is r from hB) (stpX_len hx); obtain ⟨s, v⟩ := x; obtain ⟨hd, hs, hq⟩ := stpX_is F hF hI hx hA; have kk : ∀ a', FrL n ((s, v) :: L) a' → wpList P ops Q os a' w := fun a' F' => chX_spec hM hF hI r os _ a' _ _ F' hr hB' kont
        rcases hq with ⟨hw, rfl⟩ | ⟨hw, he⟩
        · exact fr_left F hw s hd hs kk
        · exact fr_do F hw s hd hs v (fun a' F' => he w hM a' F') kk
theorem fr_x {os : List Oper} (F : FrL n L a) (obs : List Ob) (Fs : List (Value × Value)) (Is : List Ix) (hs : List Hn) (N : List (Nat × Value)) (hM : MemOk w obs) (hF : AllEq Fs) (hI : AllIx Is) (h : runX P ops n obs Fs Is hs os L (N.map (·.1)) = some (N, claims obs Fs Is hs))
    (kont : ∀ a', FrL n N a' → wpList P ops Q (os.drop hs.length) a' w) : wpList P ops Q os a w := by
  unfold runX at h; split at h
  · cases h
  · rename_i L2 B hc
    split at h
    · cases h
    · rename_i N' hN
      injection h with h
      injection h with h1 h2
      subst h1; refine chX_spec hM hF hI hs os L a L2 B F hc h2 fun a' F' => kont a' ?_
      exact ⟨F'.size, F'.defers, fun i v hv => F'.at' i v ((picks_spec F' _ N' hN).1 i v hv)⟩
def chXT (P : Program) (ops : Array Oper) (n : Nat) (md : Region.Mode) (z : Nat) (obs : List Ob) (Fs : List (Value × Value)) (Is : List Ix) : List (Nat × Hn) → Array Bool → List (Nat × Value) → Option (List (Nat × Value) × List Value)
  | [], _, L => some (L, [])
  | (i, h) :: r, listed, L => match ops[i]? with
    | none => none
    | some o => if (Region.free md ops listed i && ((Region.ready md ops listed).contains i && waits md ops z i)) then
        match stpX P ops n obs Fs Is L o h with
        | none => none
        | some (x, A) => match chXT P ops n md z obs Fs Is r (listed.setIfInBounds i true) (x :: L) with
          | none => none
          | some (L2, B) => some (L2, A ++ B)
      else none
def runXT (P : Program) (ops : Array Oper) (n : Nat) (md : Region.Mode) (z : Nat) (obs : List Ob) (Fs : List (Value × Value)) (Is : List Ix) (hs : List (Nat × Hn)) (listed : Array Bool) (L : List (Nat × Value)) (ids : List Nat) : Option (List (Nat × Value) × List Value) :=
  match chXT P ops n md z obs Fs Is hs listed L with
  | none => none
  | some (L2, B) => match picks L2 ids with
    | none => none
    | some N => some (N, B)
def addX (m : Nat) : List (Nat × Hn) → Nat
  | [] => m
  | _ :: r => addX m r + 1
def marksX : List (Nat × Hn) → Array Bool → Array Bool
  | [], l => l
  | (i, _) :: r, l => marksX r (l.setIfInBounds i true)
theorem chXT_spec {obs : List Ob} {Fs : List (Value × Value)} {Is : List Ix} (hM : ∀ w', S w' → MemOk w' obs) (hF : AllEq Fs) (hI : AllIx Is) (hS : S w) (hns : Region.noSelect ops = true) (hQ : ∀ c a a' w, Q (.panic c) a w → Q (.panic c) a' w) {m : Nat} : ∀ (hs : List (Nat × Hn)) (listed : Array Bool) (L : List (Nat × Value)) (a : Act) (L2 : List (Nat × Value)) (B : List Value), FrL n L a → chXT P ops n md z obs Fs Is hs listed L = some (L2, B) → B = claims obs Fs Is (hs.map (·.2)) →
    (∀ a', FrL n L2 a' → AnyT P md ops Q S z m (marksX hs listed) a' w) → AnyT P md ops Q S z (addX m hs) listed a w
  | [], listed, L, a, L2, B, F, h, _, kont => by
    simp only [chXT, Option.some.injEq, Prod.mk.injEq] at h; obtain ⟨rfl, _⟩ := h; exact kont a F
  | (i, h) :: r, listed, L, a, L2, B, F, hc, hB, kont => by
    simp only [chXT] at hc; split at hc
    · cases hc
    · rename_i o ho
      split at hc
      · rename_i hc0
        rw [Bool.and_eq_true, Bool.and_eq_true] at hc0; obtain ⟨hf, hr0, hz⟩ := hc0; split at hc
        · cases hc
        · rename_i x A hx
          split at hc
          · cases hc
          · rename_i L3 B' hr
            simp only [Option.some.injEq, Prod.mk.injEq] at hc; obtain ⟨rfl, rfl⟩ := hc; obtain ⟨hA, hB'⟩ := app_split (show A ++ B' = claim obs Fs Is h ++ claims obs Fs Is (r.map (·.2)) from hB) (stpX_len hx); obtain ⟨s, v⟩ := x; obtain ⟨hd, hs, hq⟩ := stpX_is F hF hI hx hA; have hy : YieldsIf P ops S o v a := by
              rcases hq with ⟨hw, rfl⟩ | ⟨hw, he⟩
              · exact Or.inr ⟨hw, rfl⟩
              · exact Or.inl ⟨hw, fun w' hs' => he w' (hM w' hs') a F⟩
            refine AnyT.take ho hns hf hr0 hz (fun c a' w' h => hQ c _ _ w' h) hy hS ?_; rw [hd]; exact chXT_spec hM hF hI hS hns hQ r _ _ _ _ _ (F.put s v hs) hr hB' kont
      · cases hc
theorem fr_xT (F : FrL n L a) (obs : List Ob) (Fs : List (Value × Value)) (Is : List Ix) (hs : List (Nat × Hn)) (N : List (Nat × Value)) (hS : S w) (hM : ∀ w', S w' → MemOk w' obs) (hF : AllEq Fs) (hI : AllIx Is) {m : Nat} {listed : Array Bool} (h : runXT P ops n md z obs Fs Is hs listed L (N.map (·.1)) = some (N, claims obs Fs Is (hs.map (·.2))))
    (kont : ∀ a', FrL n N a' → AnyT P md ops Q S z m (marksX hs listed) a' w)
    (hns : Region.noSelect ops = true := by kernel_rfl) (hQ : ∀ c a a' w, Q (.panic c) a w → Q (.panic c) a' w := by exact fun _ _ _ _ h => h) : AnyT P md ops Q S z (addX m hs) listed a w := by
  unfold runXT at h; split at h
  · cases h
  · rename_i L2 B hc
    split at h
    · cases h
    · rename_i N' hN
      injection h with h
      injection h with h1 h2
      subst h1; refine chXT_spec hM hF hI hS hns hQ hs listed L a L2 B F hc h2 fun a' F' => kont a' ?_
      exact ⟨F'.size, F'.defers, fun i v hv => F'.at' i v ((picks_spec F' _ N' hN).1 i v hv)⟩
end
theorem tT {b : Bool} (h : b = true) : Value.bool b = .bool true := by rw [h]
theorem tF {b : Bool} (h : b = false) : Value.bool b = .bool false := by rw [h]
theorem eqI {x y : Int} (h : x = y) : Value.bool (x == y) = .bool true := by rw [h, beq_self_eq_true]
theorem eqI' {x y : Int} (h : x ≠ y) : Value.bool (x == y) = .bool false := by rw [beq_eq_false_iff_ne.2 h]
theorem neI {x y : Int} (h : x ≠ y) : Value.bool (x != y) = .bool true := by rw [bne_iff_ne.2 h]
theorem neI' {x y : Int} (h : x = y) : Value.bool (x != y) = .bool false := by rw [h, bne_self_eq_false]
theorem dcT {p : Prop} [Decidable p] (h : p) : Value.bool (decide p) = .bool true := by rw [decide_eq_true h]
theorem dcF {p : Prop} [Decidable p] (h : ¬ p) : Value.bool (decide p) = .bool false := by rw [decide_eq_false h]
theorem addI {k : Nat} (h : k < 9223372036854775807) : Value.int .i64 (IntKind.i64.wrap ((k : Int) + 1)) = .int .i64 ((k + 1 : Nat) : Int) := by
  congr 1; rw [IntKind.wrap_i64]; omega
theorem eqS {x y : ByteArray} (h : x = y) : Value.bool (x.toList == y.toList) = .bool true := by rw [h, beq_self_eq_true]
theorem eqS' {x y : ByteArray} (h : x ≠ y) : Value.bool (x.toList == y.toList) = .bool false := by
  rw [beq_eq_false_iff_ne.2]; intro e; rw [Lib.toList_data, Lib.toList_data] at e; apply h
  cases x with
  | mk x => cases y with
    | mk y => exact congrArg ByteArray.mk (Array.toList_inj.1 e)
theorem neS {x y : ByteArray} (h : x ≠ y) : Value.bool (!(x.toList == y.toList)) = .bool true := by
  have := eqS' h; injection this with this
  rw [this]; rfl
theorem neS' {x y : ByteArray} (h : x = y) : Value.bool (!(x.toList == y.toList)) = .bool false := by rw [h, beq_self_eq_true]; rfl
theorem BoxAt.range {w : World} {X : Nat} {cs : Array Value} {T : TypeId} (h : BoxAt w X cs T) : w.rangeAt X 0 cs.toList := fun j v hv => by
  rw [Nat.zero_add, h.cells j, ← Array.getElem?_toList]; exact hv
end Go.Proofs.YtnnpokndajpkiaaDoor
namespace Go.Proofs.YtnnpokndajpkiaaDoor
open Go.RowKit
theorem one_cell {w : World} {b o : Nat} {v : Value} (h : w.cell? ⟨b, o, none⟩ = some v) : w.rangeAt b o [v] := fun j u hj => by
  cases j with
  | zero =>
    have e : some v = some u := hj; rw [← e]; exact h
  | succ j => simp at hj
end Go.Proofs.YtnnpokndajpkiaaDoor
namespace Go.Proofs.YtnnpokndajpkiaaDoor
open Go.RowKit
abbrev pQ (b o : Nat) : Value := .pointer (some ⟨b, o, none⟩)
def xC : Nat → List Hn → List Hn
  | 0, l => l
  | n + 1, l => .c :: xC n l
def xN : Nat → List Hn → List (Nat × Hn)
  | _, [] => []
  | i, h :: r => (i, h) :: xN (i + 1) r
structure Kn (w : World) where
  obs : List Ob
  fs : List (Value × Value)
  ix : List Ix
  hM : MemOk w obs
  hF : AllEq fs
  hI : AllIx ix
def k0 {w : World} : Kn w := ⟨[], [], [], trivial, trivial, trivial⟩
def kF {w : World} (fs : List (Value × Value)) (h : AllEq fs) : Kn w := ⟨[], fs, [], trivial, h, trivial⟩
def kO {w : World} (obs : List Ob) (h : MemOk w obs) : Kn w := ⟨obs, [], [], h, trivial, trivial⟩
def kOF {w : World} (obs : List Ob) (h : MemOk w obs) (fs : List (Value × Value)) (h2 : AllEq fs) : Kn w := ⟨obs, fs, [], h, h2, trivial⟩
section
variable {P : Program} {ops : Array Oper} {a : Act} {w : World} {Q : Exit → Act → World → Prop} {n : Nat} {L : List (Nat × Value)} {md : Region.Mode} {S : World → Prop} {z : Nat}
theorem xW {y : Code} (h : y.wp P Q a w) : wpList P ops (Exit.then (y.wp P Q) Q) [] a w := h
theorem xR {id : Nat} {l : List Oper} {y : Code} (h : wpList P l.toArray (Exit.then (y.wp P Q) Q) l a w) : (Code.seq (.region id l.toArray false) y).wp P Q a w := wp_seq (wp_region_lit h)
theorem xK {y : Code} (h : y.wp P Q a w) : Code.skip.wp P (Exit.then (y.wp P Q) Q) a w := wp_skip h
theorem xE {os : List Oper} {y : Code} (F : FrL n L a) (K : Kn w) (hs : List Hn) (N : List (Nat × Value)) (kont : ∀ a', FrL n N a' → y.wp P Q a' w) (h : runX P ops n K.obs K.fs K.ix hs os L (N.map (·.1)) = some (N, claims K.obs K.fs K.ix hs) := by kernel_rfl) (hl : os.drop hs.length = [] := by rfl) : wpList P ops (Exit.then (y.wp P Q) Q) os a w :=
  fr_x F K.obs K.fs K.ix hs N K.hM K.hF K.hI h (fun a' F' => by rw [hl]; exact kont a' F')
theorem xS {id : Nat} {l : List Oper} {y : Code} (K : Kn w) (hs : List Hn) (N : List (Nat × Value)) (kont : ∀ a', FrL n N a' → y.wp P Q a' w) (h : runX P l.toArray n K.obs K.fs K.ix hs l L (N.map (·.1)) = some (N, claims K.obs K.fs K.ix hs) := by kernel_rfl) (hl : l.drop hs.length = [] := by rfl) (a : Act) (F : FrL n L a) : (Code.seq (.region id l.toArray false) y).wp P Q a w := xR (xE F K hs N kont h hl)
theorem xG {id : Nat} {l : List Oper} {y : Code} (F : FrL n L a) (K : Kn w) (hs : List Hn) (N : List (Nat × Value)) (kont : ∀ a', FrL n N a' → y.wp P Q a' w) (h : runX P l.toArray n K.obs K.fs K.ix hs l L (N.map (·.1)) = some (N, claims K.obs K.fs K.ix hs) := by kernel_rfl) (hl : l.drop hs.length = [] := by rfl) : (Code.seq (.region id l.toArray false) y).wp P Q a w := xR (xE F K hs N kont h hl)
theorem fr_xc {os : List Oper} (F : FrL n L a) (K : Kn w) (hs : List Hn) (t : Nat) (v : Value) (N : List (Nat × Value)) (h : runX P ops n K.obs K.fs K.ix hs os L (t :: N.map (·.1)) = some ((t, v) :: N, claims K.obs K.fs K.ix hs))
    (kont : ∀ a', a'.eval (.tmp t) = v → FrL n N a' → wpList P ops Q (os.drop hs.length) a' w) : wpList P ops Q os a w := by
  unfold runX at h; split at h
  · cases h
  · rename_i L2 B hc
    split at h
    · cases h
    · rename_i N' hN
      injection h with h
      injection h with h1 h2
      subst h1; refine chX_spec K.hM K.hF K.hI hs os L a L2 B F hc h2 fun a' F' => ?_
      have hp := picks_spec F' _ _ hN; have ht : L2.lookup t = some v := hp.1 t v (by simp [List.lookup]); have hN2 : picks L2 (N.map (·.1)) = some N := by
        simp only [picks, ht] at hN; split at hN
        · cases hN
        · rename_i N2 h3
          injection hN with hN
          injection hN with _ hN
          rw [h3, hN]
      exact kont a' (F'.ev t ht) ⟨F'.size, F'.defers, fun i v hv => F'.at' i v ((picks_spec F' _ N hN2).1 i v hv)⟩
theorem eF {os : List Oper} {x y : Code} (F : FrL n L a) (K : Kn w) (hs : List Hn) (t : Nat) (N : List (Nat × Value)) (kont : ∀ a', FrL n N a' → y.wp P Q a' w) (h : runX P ops n K.obs K.fs K.ix hs os L (t :: N.map (·.1)) = some ((t, .bool false) :: N, claims K.obs K.fs K.ix hs) := by kernel_rfl) (hl : os.drop hs.length = [] := by rfl) : wpList P ops (Exit.then ((Code.cond (.tmp t) x .skip).wp P (Exit.then (y.wp P Q) Q)) (Exit.then (y.wp P Q) Q)) os a w :=
  fr_xc F K hs t _ N h (fun a' e F' => by rw [hl]; exact wp_cond_false e (wp_skip (kont a' F')))
theorem eT {os : List Oper} {x x' : Code} {Q' : Exit → Act → World → Prop} (F : FrL n L a) (K : Kn w) (hs : List Hn) (t : Nat) (N : List (Nat × Value)) (kont : ∀ a', FrL n N a' → x.wp P Q' a' w) (h : runX P ops n K.obs K.fs K.ix hs os L (t :: N.map (·.1)) = some ((t, .bool true) :: N, claims K.obs K.fs K.ix hs) := by kernel_rfl) (hl : os.drop hs.length = [] := by rfl) : wpList P ops (Exit.then ((Code.cond (.tmp t) x x').wp P Q') Q') os a w :=
  fr_xc F K hs t _ N h (fun a' e F' => by rw [hl]; exact wp_cond_true e (kont a' F'))
theorem xF {id : Nat} {l : List Oper} {x y : Code} (K : Kn w) (hs : List Hn) (t : Nat) (N : List (Nat × Value)) (kont : ∀ a', FrL n N a' → y.wp P Q a' w) (h : runX P l.toArray n K.obs K.fs K.ix hs l L (t :: N.map (·.1)) = some ((t, .bool false) :: N, claims K.obs K.fs K.ix hs) := by kernel_rfl) (hl : l.drop hs.length = [] := by rfl) (a : Act) (F : FrL n L a) : (Code.seq (.seq (.region id l.toArray false) (.cond (.tmp t) x .skip)) y).wp P Q a w := wp_seq (xR (eF F K hs t N kont h hl))
theorem xT {id : Nat} {l : List Oper} {x x' y : Code} (K : Kn w) (hs : List Hn) (t : Nat) (N : List (Nat × Value)) (kont : ∀ a', FrL n N a' → x.wp P (Exit.then (y.wp P Q) Q) a' w) (h : runX P l.toArray n K.obs K.fs K.ix hs l L (t :: N.map (·.1)) = some ((t, .bool true) :: N, claims K.obs K.fs K.ix hs) := by kernel_rfl) (hl : l.drop hs.length = [] := by rfl) (a : Act) (F : FrL n L a) : (Code.seq (.seq (.region id l.toArray false) (.cond (.tmp t) x x')) y).wp P Q a w := wp_seq (xR (eT F K hs t N kont h hl))
theorem xD {y : Code} (F : FrL n L a) (obs : List Ob) (Fs : List (Value × Value)) (Is : List Ix) (hs : List (Nat × Hn)) (N : List (Nat × Value)) (hS : S w) (hM : ∀ w', S w' → MemOk w' obs) (hF : AllEq Fs) (hI : AllIx Is) {m : Nat} {listed : Array Bool} (kont : ∀ a', FrL n N a' → y.wp P Q a' w) (h : runXT P ops n md z obs Fs Is hs listed L (N.map (·.1)) = some (N, claims obs Fs Is (hs.map (·.2))) := by kernel_rfl) (hr : Region.ready md ops (marksX hs listed) = [] := by kernel_rfl)
    (hns : Region.noSelect ops = true := by kernel_rfl) : AnyT P md ops (NoPanic (Exit.then (y.wp P Q) Q)) S z (addX m hs) listed a w :=
  fr_xT F obs Fs Is hs N hS hM hF hI h (fun a' F' => AnyT.done hr (NoPanic.normal (kont a' F')) _) hns (by exact fun _ _ _ _ h => h)
theorem dR {id : Nat} {y : Code} (S : World → Prop) (hm : P.follows .mixedOrders = true) (h : ∀ w8, Below w.heap.size w w8 → S w8 ∧ AnyT P .any ops (NoPanic (Exit.then (y.wp P Q) Q)) S 1000 ops.size (Array.replicate ops.size false) a w8) : (Code.seq (.region id ops true) y).wp P Q a w :=
  have hw := h w.drew (below_draws (n := 1) rfl); wp_seq (wp_region_noPanic (AnyT.begin hm hw.1 (fun _ => hw.2)))
theorem xGF {id : Nat} {l : List Oper} {x y : Code} (F : FrL n L a) (K : Kn w) (hs : List Hn) (t : Nat) (N : List (Nat × Value)) (kont : ∀ a', FrL n N a' → y.wp P Q a' w) (h : runX P l.toArray n K.obs K.fs K.ix hs l L (t :: N.map (·.1)) = some ((t, .bool false) :: N, claims K.obs K.fs K.ix hs) := by kernel_rfl) (hl : l.drop hs.length = [] := by rfl) : (Code.seq (.seq (.region id l.toArray false) (.cond (.tmp t) x .skip)) y).wp P Q a w := xF K hs t N kont h hl a F
theorem xGT {id : Nat} {l : List Oper} {x x' y : Code} (F : FrL n L a) (K : Kn w) (hs : List Hn) (t : Nat) (N : List (Nat × Value)) (kont : ∀ a', FrL n N a' → x.wp P (Exit.then (y.wp P Q) Q) a' w) (h : runX P l.toArray n K.obs K.fs K.ix hs l L (t :: N.map (·.1)) = some ((t, .bool true) :: N, claims K.obs K.fs K.ix hs) := by kernel_rfl) (hl : l.drop hs.length = [] := by rfl) : (Code.seq (.seq (.region id l.toArray false) (.cond (.tmp t) x x')) y).wp P Q a w := xT K hs t N kont h hl a F
theorem xP {os : List Oper} (F : FrL n L a) (K : Kn w) (hs : List Hn) (N : List (Nat × Value)) (kont : ∀ a', FrL n N a' → wpList P ops Q (os.drop hs.length) a' w) (h : runX P ops n K.obs K.fs K.ix hs os L (N.map (·.1)) = some (N, claims K.obs K.fs K.ix hs) := by kernel_rfl) : wpList P ops Q os a w := fr_x F K.obs K.fs K.ix hs N K.hM K.hF K.hI h kont
theorem xPT (F : FrL n L a) (obs : List Ob) (Fs : List (Value × Value)) (Is : List Ix) (hs : List (Nat × Hn)) (N : List (Nat × Value)) (hS : S w) (hM : ∀ w', S w' → MemOk w' obs) (hF : AllEq Fs) (hI : AllIx Is) {m : Nat} {listed : Array Bool} (kont : ∀ a', FrL n N a' → AnyT P md ops Q S z m (marksX hs listed) a' w) (h : runXT P ops n md z obs Fs Is hs listed L (N.map (·.1)) = some (N, claims obs Fs Is (hs.map (·.2))) := by kernel_rfl)
    (hns : Region.noSelect ops = true := by kernel_rfl) (hQ : ∀ c a a' w, Q (.panic c) a w → Q (.panic c) a' w := by exact fun _ _ _ _ h => h) : AnyT P md ops Q S z (addX m hs) listed a w := fr_xT F obs Fs Is hs N hS hM hF hI h kont hns hQ
theorem xPn (F : FrL n L a) (hs : List (Nat × Hn)) (N : List (Nat × Value)) (hS : S w) {m : Nat} {listed : Array Bool} (kont : ∀ a', FrL n N a' → AnyT P md ops Q S z m (marksX hs listed) a' w) (h : runXT P ops n md z [] [] [] hs listed L (N.map (·.1)) = some (N, claims [] [] [] (hs.map (·.2))) := by kernel_rfl) (hns : Region.noSelect ops = true := by kernel_rfl) (hQ : ∀ c a a' w, Q (.panic c) a w → Q (.panic c) a' w := by exact fun _ _ _ _ h => h) : AnyT P md ops Q S z (addX m hs) listed a w :=
  fr_xT F [] [] [] hs N hS (fun _ _ => trivial) trivial trivial h kont hns hQ
theorem xDn {y : Code} (F : FrL n L a) (hs : List (Nat × Hn)) (N : List (Nat × Value)) (hS : S w) {m : Nat} {listed : Array Bool} (kont : ∀ a', FrL n N a' → y.wp P Q a' w) (h : runXT P ops n md z [] [] [] hs listed L (N.map (·.1)) = some (N, claims [] [] [] (hs.map (·.2))) := by kernel_rfl) (hr : Region.ready md ops (marksX hs listed) = [] := by kernel_rfl) (hns : Region.noSelect ops = true := by kernel_rfl) : AnyT P md ops (NoPanic (Exit.then (y.wp P Q) Q)) S z (addX m hs) listed a w :=
  xD F [] [] [] hs N hS (fun _ _ => trivial) trivial trivial kont h hr hns
end
end Go.Proofs.YtnnpokndajpkiaaDoor
