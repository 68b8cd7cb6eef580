import Derived.Test.YtmppkgonkkffhaaDoorJoinF
namespace Go.Proofs.YtmppkgonkkffhaaDoor
open Go.RowKit
def wantsT (ops : Array Oper) (L : List (Nat × Value)) (o : Oper) : Option Bool :=
  match o.guard with
  | none => some true
  | some (g, want) => match (ops[g]?).bind (·.dst) with
    | none => none
    | some t => match L.lookup t with
      | some (.bool b) => some (b == want)
      | some (.tuple xs) => if xs.isEmpty then some false else none
      | _ => none
def stpT (P : Program) (ops : Array Oper) (n : Nat) (md : Region.Mode) (z : Nat) (listed : Array Bool) (L : List (Nat × Value)) (i : Nat) : Option (Nat × Value) :=
  match ops[i]? with
  | none => none
  | some o => if (Region.free md ops listed i && ((Region.ready md ops listed).contains i && waits md ops z i)) then
      match o.dst with
      | none => none
      | some s => if Nat.blt s n then
          match wantsT ops L o with
          | none => none
          | some false => some (s, undef)
          | some true => if noSel o.op && o.op.operands.toList.all (inDom L) then
              match alone P (execOp (known L) o) with
              | some (.value v) => some (s, v)
              | _ => none
            else none
        else none
    else none
def chT (P : Program) (ops : Array Oper) (n : Nat) (md : Region.Mode) (z : Nat) : List Nat → Array Bool → List (Nat × Value) → Option (List (Nat × Value))
  | [], _, L => some L
  | i :: r, listed, L => match stpT P ops n md z listed L i with
    | none => none
    | some x => chT P ops n md z r (listed.setIfInBounds i true) (x :: L)
def dstT (ops : Array Oper) (is : List Nat) : List Nat := is.filterMap fun i => (ops[i]?).bind (·.dst)
def runT (P : Program) (ops : Array Oper) (n : Nat) (md : Region.Mode) (z : Nat) (is : List Nat) (listed : Array Bool) (L : List (Nat × Value)) (ids : List Nat) : Option (List (Nat × Value)) :=
  if (dstT ops is).all (fun s => ids.contains s || !(L.lookup s).isSome) then
    match chT P ops n md z is listed L with
    | none => none
    | some L2 => picks L2 ids
  else none
def marks : List Nat → Array Bool → Array Bool
  | [], l => l
  | i :: r, l => marks r (l.setIfInBounds i true)
def addN (m : Nat) : List Nat → Nat
  | [] => m
  | _ :: r => addN m r + 1
section
variable {P : Program} {ops : Array Oper} {a : Act} {w : World} {Q : Exit → Act → World → Prop} {n : Nat} {L : List (Nat × Value)} {md : Region.Mode} {S : World → Prop} {z : Nat}
theorem wantsT_spec (F : FrL n L a) {o : Oper} {b : Bool} (h : wantsT ops L o = some b) : Region.wanted o (yielded ops a.tmps) = b := by
  unfold wantsT at h; split at h
  · rename_i hg
    injection h with h
    rw [← h]; exact free_want hg
  · rename_i g want hg
    split at h
    · cases h
    · rename_i t ht
      split at h
      · rename_i b2 hb
        injection h with h
        rw [← h]; exact wanted_at F hg ht hb
      · rename_i xs hb
        split at h
        · injection h with h
          subst h; unfold Region.wanted yielded; rw [hg]; simp only [ht, Option.bind_some, F.at' t _ hb]; cases want <;> rfl
        · cases h
      · cases h
theorem stpT_spec (F : FrL n L a) (hns : Region.noSelect ops = true) (hQ : ∀ c a a' w, Q (.panic c) a w → Q (.panic c) a' w) (hS : S w) {i s m : Nat} {v : Value} {listed : Array Bool} (h : stpT P ops n md z listed L i = some (s, v))
    (k : ∀ a', FrL n ((s, v) :: L) a' → AnyT P md ops Q S z m (listed.setIfInBounds i true) a' w) : AnyT P md ops Q S z (m + 1) listed a w := by
  unfold stpT at h; split at h
  · cases h
  · rename_i o ho
    split at h
    · rename_i hc0
      rw [Bool.and_eq_true, Bool.and_eq_true] at hc0; obtain ⟨hf, hr, hz⟩ := hc0; split at h
      · cases h
      · rename_i s' hd
        split at h
        · rename_i hs
          have hs' : s' < n := Nat.le_of_ble_eq_true hs; split at h
          · cases h
          · rename_i hw
            injection h with h
            injection h with h1 h2
            subst h1 h2; have hy : YieldsIf P ops S o undef a := Or.inr ⟨wantsT_spec F hw, rfl⟩; refine AnyT.take ho hns hf hr hz (fun c a' w' h => hQ c _ _ w' h) hy hS ?_; rw [hd]; exact k _ (F.put _ undef hs')
          · rename_i hw
            split at h
            · rename_i hc
              split at h
              · rename_i v' he
                injection h with h
                injection h with h1 h2
                subst h1 h2; rw [Bool.and_eq_true] at hc; have hy : YieldsIf P ops S o v' a := Or.inl ⟨wantsT_spec F hw, fun w' _ => by
                  rw [execOp_congr o (fun cs b e => by have h3 := hc.1; rw [e] at h3; cases h3) (fun x hx => known_ev F (List.all_eq_true.1 hc.2 x (by simpa using hx)))]; exact alone_run _ _ he w'⟩
                refine AnyT.take ho hns hf hr hz (fun c a' w' h => hQ c _ _ w' h) hy hS ?_; rw [hd]; exact k _ (F.put _ _ hs')
              · cases h
            · cases h
        · cases h
    · cases h
theorem stpT_dst {i s : Nat} {v : Value} {listed : Array Bool} (h : stpT P ops n md z listed L i = some (s, v)) : (ops[i]?).bind (·.dst) = some s := by
  unfold stpT at h; split at h
  · cases h
  · rename_i o ho
    rw [ho, Option.bind_some]; split at h
    · split at h
      · cases h
      · rename_i s' hd
        rw [hd]; split at h
        · split at h
          · cases h
          · injection h with h; injection h with h1 _; rw [h1]
          · split at h
            · split at h
              · injection h with h; injection h with h1 _; rw [h1]
              · cases h
            · cases h
        · cases h
    · cases h
theorem chT_spec (hns : Region.noSelect ops = true) (hQ : ∀ c a a' w, Q (.panic c) a w → Q (.panic c) a' w) (hS : S w) {m : Nat} : ∀ (is : List Nat) (listed : Array Bool) (L : List (Nat × Value)) (a : Act) (L2 : List (Nat × Value)), FrL n L a → chT P ops n md z is listed L = some L2 →
    (∀ a', FrL n L2 a' → AnyT P md ops Q S z m (marks is listed) a' w) → AnyT P md ops Q S z (addN m is) listed a w
  | [], listed, L, a, L2, F, h, kont => by
    simp only [chT, Option.some.injEq] at h; subst h; exact kont a F
  | i :: r, listed, L, a, L2, F, h, kont => by
    simp only [chT] at h; split at h
    · cases h
    · rename_i x hx
      obtain ⟨s, v⟩ := x; exact stpT_spec F hns hQ hS hx fun a' F' => chT_spec hns hQ hS r _ _ a' L2 F' h kont
theorem chT_old : ∀ (is : List Nat) (listed : Array Bool) (L L2 : List (Nat × Value)), chT P ops n md z is listed L = some L2 → ∀ i v, L.lookup i = some v → i ∉ dstT ops is → L2.lookup i = some v
  | [], listed, L, L2, h, i, v, hv, _ => by
    simp only [chT, Option.some.injEq] at h; subst h; exact hv
  | j :: r, listed, L, L2, h, i, v, hv, hi => by
    simp only [chT] at h; split at h
    · cases h
    · rename_i x hx
      obtain ⟨s, u⟩ := x; have hd := stpT_dst hx; unfold dstT at hi; rw [List.filterMap_cons, hd] at hi; simp only [List.mem_cons, not_or] at hi; refine chT_old r _ _ L2 h i v ?_ hi.2; rw [List.lookup_cons, beq_eq_false_iff_ne.2 hi.1]; exact hv
theorem fr_chT (F : FrL n L a) (is : List Nat) (N : List (Nat × Value)) (hS : S w) {m : Nat} {listed : Array Bool} (h : runT P ops n md z is listed L (N.map (·.1)) = some N) (kont : ∀ a', FrL n (N ++ L) a' → AnyT P md ops Q S z m (marks is listed) a' w)
    (hns : Region.noSelect ops = true := by kernel_rfl) (hQ : ∀ c a a' w, Q (.panic c) a w → Q (.panic c) a' w := by exact fun _ _ _ _ h => h) : AnyT P md ops Q S z (addN m is) listed a w := by
  unfold runT at h; split at h
  · rename_i hall
    split at h
    · cases h
    · rename_i L2 hL2
      refine chT_spec hns hQ hS is listed L a L2 F hL2 fun a' F' => kont a' ?_
      obtain ⟨h1, _⟩ := picks_spec F' _ N h; refine ⟨F'.size, F'.defers, fun i v hv => F'.at' i v ?_⟩; rcases lookup_app N L i v hv with h2 | ⟨h2, h3⟩
      · exact h1 i v h2
      · refine chT_old is listed L L2 hL2 i v h3 (fun hm => ?_)
        have h4 := List.all_eq_true.1 hall i hm; rw [h3] at h4; simp only [Option.isSome_some, Bool.not_true, Bool.or_false, List.contains_iff_mem] at h4; exact lookup_none_of N h2 h4
  · cases h
end
end Go.Proofs.YtmppkgonkkffhaaDoor
