import Derived.Test.YtnnpokndajpkiaaDoorBase
import Derived.OrdersHeld
import Derived.Deep.RegionHeld3
import Derived.Test.YtnnpokndajpkiaaDoorJoinC
import Derived.Great.BuildSlice
import Derived.Test.YtnnpokndajpkiaaDoorJoinA
import Derived.Test.YtnnpokndajpkiaaDoorJoinD
import Derived.Lib.AppendStr
namespace Go.Proofs.YtnnpokndajpkiaaDoor
open Go.RowKit
section
variable {P : Program} {ops : Array Oper} {Q : Exit → Act → World → Prop} {md : Region.Mode} {S : World → Prop} {z : Nat}
def AnyT (P : Program) (md : Region.Mode) (ops : Array Oper) (Q : Exit → Act → World → Prop) (S : World → Prop) (z : Nat) : Nat → Array Bool → Act → World → Prop
  | 0, listed, a, w => Region.ready md ops listed = [] ∧ Q .normal a w
  | n + 1, listed, a, w => (Region.ready md ops listed = [] → Q .normal a w) ∧
      ∀ i ∈ Region.ready md ops listed, wpOp P ops Q i (fun b u => (i ≠ z → S u) ∧ AnyT P md ops Q S z n (listed.setIfInBounds i true) b u) a w
theorem AnyT.any : ∀ (n : Nat) (listed : Array Bool) (a : Act) (w : World), AnyT P md ops Q S z n listed a w → wpAny P md ops Q n listed a w
  | 0, _, _, _, h => h
  | n + 1, _, _, _, h => ⟨h.1, fun i hi => wpOp_mono (fun b u k => AnyT.any n _ b u k.2) (h.2 i hi)⟩
def waits (md : Region.Mode) (ops : Array Oper) (z i : Nat) : Bool := match ops[z]? with
  | some o => o.after.any fun e => e.on == i && Region.binds md e
  | none => true
theorem not_ready {i : Nat} (hz : waits md ops z i = true) {listed : Array Bool} (hi : i ∈ Region.ready md ops listed) : z ∉ Region.ready md ops listed := by
  intro hr; obtain ⟨_, oz, ho, hall⟩ := mem_ready.1 hr; unfold waits at hz; rw [ho] at hz; obtain ⟨e, he, hb⟩ := Array.any_eq_true'.1 hz; rw [Bool.and_eq_true, beq_iff_eq] at hb; have h1 := hall e he hb.2; have h0 := (mem_ready.1 hi).1; rw [hb.1] at h1; rcases Nat.lt_or_ge i listed.size with h | h
  · simp [h] at h0 h1; rw [h0] at h1; cases h1
  · simp [Array.getElem?_eq_none h] at h1
theorem AnyT.first {i : Nat} {oi : Oper} {v : Value} (hi : ops[i]? = some oi) (hsel : ∀ (j : Nat) (o : Oper) cs b, ops[j]? = some o → o.op ≠ .select cs b) (hz : waits md ops z i = true)
    (hQ : ∀ c a w, Q (.panic c) (a.put oi.dst v) w → Q (.panic c) a w) : ∀ (n : Nat) (listed : Array Bool) (a : Act) (w : World),
      (∀ j oj, ops[j]? = some oj → j ≠ i → listed.getD j true = false → (∀ e ∈ oj.after, Region.binds md e = true → e.on ≠ i) → oi.apart ops oj = true) →
      i ∈ Region.ready md ops listed → YieldsIf P ops S oi v a → S w → AnyT P md ops Q S z n (listed.setIfInBounds i true) (a.put oi.dst v) w → AnyT P md ops Q S z (n + 1) listed a w := by
  intro n; induction n with
  | zero =>
    intro listed a w _ hr hy hS H; refine ⟨fun h => (by rw [h] at hr; cases hr), fun j hj => ?_⟩; by_cases hji : j = i
    · subst hji; exact hy.wpOp hi hS ⟨fun _ => hS, H⟩
    · have h := ready_mono hj hji
      rw [H.1] at h; cases h
  | succ n ih =>
    intro listed a w hfree hr hy hS H; refine ⟨fun h => (by rw [h] at hr; cases hr), fun j hj => ?_⟩; by_cases hji : j = i
    · subst hji; exact hy.wpOp hi hS ⟨fun _ => hS, H⟩
    · have hjz : j ≠ z := fun e => not_ready hz hr (e ▸ hj)
      have h1 := H.2 j (ready_mono hj hji); obtain ⟨hun, oj, hoj, hall⟩ := mem_ready.1 hj; have hnot : ∀ e ∈ oj.after, Region.binds md e = true → e.on ≠ i := fun e he hb heq => by
        have k1 := hall e he hb; have k0 := (mem_ready.1 hr).1; rw [heq] at k1; rcases Nat.lt_or_ge i listed.size with h | h
        · simp [h] at k0 k1; rw [k0] at k1; cases k1
        · simp [Array.getElem?_eq_none h] at k1
      have h2 := wpOp_putIf hoj (hfree j oj hoj hji hun hnot) (fun cs b => hsel i oi cs b hi) (fun cs b => hsel j oj cs b hoj) hQ hy h1; have hfree' : ∀ k ok, ops[k]? = some ok → k ≠ i → (listed.setIfInBounds j true).getD k true = false →
          (∀ e ∈ ok.after, Region.binds md e = true → e.on ≠ i) → oi.apart ops ok = true := fun k ok hk hki hu hno => by
        refine hfree k ok hk hki ?_ hno; by_cases hjk : j = k
        · subst hjk; exact hun
        · rw [getD_set_ne true hjk] at hu; exact hu
      refine wpOp_mono (fun b u h3 => ⟨h3.2.1, ih (listed.setIfInBounds j true) b u hfree' (ready_mono hr (Ne.symm hji)) h3.1 (h3.2.1 hjz) ?_⟩) h2; rw [Array.setIfInBounds_comm _ _ hji]; exact h3.2.2
theorem AnyT.take {i : Nat} {oi : Oper} {v : Value} {n : Nat} {listed : Array Bool} {a : Act} {w : World} (hi : ops[i]? = some oi) (hs : Region.noSelect ops = true) (hf : Region.free md ops listed i = true)
    (hr : (Region.ready md ops listed).contains i = true) (hz : waits md ops z i = true) (hQ : ∀ c a w, Q (.panic c) (a.put oi.dst v) w → Q (.panic c) a w) (hy : YieldsIf P ops S oi v a) (hS : S w)
    (h : AnyT P md ops Q S z n (listed.setIfInBounds i true) (a.put oi.dst v) w) : AnyT P md ops Q S z (n + 1) listed a w :=
  AnyT.first hi (Region.noSelect_spec hs) hz hQ n listed a w (Region.free_spec hi hf) (by simpa using hr) hy hS h
theorem AnyT.step {i : Nat} {o : Oper} {n : Nat} {listed : Array Bool} {a : Act} {w : World} (hr : Region.ready md ops listed = [i]) (ho : ops[i]? = some o)
    (h : ∀ K : Act → World → Prop, Shut (∀ b u, (i ≠ z → S u) → ((i ≠ z → S u) → AnyT P md ops Q S z n (listed.setIfInBounds i true) b u) → K b u) → if Region.wanted o (yielded ops a.tmps) = true then Oper.wp P o a w K Q else K (a.put o.dst undef) w) :
    AnyT P md ops Q S z (n + 1) listed a w := by
  refine ⟨fun h0 => (by rw [hr] at h0; cases h0), fun j hj => ?_⟩; rw [hr, List.mem_singleton] at hj; subst hj; exact wpOp_step ho (fun K hK => h K (fun b u hS hW => hK b u ⟨hS, hW hS⟩))
theorem AnyT.done {listed : Array Bool} {a : Act} {w : World} (hr : Region.ready md ops listed = []) (h : Q .normal a w) : ∀ n, AnyT P md ops Q S z n listed a w
  | 0 => ⟨hr, h⟩
  | _ + 1 => ⟨fun _ => h, by rw [hr]; simp⟩
theorem AnyT.begin {id : Nat} {a : Act} {w : World} (hm : P.follows .mixedOrders = true) (hS : S w.drew) (h : S w.drew → AnyT P .any ops Q S z ops.size (Array.replicate ops.size false) a w.drew) : (Code.region id ops true).wp P Q a w :=
  wp_region_any hm (AnyT.any _ _ _ _ (h hS))
end
end Go.Proofs.YtnnpokndajpkiaaDoor
namespace Go.Proofs.YtnnpokndajpkiaaDoor
open Go.RowKit
section
variable {P : Program} {ops : Array Oper} {rest : List Oper} {a : Act} {w : World} {Q : Exit → Act → World → Prop} {n : Nat} {L : List (Nat × Value)} {o : Oper}
end
end Go.Proofs.YtnnpokndajpkiaaDoor
namespace Go.Proofs.YtnnpokndajpkiaaDoor
open Go.RowKit
section
variable {P : Program} {ops : Array Oper} {rest : List Oper} {a : Act} {w : World} {Q : Exit → Act → World → Prop} {n : Nat} {L : List (Nat × Value)} {o o2 : Oper} {md : Region.Mode} {S : World → Prop} {z : Nat}
theorem fr_new (F : FrL n L a) {w0 : World} {B : List Box} {R : List Row} (HK : Keep w0 B R w) (s : Nat) (hs : s < n) (g1 : o.guard = none) (ty : TypeId) (h1 : o.op = .alloc ty) (hd : o.dst = some s) (g2 : o2.guard = none) (y : Operand) (h2 : o2.op = .store ty (.tmp s) y) (hd2 : o2.dst = none)
    (i : TypeInfo) (z : Value) (hi : P.info? ty = some i) (hz : i.zero = some z) (cells : Array Value) (hsz : i.size = cells.size) (hzs : z.cells.size = cells.size) (hone : cells.all (·.oneCell') = true)
    (hy : ∀ a' Y, FrL n ((s, .pointer (some ⟨Y, 0, none⟩)) :: L) a' → a'.eval y = .agg cells)
    (k : ∀ Y a' w', w.heap.size = Y → FrL n ((s, .pointer (some ⟨Y, 0, none⟩)) :: L) a' → Keep w0 ((Y, cells, ty) :: B) R w' → Below w.heap.size w w' → wpList P ops Q rest a' w') : wpList P ops Q (o :: o2 :: rest) a w := by
  have F2 := F.put s (.pointer (some ⟨w.heap.size, 0, none⟩)) hs; refine wpList_new g1 ty h1 (some s) hd g2 (.tmp s) y h2 hd2 i z hi hz cells hsz hzs hone (F2.ev s ?_) (hy _ _ F2) (k _ _ _ rfl F2 (HK.alloc _ _) ((Below.refl _ _).alloc (Nat.le_refl _) _)); rw [List.lookup_cons, beq_self_eq_true]
theorem fr_take (F : FrL n L a) {i m : Nat} {listed : Array Bool} (hS : S w) (hi : ops[i]? = some o) (hg : o.guard = none) (s : Nat) (hd : o.dst = some s) (hs : s < n) (v : Value) (he : ∀ w', S w' → ∀ a', FrL n L a' → (execOp a'.eval o).run P w' = .ok (.value v) w')
    (k : ∀ a', FrL n ((s, v) :: L) a' → AnyT P md ops Q S z m (listed.setIfInBounds i true) a' w)
    (hns : Region.noSelect ops = true := by kernel_rfl) (hf : Region.free md ops listed i = true := by kernel_rfl) (hr : (Region.ready md ops listed).contains i = true := by kernel_rfl) (hz : waits md ops z i = true := by kernel_rfl)
    (hQ : ∀ c a w, Q (.panic c) (a.put o.dst v) w → Q (.panic c) a w := by exact fun _ _ _ h => h) : AnyT P md ops Q S z (m + 1) listed a w := by
  refine AnyT.take hi hns hf hr hz hQ (Or.inl ⟨free_want hg, fun w' h => he w' h a F⟩) hS ?_; rw [hd]; exact k _ (F.put s v hs)
theorem fr_step (F : FrL n L a) {i m : Nat} {listed : Array Bool} (hi : ops[i]? = some o) (hg : o.guard = none) (s : Nat) (hd : o.dst = some s) (hs : s < n) (v : Value) (w2 : World) (he : ∀ a', FrL n L a' → (execOp a'.eval o).run P w = .ok (.value v) w2) (hS : S w2)
    (k : ∀ a', FrL n ((s, v) :: L) a' → AnyT P md ops Q S z m (listed.setIfInBounds i true) a' w2) (hr : Region.ready md ops listed = [i] := by kernel_rfl) : AnyT P md ops Q S z (m + 1) listed a w := by
  refine AnyT.step hr hi (fun K hK => ?_); rw [if_pos (free_want hg)]; unfold Oper.wp; rw [he a F]; refine hK.out _ _ (fun _ => hS) (fun _ => ?_); rw [hd]; exact k _ (F.put s v hs)
theorem fr_last (F : FrL n L a) {m : Nat} {listed : Array Bool} (hi : ops[z]? = some o) (hg : o.guard = none) (hd : o.dst = none) (w2 : World) (he : ∀ a', FrL n L a' → (execOp a'.eval o).run P w = .ok .skip w2)
    (k : ∀ a', FrL n L a' → AnyT P md ops Q S z m (listed.setIfInBounds z true) a' w2) (hr : Region.ready md ops listed = [z] := by kernel_rfl) : AnyT P md ops Q S z (m + 1) listed a w := by
  refine AnyT.step hr hi (fun K hK => ?_); rw [if_pos (free_want hg)]; unfold Oper.wp; rw [he a F]; refine hK.out _ _ (fun h => absurd rfl h) (fun _ => ?_); rw [hd]; exact k _ F
theorem run_append (s x : Operand) (t : TypeId) (ho : o.op = .call { callee := .builtin .append, args := #[s, x], argTypes := #[t, t] })
    (base : Nat) (e : TypeId) (i : TypeInfo) (z : Value) (size bytes : Nat) (ht : P.underlying t = some (.slice e)) (hi : P.info? e = some i) (hz : i.zero = some z)
    (hsize : i.size = size) (hby : i.bytes = bytes) (hzs : z.cells.size = size) (hsz : 0 < size)
    (v : Value) (n : Nat) (xs : List Value) (hown : w.ownsRow base e size v n xs)
    (ad : Addr) (m c : Nat) (news : List Value) (hl : news.length = m * size) (hnews : ∀ j u, news[j]? = some u → w.cell? (ad.add j) = some u) (h1 : ∀ u ∈ news, u.oneCell' = true)
    (h63 : n + m ≤ maxLen) (hbytes : (n + m) * bytes ≤ 140737488355328) (hbase : base ≤ w.heap.size) :
    ∃ v' w', (∀ ρ : Operand → Value, ρ s = v → ρ x = .slice (some ad) m c → (execOp ρ o).run P w = .ok (.value v') w') ∧ w'.ownsRow base e size v' (n + m) (xs ++ news) ∧ w.grownBy w' v.ownBlock := by
  obtain ⟨v', w', hr, h2, h3, _⟩ := run_append_own (P := P) (w := w) base t o.type e i z size bytes ht hi hz hsize hby hzs hsz v n xs hown ad m c news hl hnews h1 h63 hbytes hbase; refine ⟨v', w', fun ρ hs hx => ?_, h2, h3⟩; unfold execOp; simp only [ho, resolve, invoke, builtin, Sem.run_bind, Sem.run_pure, Result.andThen_ok, List.map_toArray, List.map_cons, List.map_nil, hs, hx, hr]
theorem fr_append (F : FrL n L a) {i m0 : Nat} {listed : Array Bool} (hi0 : ops[i]? = some o) (hg : o.guard = none) (s : Nat) (hd : o.dst = some s) (hs : s < n) (sv x : Operand) (t : TypeId) (ho : o.op = .call { callee := .builtin .append, args := #[sv, x], argTypes := #[t, t] })
    (base : Nat) (e : TypeId) (i0 : TypeInfo) (z0 : Value) (size bytes : Nat) (ht : P.underlying t = some (.slice e)) (hi : P.info? e = some i0) (hz : i0.zero = some z0)
    (hsize : i0.size = size) (hby : i0.bytes = bytes) (hzs : z0.cells.size = size) (hsz : 0 < size)
    (v : Value) (n0 : Nat) (xs : List Value) (hown : w.ownsRow base e size v n0 xs)
    (ad : Addr) (m c : Nat) (news : List Value) (hl : news.length = m * size) (hnews : ∀ j u, news[j]? = some u → w.cell? (ad.add j) = some u) (h1 : ∀ u ∈ news, u.oneCell' = true)
    (h63 : n0 + m ≤ maxLen) (hbytes : (n0 + m) * bytes ≤ 140737488355328) (hbase : base ≤ w.heap.size)
    (hsv : ∀ a', FrL n L a' → a'.eval sv = v) (hx : ∀ a', FrL n L a' → a'.eval x = .slice (some ad) m c)
    (k : ∀ v' w', w'.ownsRow base e size v' (n0 + m) (xs ++ news) → w.grownBy w' v.ownBlock → S w' ∧ ∀ a', FrL n ((s, v') :: L) a' → AnyT P md ops Q S z m0 (listed.setIfInBounds i true) a' w')
    (hr : Region.ready md ops listed = [i] := by kernel_rfl) : AnyT P md ops Q S z (m0 + 1) listed a w := by
  obtain ⟨v', w', hrun, h2, h3⟩ := run_append (P := P) (w := w) (o := o) sv x t ho base e i0 z0 size bytes ht hi hz hsize hby hzs hsz v n0 xs hown ad m c news hl hnews h1 h63 hbytes hbase; obtain ⟨hS, hk⟩ := k v' w' h2 h3; exact fr_step F hi0 hg s hd hs v' w' (fun a' F' => hrun _ (hsv a' F') (hx a' F')) hS hk hr
theorem only_setCells {X : Nat} : ∀ (vs : List Value) (j : Nat) (w w' : World), Only (fun i => i = X) w w' → Only (fun i => i = X) w (w'.setCells X j vs)
  | [], _, _, _, h => h
  | v :: r, j, w, _w', h => only_setCells r (j + 1) w _ (h.setCell (F := fun i => i = X) (p := ⟨X, j, none⟩) (Or.inl rfl) v)
theorem fr_putO (F : FrL n L a) {w0 : World} {B : List Box} {R : List Row} (HK : Keep w0 B R w) (i : Nat) {X : Nat} {old : Array Value} {T : TypeId} (hi : B[i]? = some (X, old, T)) (hg : o.guard = none) (hd : o.dst = none) (ty : TypeId) (x y : Operand) (ho : o.op = .store ty x y) (j : Nat) (v : Value)
    (hx : ∀ a', FrL n L a' → a'.eval x = .pointer (some ⟨X, j, none⟩)) (hy : ∀ a', FrL n L a' → a'.eval y = v) (hz : (P.info? ty).map (·.size) = some v.cells.size) (hfit : j + v.cells.size ≤ old.size) (h1 : v.cells.all (·.oneCell') = true)
    (k : ∀ a' w', FrL n L a' → Keep w0 (B.set i (X, setMany old j v.cells.toList, T)) R w' → Only (fun i => i = X) w w' → wpList P ops Q rest a' w') : wpList P ops Q (o :: rest) a w :=
  wpList_plain hg fun K hK => by
    have hb := HK.at i hi; unfold Oper.wp execOp; simp only [ho, hx a F, hy a F, Instr.storeAt, Instr.sureAddr, Sem.run_bind, Sem.run_pure, Result.andThen_ok, run_put w X j ty v (box_there hb j _ hfit) hz h1]; show K (a.put o.dst undef) _; rw [hd]; exact hK _ _ (k _ _ F (keep_setCells _ _ _ _ _ HK hi) (only_setCells _ _ _ _ (Only.refl _ _)))
theorem run_load_midF {ρ : Operand → Value} (ty : TypeId) (x : Operand) (ho : o.op = .load ty x) (b j : Nat) (hx : ρ x = .pointer (some ⟨b, j, none⟩)) (cs : List Value) (d : TypeDesc) (hc : w.rangeAt b j cs)
    (hu : P.underlying ty = some d) (hd : d.isRow = true) (hi : (P.info? ty).map (·.size) = some cs.length) : (execOp ρ o).run P w = .ok (.value (.agg cs.toArray)) w := by
  unfold execOp; simp only [ho, hx, run_loadAt_mid w b j ty cs d hc hu hd hi, Sem.run_bind, Sem.run_pure, Result.andThen_ok]
theorem fr_alloc (F : FrL n L a) {w0 : World} {B : List Box} {R : List Row} (HK : Keep w0 B R w) (s : Nat) (hs : s < n) (g1 : o.guard = none) (ty : TypeId) (h1 : o.op = .alloc ty) (hd : o.dst = some s)
    (i : TypeInfo) (z : Value) (hi : P.info? ty = some i) (hz : i.zero = some z)
    (k : ∀ Y a' w', w.heap.size = Y → FrL n ((s, .pointer (some ⟨Y, 0, none⟩)) :: L) a' → Keep w0 ((Y, z.cells, ty) :: B) R w' → Below w.heap.size w w' → wpList P ops Q rest a' w') : wpList P ops Q (o :: rest) a w := by
  refine Great.wpList_allocTo g1 (some s) hd (.pointer (some ⟨w.heap.size, 0, none⟩)) (.cells z.cells ty) ?_ (k _ _ _ rfl (F.put s _ hs) (HK.alloc _ _) ((Below.refl _ _).alloc (Nat.le_refl _) _)); unfold execOp; simp [h1, Instr.alloc, zeroValue, typeInfo, hi, hz, newVar, newRow]
theorem fr_box (F : FrL n L a) {w0 : World} {B : List Box} {R : List Row} (HK : Keep w0 B R w) (s : Nat) (hs : s < n) (g1 : o.guard = none) (ty : TypeId) (x : Operand) (h1 : o.op = .box ty x) (hd : o.dst = some s)
    (cells : Array Value) (hx : ∀ a', FrL n L a' → a'.eval x = .agg cells)
    (k : ∀ Y a' w', w.heap.size = Y → FrL n ((s, .pointer (some ⟨Y, 0, none⟩)) :: L) a' → Keep w0 ((Y, cells, ty) :: B) R w' → Below w.heap.size w w' → wpList P ops Q rest a' w') : wpList P ops Q (o :: rest) a w :=
  Great.wpList_boxTo g1 ty x h1 (some s) hd _ rfl cells (by rw [hx a F]; rfl) (k _ _ _ rfl (F.put s _ hs) (HK.alloc _ _) ((Below.refl _ _).alloc (Nat.le_refl _) _))
theorem fr_storeO (F : FrL n L a) {w0 : World} {B : List Box} {R : List Row} (HK : Keep w0 B R w) (i : Nat) {X : Nat} {old : Array Value} {T : TypeId} (hi : B[i]? = some (X, old, T)) (hg : o.guard = none) (hd : o.dst = none) (ty : TypeId) (x y : Operand) (ho : o.op = .store ty x y) (cs : Array Value)
    (hx : ∀ a', FrL n L a' → a'.eval x = .pointer (some ⟨X, 0, none⟩)) (hy : ∀ a', FrL n L a' → a'.eval y = .agg cs) (hz : (P.info? ty).map (·.size) = some cs.size) (hold : old.size = cs.size) (h1 : cs.all (·.oneCell') = true)
    (k : ∀ a' w', FrL n L a' → Keep w0 (B.set i (X, cs, T)) R w' → Only (fun j => j = X) w w' → wpList P ops Q rest a' w') : wpList P ops Q (o :: rest) a w := by
  refine wpList_store_box hg ty x y ho X cs (hx a F) (hy a F) T old (HK.at i hi) hz hold h1 ?_; intro w' hbx hon; rw [hd]; exact k _ _ F (HK.only hi hon hbx) hon
theorem FrL.get (F : FrL n L a) (i : Nat) {v : Value} (h : L.lookup i = some v) : a.tmps.getD i undef = v := by
  have := F.at' i v h; simp [this]
theorem fr_ret3 {fn : Func} {R' : Ending → World → Prop} (F : FrL n L a) {p u t : Nat} {ty : TypeId} (h : fn.results = #[.cell p ty, .tmp u, .tmp t]) {X : Nat} {cs : Array Value} {T : TypeId} {d : TypeDesc}
    (hp : L.lookup p = some (.pointer (some ⟨X, 0, none⟩))) (hb : BoxAt w X cs T) (hu : P.underlying ty = some d) (hd : (match d with | .struct _ | .array _ _ => true | _ => false) = true) (hi : (P.info? ty).map (·.size) = some cs.size)
    (x y : Value) (hx : L.lookup u = some x) (hy : L.lookup t = some y) (hR : R' (.returned (.tuple #[.agg cs, x, y])) w) : bodyPost P fn R' .ret a w := by
  refine bodyPost_ret ?_ F.defers hR; have hp' : a.tmps[p]? = some (.pointer (some ⟨X, 0, none⟩)) := F.at' p _ hp; have hx' : a.tmps[u]? = some x := F.at' u _ hx; have hy' : a.tmps[t]? = some y := F.at' t _ hy; simp [results, h, hp', hx', hy', asAddr, run_loadVar_row w X T ty cs (0, 0) d hb hu hd hi]
theorem run_slice1 {ρ : Operand → Value} (t e : TypeId) (x : Operand) (ho : o.op = .buildSlice t 1 #[(0, x)]) (cells : Array Value) (hx : ρ x = .agg cells) (ie : TypeInfo) (zz : Value)
    (hu : P.underlying t = some (.slice e)) (hie : P.info? e = some ie) (hz : ie.zero = some zz) (hsmall : ¬ 1 * ie.size > 2 ^ 24) (hpos : ¬ 1 * ie.size = 0)
    (h : Instr.fill (fun i => some (i * ie.size, ie.size)) ((Array.range (1 * ie.size)).map (zz.cells[· % zz.cells.size]!)) [(0, .agg cells)] = some cells) :
    (execOp ρ o).run P w = .ok (.value (.slice (some ⟨w.heap.size, 0, none⟩) 1 1)) (w.alloc (.cells cells e)) := by
  have hr := run_buildSlice (P := P) w t e 1 #[(0, .agg cells)] cells ie zz hu hie hz hsmall hpos h; unfold execOp; simp only [ho, List.map_toArray, List.map_cons, List.map_nil, hx, Sem.run_bind, hr, Result.andThen_ok, Sem.run_pure]
theorem run_store {ρ : Operand → Value} {w0 : World} {B : List Box} {R : List Row} (HK : Keep w0 B R w) (i : Nat) {X : Nat} {old : Array Value} {T : TypeId} (hi : B[i]? = some (X, old, T)) (ty : TypeId) (x y : Operand) (ho : o.op = .store ty x y) (j : Nat) (v : Value)
    (hx : ρ x = .pointer (some ⟨X, j, none⟩)) (hy : ρ y = v) (hz : (P.info? ty).map (·.size) = some v.cells.size) (hfit : j + v.cells.size ≤ old.size) (h1 : v.cells.all (·.oneCell') = true) :
    (execOp ρ o).run P w = .ok .skip (w.setCells X j v.cells.toList) := by
  have hb := HK.at i hi; unfold execOp; simp only [ho, hx, hy, Instr.storeAt, Instr.sureAddr, Sem.run_bind, Sem.run_pure, Result.andThen_ok, run_put w X j ty v (box_there hb j _ hfit) hz h1]
end
end Go.Proofs.YtnnpokndajpkiaaDoor
namespace Go.Proofs.YtnnpokndajpkiaaDoor
open Go.RowKit
section
variable {P : Program} {w : World} {o : Oper}
theorem run_conv {ρ : Operand → Value} (src dst : TypeId) (x : Operand) (ho : o.op = .convert src dst x) (v u : Value) (hx : ρ x = v) (hc : (convert src dst v).run P w = .ok u w) : (execOp ρ o).run P w = .ok (.value u) w := by
  unfold execOp; simp only [ho, hx, Sem.run_bind, hc, Result.andThen_ok, Sem.run_pure]
end
end Go.Proofs.YtnnpokndajpkiaaDoor
namespace Go.Proofs.YtnnpokndajpkiaaDoor
open Go.RowKit
def OnlyT (E : TypeId → Prop) (w w' : World) : Prop := Only (fun j => ∃ cur t fr, w.heap[j]? = some (.cells cur t fr) ∧ E t) w w'
section
variable {E : TypeId → Prop} {a b c w w' : World}
theorem OnlyT.refl (E : TypeId → Prop) (w : World) : OnlyT E w w := Only.refl _ _
theorem OnlyT.trans (h : OnlyT E a b) (k : OnlyT E b c) : OnlyT E a c :=
  Only.trans h k (fun j hj ⟨cur, t, fr, h2, h3⟩ => by
    by_cases hF : ∃ cur t fr, a.heap[j]? = some (.cells cur t fr) ∧ E t
    · exact hF
    · rw [h.block j hj hF] at h2
      exact ⟨cur, t, fr, h2, h3⟩)
theorem OnlyT.of_below (h : Below w.heap.size w w') : OnlyT E w w' := Only.of_below h _
theorem OnlyT.then (h : OnlyT E a b) (k : Below b.heap.size b c) : OnlyT E a c := h.trans (OnlyT.of_below k)
theorem OnlyT.mono {E' : TypeId → Prop} (h : OnlyT E w w') (hE : ∀ t, E t → E' t) : OnlyT E' w w' := h.weaken (fun _ ⟨cur, t, fr, h1, h2⟩ => ⟨cur, t, fr, h1, hE t h2⟩)
theorem OnlyT.box (h : OnlyT E w w') {X : Nat} {cs : Array Value} {T : TypeId} (hb : BoxAt w X cs T) (hT : ¬ E T) : BoxAt w' X cs T :=
  hb.only h (fun ⟨cur, t, fr, e, h2⟩ => by
    unfold BoxAt at hb; rw [hb] at e; injection e with e
    injection e with _ e _
    exact hT (e ▸ h2))
theorem OnlyT.own (h : OnlyT E w w') {B n size : Nat} {e : TypeId} {x : Value} {xs : List Value} (ho : w.ownsRow B e size x n xs) (hT : ¬ E e) : w'.ownsRow B e size x n xs :=
  own_only ho h (fun g hg ⟨cur, t, fr, e1, h2⟩ => by
    rcases ho.2 with ⟨rfl, _⟩ | ⟨g', cap, cur', rfl, _, hh, _⟩
    · simp [Value.ownBlock] at hg
    · have : g' = g := by simpa [Value.ownBlock] using hg
      subst this; rw [hh] at e1; injection e1 with e1
      injection e1 with _ e1 _
      exact hT (e1 ▸ h2))
theorem OnlyT.set {X : Nat} (k : Only (fun j => j = X) w w') {cs : Array Value} {T : TypeId} (hb : BoxAt w X cs T) (hT : E T) : OnlyT E w w' :=
  k.weaken (fun j hj => by subst hj; exact ⟨_, _, _, hb, hT⟩)
theorem OnlyT.grown {B n size : Nat} {e : TypeId} {v : Value} {xs : List Value} (h : w.ownsRow B e size v n xs) (hE : E e) (k : w.grownBy w' v.ownBlock) : OnlyT E w w' :=
  (only_grown k).weaken (fun j hj => by
    rcases h.2 with ⟨rfl, _⟩ | ⟨g', cap, cur, rfl, _, hh, _⟩
    · simp [Value.ownBlock] at hj
    · have : g' = j := by simpa [Value.ownBlock] using hj
      subst this; exact ⟨cur, e, _, hh, hE⟩)
end
section
variable {P : Program} {ops : Array Oper} {rest : List Oper} {a : Act} {w : World} {Q : Exit → Act → World → Prop} {n : Nat} {L : List (Nat × Value)} {o : Oper}
end
section
variable {P : Program} {ops : Array Oper} {a : Act} {w : World} {Q : Exit → Act → World → Prop} {n : Nat} {L : List (Nat × Value)} {o : Oper} {md : Region.Mode} {S : World → Prop} {z : Nat}
end
end Go.Proofs.YtnnpokndajpkiaaDoor
