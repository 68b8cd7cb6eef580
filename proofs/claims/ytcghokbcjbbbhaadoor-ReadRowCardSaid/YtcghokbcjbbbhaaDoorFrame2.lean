/- More walks over a frame that is not written out: a new variable; regions that draw their order; loops. No condition; nothing of the program is named. -/
import Derived.Test.YtcghokbcjbbbhaaDoorJoinC
import Derived.Test.YtcghokbcjbbbhaaDoorRegion
import Derived.Great.BuildSlice
namespace Go.Proofs.YtcghokbcjbbbhaaDoor
open Go.RowKit
section
variable {P : Program} {ops : Array Oper} {rest : List Oper} {a : Act} {w : World} {Q : Exit → Act → World → Prop} {n : Nat} {L : List (Nat × Value)} {o o2 : Oper} {md : Region.Mode} {S : World → Prop} {z : Nat}
/-- A new variable of a struct, given its value at once. -/
theorem fr_new (F : FrL n L a) {w0 : World} {B : List Box} {R : List Row} (HK : Keep w0 B R w) (s : Nat) (hs : s < n) (g1 : o.guard = none) (ty : TypeId) (h1 : o.op = .alloc ty) (hd : o.dst = some s) (g2 : o2.guard = none) (y : Operand) (h2 : o2.op = .store ty (.tmp s) y) (hd2 : o2.dst = none)
    (i : TypeInfo) (z : Value) (hi : P.info? ty = some i) (hz : i.zero = some z) (cells : Array Value) (hsz : i.size = cells.size) (hzs : z.cells.size = cells.size) (hone : cells.all (·.oneCell') = true)
    (hy : ∀ a' Y, FrL n ((s, .pointer (some ⟨Y, 0, none⟩)) :: L) a' → a'.eval y = .agg cells)
    (k : ∀ Y a' w', w.heap.size = Y → FrL n ((s, .pointer (some ⟨Y, 0, none⟩)) :: L) a' → Keep w0 ((Y, cells, ty) :: B) R w' → Below w.heap.size w w' → wpList P ops Q rest a' w') : wpList P ops Q (o :: o2 :: rest) a w := by
  have F2 := F.put s (.pointer (some ⟨w.heap.size, 0, none⟩)) hs
  refine wpList_new g1 ty h1 (some s) hd g2 (.tmp s) y h2 hd2 i z hi hz cells hsz hzs hone (F2.ev s ?_) (hy _ _ F2) (k _ _ _ rfl F2 (HK.alloc _ _) ((Below.refl _ _).alloc (Nat.le_refl _) _))
  rw [List.lookup_cons, beq_self_eq_true]
theorem fr_take (F : FrL n L a) {i m : Nat} {listed : Array Bool} (hS : S w) (hi : ops[i]? = some o) (hg : o.guard = none) (s : Nat) (hd : o.dst = some s) (hs : s < n) (v : Value) (he : ∀ w', S w' → ∀ a', FrL n L a' → (execOp a'.eval o).run P w' = .ok (.value v) w')
    (k : ∀ a', FrL n ((s, v) :: L) a' → AnyT P md ops Q S z m (listed.setIfInBounds i true) a' w)
    (hns : Region.noSelect ops = true := by kernel_rfl) (hf : Region.free md ops listed i = true := by kernel_rfl) (hr : (Region.ready md ops listed).contains i = true := by kernel_rfl) (hz : waits md ops z i = true := by kernel_rfl)
    (hQ : ∀ c a w, Q (.panic c) (a.put o.dst v) w → Q (.panic c) a w := by exact fun _ _ _ h => h) : AnyT P md ops Q S z (m + 1) listed a w := by
  refine AnyT.take hi hns hf hr hz hQ (Or.inl ⟨free_want hg, fun w' h => he w' h a F⟩) hS ?_
  rw [hd]
  exact k _ (F.put s v hs)
theorem fr_step (F : FrL n L a) {i m : Nat} {listed : Array Bool} (hi : ops[i]? = some o) (hg : o.guard = none) (s : Nat) (hd : o.dst = some s) (hs : s < n) (v : Value) (w2 : World) (he : ∀ a', FrL n L a' → (execOp a'.eval o).run P w = .ok (.value v) w2) (hS : S w2)
    (k : ∀ a', FrL n ((s, v) :: L) a' → AnyT P md ops Q S z m (listed.setIfInBounds i true) a' w2) (hr : Region.ready md ops listed = [i] := by kernel_rfl) : AnyT P md ops Q S z (m + 1) listed a w := by
  refine AnyT.step hr hi (fun K hK => ?_)
  rw [if_pos (free_want hg)]
  unfold Oper.wp
  rw [he a F]
  refine hK.out _ _ (fun _ => hS) (fun _ => ?_)
  rw [hd]
  exact k _ (F.put s v hs)
theorem fr_last (F : FrL n L a) {m : Nat} {listed : Array Bool} (hi : ops[z]? = some o) (hg : o.guard = none) (hd : o.dst = none) (w2 : World) (he : ∀ a', FrL n L a' → (execOp a'.eval o).run P w = .ok .skip w2)
    (k : ∀ a', FrL n L a' → AnyT P md ops Q S z m (listed.setIfInBounds z true) a' w2) (hr : Region.ready md ops listed = [z] := by kernel_rfl) : AnyT P md ops Q S z (m + 1) listed a w := by
  refine AnyT.step hr hi (fun K hK => ?_)
  rw [if_pos (free_want hg)]
  unfold Oper.wp
  rw [he a F]
  refine hK.out _ _ (fun h => absurd rfl h) (fun _ => ?_)
  rw [hd]
  exact k _ F
theorem run_append (s x : Operand) (t : TypeId) (ho : o.op = .call { callee := .builtin .append, args := #[s, x], argTypes := #[t, t] })
    (base : Nat) (e : TypeId) (i : TypeInfo) (z : Value) (size bytes : Nat) (ht : P.underlying t = some (.slice e)) (hi : P.info? e = some i) (hz : i.zero = some z)
    (hsize : i.size = size) (hby : i.bytes = bytes) (hzs : z.cells.size = size) (hsz : 0 < size)
    (v : Value) (n : Nat) (xs : List Value) (hown : w.ownsRow base e size v n xs)
    (ad : Addr) (m c : Nat) (news : List Value) (hl : news.length = m * size) (hnews : ∀ j u, news[j]? = some u → w.cell? (ad.add j) = some u) (h1 : ∀ u ∈ news, u.oneCell' = true)
    (h63 : n + m ≤ maxLen) (hbytes : (n + m) * bytes ≤ 140737488355328) (hbase : base ≤ w.heap.size) :
    ∃ v' w', (∀ ρ : Operand → Value, ρ s = v → ρ x = .slice (some ad) m c → (execOp ρ o).run P w = .ok (.value v') w') ∧ w'.ownsRow base e size v' (n + m) (xs ++ news) ∧ w.grownBy w' v.ownBlock := by
  obtain ⟨v', w', hr, h2, h3, _⟩ := run_append_own (P := P) (w := w) base t o.type e i z size bytes ht hi hz hsize hby hzs hsz v n xs hown ad m c news hl hnews h1 h63 hbytes hbase
  refine ⟨v', w', fun ρ hs hx => ?_, h2, h3⟩
  unfold execOp
  simp only [ho, resolve, invoke, builtin, Sem.run_bind, Sem.run_pure, Result.andThen_ok, List.map_toArray, List.map_cons, List.map_nil, hs, hx, hr]
theorem fr_append (F : FrL n L a) {i m0 : Nat} {listed : Array Bool} (hi0 : ops[i]? = some o) (hg : o.guard = none) (s : Nat) (hd : o.dst = some s) (hs : s < n) (sv x : Operand) (t : TypeId) (ho : o.op = .call { callee := .builtin .append, args := #[sv, x], argTypes := #[t, t] })
    (base : Nat) (e : TypeId) (i0 : TypeInfo) (z0 : Value) (size bytes : Nat) (ht : P.underlying t = some (.slice e)) (hi : P.info? e = some i0) (hz : i0.zero = some z0)
    (hsize : i0.size = size) (hby : i0.bytes = bytes) (hzs : z0.cells.size = size) (hsz : 0 < size)
    (v : Value) (n0 : Nat) (xs : List Value) (hown : w.ownsRow base e size v n0 xs)
    (ad : Addr) (m c : Nat) (news : List Value) (hl : news.length = m * size) (hnews : ∀ j u, news[j]? = some u → w.cell? (ad.add j) = some u) (h1 : ∀ u ∈ news, u.oneCell' = true)
    (h63 : n0 + m ≤ maxLen) (hbytes : (n0 + m) * bytes ≤ 140737488355328) (hbase : base ≤ w.heap.size)
    (hsv : ∀ a', FrL n L a' → a'.eval sv = v) (hx : ∀ a', FrL n L a' → a'.eval x = .slice (some ad) m c)
    (k : ∀ v' w', w'.ownsRow base e size v' (n0 + m) (xs ++ news) → w.grownBy w' v.ownBlock → S w' ∧ ∀ a', FrL n ((s, v') :: L) a' → AnyT P md ops Q S z m0 (listed.setIfInBounds i true) a' w')
    (hr : Region.ready md ops listed = [i] := by kernel_rfl) : AnyT P md ops Q S z (m0 + 1) listed a w := by
  obtain ⟨v', w', hrun, h2, h3⟩ := run_append (P := P) (w := w) (o := o) sv x t ho base e i0 z0 size bytes ht hi hz hsize hby hzs hsz v n0 xs hown ad m c news hl hnews h1 h63 hbytes hbase
  obtain ⟨hS, hk⟩ := k v' w' h2 h3
  exact fr_step F hi0 hg s hd hs v' w' (fun a' F' => hrun _ (hsv a' F') (hx a' F')) hS hk hr
theorem only_setCells {X : Nat} : ∀ (vs : List Value) (j : Nat) (w w' : World), Only (fun i => i = X) w w' → Only (fun i => i = X) w (w'.setCells X j vs)
  | [], _, _, _, h => h
  | v :: r, j, w, _w', h => only_setCells r (j + 1) w _ (h.setCell (F := fun i => i = X) (p := ⟨X, j, none⟩) (Or.inl rfl) v)
/-- A value stored into the cells of a box; nothing else changes. -/
theorem fr_putO (F : FrL n L a) {w0 : World} {B : List Box} {R : List Row} (HK : Keep w0 B R w) (i : Nat) {X : Nat} {old : Array Value} {T : TypeId} (hi : B[i]? = some (X, old, T)) (hg : o.guard = none) (hd : o.dst = none) (ty : TypeId) (x y : Operand) (ho : o.op = .store ty x y) (j : Nat) (v : Value)
    (hx : ∀ a', FrL n L a' → a'.eval x = .pointer (some ⟨X, j, none⟩)) (hy : ∀ a', FrL n L a' → a'.eval y = v) (hz : (P.info? ty).map (·.size) = some v.cells.size) (hfit : j + v.cells.size ≤ old.size) (h1 : v.cells.all (·.oneCell') = true)
    (k : ∀ a' w', FrL n L a' → Keep w0 (B.set i (X, setMany old j v.cells.toList, T)) R w' → Only (fun i => i = X) w w' → wpList P ops Q rest a' w') : wpList P ops Q (o :: rest) a w :=
  wpList_plain hg fun K hK => by
    have hb := HK.at i hi
    unfold Oper.wp execOp
    simp only [ho, hx a F, hy a F, Instr.storeAt, Instr.sureAddr, Sem.run_bind, Sem.run_pure, Result.andThen_ok, run_put w X j ty v (box_there hb j _ hfit) hz h1]
    show K (a.put o.dst undef) _
    rw [hd]
    exact hK _ _ (k _ _ F (keep_setCells _ _ _ _ _ HK hi) (only_setCells _ _ _ _ (Only.refl _ _)))
theorem run_load_midF {ρ : Operand → Value} (ty : TypeId) (x : Operand) (ho : o.op = .load ty x) (b j : Nat) (hx : ρ x = .pointer (some ⟨b, j, none⟩)) (cs : List Value) (d : TypeDesc) (hc : w.rangeAt b j cs)
    (hu : P.underlying ty = some d) (hd : d.isRow = true) (hi : (P.info? ty).map (·.size) = some cs.length) : (execOp ρ o).run P w = .ok (.value (.agg cs.toArray)) w := by
  unfold execOp
  simp only [ho, hx, run_loadAt_mid w b j ty cs d hc hu hd hi, Sem.run_bind, Sem.run_pure, Result.andThen_ok]
/-- A new variable, with its zero value. -/
theorem fr_alloc (F : FrL n L a) {w0 : World} {B : List Box} {R : List Row} (HK : Keep w0 B R w) (s : Nat) (hs : s < n) (g1 : o.guard = none) (ty : TypeId) (h1 : o.op = .alloc ty) (hd : o.dst = some s)
    (i : TypeInfo) (z : Value) (hi : P.info? ty = some i) (hz : i.zero = some z)
    (k : ∀ Y a' w', w.heap.size = Y → FrL n ((s, .pointer (some ⟨Y, 0, none⟩)) :: L) a' → Keep w0 ((Y, z.cells, ty) :: B) R w' → Below w.heap.size w w' → wpList P ops Q rest a' w') : wpList P ops Q (o :: rest) a w := by
  refine Great.wpList_allocTo g1 (some s) hd (.pointer (some ⟨w.heap.size, 0, none⟩)) (.cells z.cells ty) ?_ (k _ _ _ rfl (F.put s _ hs) (HK.alloc _ _) ((Below.refl _ _).alloc (Nat.le_refl _) _))
  unfold execOp
  simp [h1, Instr.alloc, zeroValue, typeInfo, hi, hz, newVar, newRow]
/-- A new variable that holds a value. -/
theorem fr_box (F : FrL n L a) {w0 : World} {B : List Box} {R : List Row} (HK : Keep w0 B R w) (s : Nat) (hs : s < n) (g1 : o.guard = none) (ty : TypeId) (x : Operand) (h1 : o.op = .box ty x) (hd : o.dst = some s)
    (cells : Array Value) (hx : ∀ a', FrL n L a' → a'.eval x = .agg cells)
    (k : ∀ Y a' w', w.heap.size = Y → FrL n ((s, .pointer (some ⟨Y, 0, none⟩)) :: L) a' → Keep w0 ((Y, cells, ty) :: B) R w' → Below w.heap.size w w' → wpList P ops Q rest a' w') : wpList P ops Q (o :: rest) a w :=
  Great.wpList_boxTo g1 ty x h1 (some s) hd _ rfl cells (by rw [hx a F]; rfl) (k _ _ _ rfl (F.put s _ hs) (HK.alloc _ _) ((Below.refl _ _).alloc (Nat.le_refl _) _))
/-- A whole value stored into a box; nothing else changes. -/
theorem fr_storeO (F : FrL n L a) {w0 : World} {B : List Box} {R : List Row} (HK : Keep w0 B R w) (i : Nat) {X : Nat} {old : Array Value} {T : TypeId} (hi : B[i]? = some (X, old, T)) (hg : o.guard = none) (hd : o.dst = none) (ty : TypeId) (x y : Operand) (ho : o.op = .store ty x y) (cs : Array Value)
    (hx : ∀ a', FrL n L a' → a'.eval x = .pointer (some ⟨X, 0, none⟩)) (hy : ∀ a', FrL n L a' → a'.eval y = .agg cs) (hz : (P.info? ty).map (·.size) = some cs.size) (hold : old.size = cs.size) (h1 : cs.all (·.oneCell') = true)
    (k : ∀ a' w', FrL n L a' → Keep w0 (B.set i (X, cs, T)) R w' → Only (fun j => j = X) w w' → wpList P ops Q rest a' w') : wpList P ops Q (o :: rest) a w := by
  refine wpList_store_box hg ty x y ho X cs (hx a F) (hy a F) T old (HK.at i hi) hz hold h1 ?_
  intro w' hbx hon
  rw [hd]
  exact k _ _ F (HK.only hi hon hbx) hon
theorem FrL.get (F : FrL n L a) (i : Nat) {v : Value} (h : L.lookup i = some v) : a.tmps.getD i undef = v := by
  have := F.at' i v h
  simp [this]
/-- The end of a function with a result variable of its own and two slots. -/
theorem fr_ret3 {fn : Func} {R' : Ending → World → Prop} (F : FrL n L a) {p u t : Nat} {ty : TypeId} (h : fn.results = #[.cell p ty, .tmp u, .tmp t]) {X : Nat} {cs : Array Value} {T : TypeId} {d : TypeDesc}
    (hp : L.lookup p = some (.pointer (some ⟨X, 0, none⟩))) (hb : BoxAt w X cs T) (hu : P.underlying ty = some d) (hd : (match d with | .struct _ | .array _ _ => true | _ => false) = true) (hi : (P.info? ty).map (·.size) = some cs.size)
    (x y : Value) (hx : L.lookup u = some x) (hy : L.lookup t = some y) (hR : R' (.returned (.tuple #[.agg cs, x, y])) w) : bodyPost P fn R' .ret a w := by
  refine bodyPost_ret ?_ F.defers hR
  have hp' : a.tmps[p]? = some (.pointer (some ⟨X, 0, none⟩)) := F.at' p _ hp
  have hx' : a.tmps[u]? = some x := F.at' u _ hx
  have hy' : a.tmps[t]? = some y := F.at' t _ hy
  simp [results, h, hp', hx', hy', asAddr, run_loadVar_row w X T ty cs (0, 0) d hb hu hd hi]
/-- In a region that draws its order: an operation that only computes or reads; its guard is met. -/
theorem fr_takeG (F : FrL n L a) {i m : Nat} {listed : Array Bool} (hS : S w) (hi : ops[i]? = some o) (hw : Region.wanted o (yielded ops a.tmps) = true) (s : Nat) (hd : o.dst = some s) (hs : s < n) (v : Value) (he : ∀ w', S w' → ∀ a', FrL n L a' → (execOp a'.eval o).run P w' = .ok (.value v) w')
    (k : ∀ a', FrL n ((s, v) :: L) a' → AnyT P md ops Q S z m (listed.setIfInBounds i true) a' w)
    (hns : Region.noSelect ops = true := by kernel_rfl) (hf : Region.free md ops listed i = true := by kernel_rfl) (hr : (Region.ready md ops listed).contains i = true := by kernel_rfl) (hz : waits md ops z i = true := by kernel_rfl)
    (hQ : ∀ c a w, Q (.panic c) (a.put o.dst v) w → Q (.panic c) a w := by exact fun _ _ _ h => h) : AnyT P md ops Q S z (m + 1) listed a w := by
  refine AnyT.take hi hns hf hr hz hQ (Or.inl ⟨hw, fun w' h => he w' h a F⟩) hS ?_
  rw [hd]
  exact k _ (F.put s v hs)
/-- One whose guard does not want it. -/
theorem fr_takeL (F : FrL n L a) {i m : Nat} {listed : Array Bool} (hS : S w) (hi : ops[i]? = some o) (hw : Region.wanted o (yielded ops a.tmps) = false) (s : Nat) (hd : o.dst = some s) (hs : s < n)
    (k : ∀ a', FrL n ((s, undef) :: L) a' → AnyT P md ops Q S z m (listed.setIfInBounds i true) a' w)
    (hns : Region.noSelect ops = true := by kernel_rfl) (hf : Region.free md ops listed i = true := by kernel_rfl) (hr : (Region.ready md ops listed).contains i = true := by kernel_rfl) (hz : waits md ops z i = true := by kernel_rfl)
    (hQ : ∀ c a w, Q (.panic c) (a.put o.dst undef) w → Q (.panic c) a w := by exact fun _ _ _ h => h) : AnyT P md ops Q S z (m + 1) listed a w := by
  refine AnyT.take hi hns hf hr hz hQ (Or.inr ⟨hw, rfl⟩) hS ?_
  rw [hd]
  exact k _ (F.put s undef hs)
/-- A call, where nothing else may come up. -/
theorem fr_stepC (F : FrL n L a) {i m : Nat} {listed : Array Bool} (hi : ops[i]? = some o) (hw : Region.wanted o (yielded ops a.tmps) = true) (s : Nat) (hd : o.dst = some s) (hs : s < n) (f : FuncId) (args : Array Value) (he : ∀ a', FrL n L a' → (execOp a'.eval o).run P w = .ok (.enter f args) w)
    {R : Ending → World → Prop} (hc : Calls P f args w R) (k : ∀ e w', R e w' → ∃ v, e = .returned v ∧ S w' ∧ ∀ a', FrL n ((s, v) :: L) a' → AnyT P md ops Q S z m (listed.setIfInBounds i true) a' w') (hr : Region.ready md ops listed = [i] := by kernel_rfl) : AnyT P md ops Q S z (m + 1) listed a w := by
  refine AnyT.step hr hi (fun K hK => ?_)
  rw [if_pos hw]
  unfold Oper.wp
  rw [he a F]
  refine Calls.mono hc ?_
  intro e w' r
  obtain ⟨v, rfl, hS, kv⟩ := k e w' r
  refine hK.out _ _ (fun _ => hS) (fun _ => ?_)
  rw [hd]
  exact kv _ (F.put s v hs)
/-- The end of a function with one slot. -/
theorem fr_ret1 {fn : Func} {R' : Ending → World → Prop} (F : FrL n L a) {u : Nat} (h : fn.results = #[.tmp u]) (x : Value) (hx : L.lookup u = some x) (hR : R' (.returned x) w) : bodyPost P fn R' .ret a w := by
  refine bodyPost_ret ?_ F.defers hR
  have hx' : a.tmps[u]? = some x := F.at' u _ hx
  simp [results, h, hx']
theorem run_slice1 {ρ : Operand → Value} (t e : TypeId) (x : Operand) (ho : o.op = .buildSlice t 1 #[(0, x)]) (cells : Array Value) (hx : ρ x = .agg cells) (ie : TypeInfo) (zz : Value)
    (hu : P.underlying t = some (.slice e)) (hie : P.info? e = some ie) (hz : ie.zero = some zz) (hsmall : ¬ 1 * ie.size > 2 ^ 24) (hpos : ¬ 1 * ie.size = 0)
    (h : Instr.fill (fun i => some (i * ie.size, ie.size)) ((Array.range (1 * ie.size)).map (zz.cells[· % zz.cells.size]!)) [(0, .agg cells)] = some cells) :
    (execOp ρ o).run P w = .ok (.value (.slice (some ⟨w.heap.size, 0, none⟩) 1 1)) (w.alloc (.cells cells e)) := by
  have hr := run_buildSlice (P := P) w t e 1 #[(0, .agg cells)] cells ie zz hu hie hz hsmall hpos h
  unfold execOp
  simp only [ho, List.map_toArray, List.map_cons, List.map_nil, hx, Sem.run_bind, hr, Result.andThen_ok, Sem.run_pure]
theorem run_store {ρ : Operand → Value} {w0 : World} {B : List Box} {R : List Row} (HK : Keep w0 B R w) (i : Nat) {X : Nat} {old : Array Value} {T : TypeId} (hi : B[i]? = some (X, old, T)) (ty : TypeId) (x y : Operand) (ho : o.op = .store ty x y) (j : Nat) (v : Value)
    (hx : ρ x = .pointer (some ⟨X, j, none⟩)) (hy : ρ y = v) (hz : (P.info? ty).map (·.size) = some v.cells.size) (hfit : j + v.cells.size ≤ old.size) (h1 : v.cells.all (·.oneCell') = true) :
    (execOp ρ o).run P w = .ok .skip (w.setCells X j v.cells.toList) := by
  have hb := HK.at i hi
  unfold execOp
  simp only [ho, hx, hy, Instr.storeAt, Instr.sureAddr, Sem.run_bind, Sem.run_pure, Result.andThen_ok, run_put w X j ty v (box_there hb j _ hfit) hz h1]
end
end Go.Proofs.YtcghokbcjbbbhaaDoor
