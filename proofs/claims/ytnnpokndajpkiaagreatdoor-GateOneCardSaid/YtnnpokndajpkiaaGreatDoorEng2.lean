import Derived.Test.YtnnpokndajpkiaaGreatDoorEng
namespace Go.Proofs.YtnnpokndajpkiaaGreatDoor
open Go.RowKit
def numL : Nat → List Value → List (Nat × Value)
  | _, [] => []
  | i, v :: r => (i, v) :: numL (i + 1) r
theorem numL_at : ∀ (l : List Value) (i j : Nat) (v : Value), (numL i l).lookup j = some v → i ≤ j ∧ l[j - i]? = some v
  | [], i, j, v, h => by simp [numL] at h
  | x :: r, i, j, v, h => by
    simp only [numL, List.lookup_cons] at h; by_cases e : j = i
    · subst e
      rw [beq_self_eq_true] at h; injection h with h
      subst h; exact ⟨Nat.le_refl _, by simp⟩
    · rw [beq_eq_false_iff_ne.2 e] at h
      obtain ⟨h1, h2⟩ := numL_at r (i + 1) j v h; refine ⟨by omega, ?_⟩; rw [show j - i = (j - (i + 1)) + 1 by omega, List.getElem?_cons_succ]; exact h2
section
variable {P : Program} {Q : Exit → Act → World → Prop} {n : Nat} {wb w0 w : World} {G : Nat → Prop} {I : Chk} {B : List Bx} {s : Sg}
theorem Kp.begin (h : Hp wb B I w) : Kp wb w (Fp B I) B I w := ⟨h, Only.refl _ _, fun j hj => Or.inl hj⟩
def codeOf (fn : Func) : Code := fn.body.getD .skip
theorem en_call {f : FuncId} {fn : Func} {args : List Value} {RR : Ending → World → Prop} (hf : P.funcs[f]? = some fn) (HK : Hp wb B I w) (h : Ok P (bodyPost P fn RR) fn.ntmps wb w (Fp B I) I ⟨.code (codeOf fn) [], numL 0 args, B⟩)
    (hn : Nat.ble args.length fn.ntmps = true := by kernel_rfl) (hb : fn.body = some (codeOf fn) := by kernel_rfl) : Calls P f args.toArray w RR := by
  refine calls_of_wp hf hb (h _ _ ⟨?_, rfl, fun i v hi => ?_⟩ (Kp.begin HK))
  · have := Nat.le_of_ble_eq_true hn
    simp only [Array.size_append, List.size_toArray, Array.size_replicate]; omega
  · obtain ⟨_, h2⟩ := numL_at _ _ _ _ hi
    rw [Nat.sub_zero] at h2; have hl := (List.getElem?_eq_some_iff.1 h2).1; rw [Array.getElem?_append_left (by simpa using hl)]; simpa using h2
def retL (P : Program) (B : List Bx) (L : List (Nat × Value)) : List ResultVar → List Nat → Option (List Value × List (Cm × Cm))
  | [], _ => some ([], [])
  | .tmp t :: r, ks => match L.lookup t, retL P B L r ks with
    | some v, some (vs, C) => some (v :: vs, C)
    | _, _ => none
  | .cell t ty :: r, ks => match ks with
    | k :: ks => match L.lookup t, B[k]? with
      | some p, some x => match ldv P ty ⟨x.blk, 0, x.cells⟩ 0, retL P B L r ks with
        | some v, some (vs, C) => some (v :: vs, (.v p, .v (.pointer (some ⟨x.blk, 0, none⟩))) :: C)
        | _, _ => none
      | _, _ => none
    | [] => none
def one (vs : List Value) : Value := match vs with
  | [v] => v
  | vs => .tuple vs.toArray
def atEnd : Cfg → Bool
  | .out .ret [] => true
  | .out .normal [] => true
  | _ => false
def ret1 (P : Program) (fn : Func) (ks : List Nat) (s : Sg) : Option (Value × List Cm) := if atEnd (ctl s.L 300 s.cfg) then
    match retL P s.B s.L fn.results.toList ks with
    | some (vs, C) => some (one vs, C.map (·.1))
    | none => none
  else none
def ret2 (P : Program) (fn : Func) (ks : List Nat) (s : Sg) (v : Value) : Option (Value × List Cm) := match retL P s.B s.L fn.results.toList ks with
  | some (_, C) => some (v, C.map (·.2))
  | none => some (v, [.n 0])
theorem cell_run {w : World} {x : Bx} {ty : TypeId} {v : Value} (hb : BoxAt w x.blk x.cells.toArray x.ty) (h : ldv P ty ⟨x.blk, 0, x.cells⟩ 0 = some v) : (loadVar ty ⟨x.blk, 0, none⟩).run P w = .ok v w := by
  have hr : w.rangeAt x.blk 0 x.cells := by have := hb.range; simpa using this
  have hl := ldv_run (P := P) (ob := ⟨x.blk, 0, x.cells⟩) hr h; simpa [Instr.loadAt, Instr.sureAddr, Sem.run_bind, Sem.run_pure, Result.andThen_ok] using hl
def resG (a : Act) : ResultVar → Sem Value
  | .tmp t => pure (a.tmps.getD t undef)
  | .cell b t => do loadVar t (← asAddr (a.tmps.getD b undef))
theorem retL_ok {a : Act} {L : List (Nat × Value)} (F : FrL n L a) (hB : ∀ x ∈ B, BoxAt w x.blk x.cells.toArray x.ty) : ∀ (rs : List ResultVar) (ks : List Nat) (vs : List Value) (C : List (Cm × Cm)), retL P B L rs ks = some (vs, C) → C.map (·.1) = C.map (·.2) → (rs.mapM (resG a)).run P w = .ok vs w
  | [], ks, vs, C, h, _ => by
    simp only [retL] at h; injection h with h
    injection h with h1 _
    subst h1; rfl
  | .tmp t :: r, ks, vs, C, h, hC => by
    simp only [retL] at h; split at h
    · rename_i v us C2 hv hr
      injection h with h
      injection h with h1 h2
      subst h1 h2; have ih := retL_ok F hB r ks us C2 hr hC; have hg : (resG a (.tmp t)).run P w = .ok v w := by
        show Sem.run P (pure (a.tmps.getD t undef)) w = _; rw [F.get t hv]; rfl
      rw [List.mapM_cons]; simp only [Sem.run_bind, Sem.run_pure, Result.andThen_ok, ih, hg]
    · cases h
  | .cell t ty :: r, ks, vs, C, h, hC => by
    simp only [retL] at h; split at h
    · split at h
      · rename_i p x hp hx
        split at h
        · rename_i v us C2 hv hr
          injection h with h
          injection h with h1 h2
          subst h1 h2; simp only [List.map_cons, List.cons.injEq, Cm.v.injEq] at hC; obtain ⟨e, hC⟩ := hC; subst e; have ih := retL_ok F hB r _ us C2 hr hC; have hl := cell_run (P := P) (hB x (List.mem_of_getElem? hx)) hv; have hg : (resG a (.cell t ty)).run P w = .ok v w := by
            show Sem.run P (do loadVar ty (← asAddr (a.tmps.getD t undef))) w = _; rw [F.get t hp]; simp only [asAddr, Sem.run_bind, Sem.run_pure, Result.andThen_ok, hl]
          rw [List.mapM_cons]; simp only [Sem.run_bind, Sem.run_pure, Result.andThen_ok, ih, hg]
        · cases h
      · cases h
    · cases h
theorem res_run {fn : Func} {a : Act} {rs : List ResultVar} (h : fn.results = rs.toArray) {vs : List Value} (hr : (rs.mapM (resG a)).run P w = .ok vs w) : (results fn a.tmps).run P w = .ok (one vs) w := by
  have e : results fn a.tmps = (do let vs ← rs.toArray.mapM (resG a); pure (if h : vs.size = 1 then vs[0] else .tuple vs)) := by
    unfold results; rw [h]; rfl
  rw [e, List.mapM_toArray]; simp only [Sem.run_bind, Sem.run_pure, map_eq_pure_bind, hr, Result.andThen_ok]; cases vs with
  | nil => rfl
  | cons v r => cases r <;> rfl
theorem en_retK {fn : Func} {RR : Ending → World → Prop} (v : Value) (ks : List Nat) (k : ∀ w, Kp wb w0 G s.B I w → RR (.returned v) w) (h : ret1 P fn ks s = ret2 P fn ks s v := by kernel_rfl) : Ok P (bodyPost P fn RR) n wb w0 G I s := by
  intro a w F HK; refine ctl_ok F 300 s.cfg ?_; unfold ret1 ret2 at h; split at h
  · rename_i he
    cases hr : retL P s.B s.L fn.results.toList ks with
    | none =>
      rw [hr] at h; cases h
    | some r =>
      obtain ⟨vs, C⟩ := r; rw [hr] at h; injection h with h
      injection h with h1 h2
      subst h1; have hrun : (results fn a.tmps).run P w = .ok (one vs) w := res_run (rs := fn.results.toList) (by simp) (retL_ok F HK.hp.box _ _ _ _ hr h2); cases hc : ctl s.L 300 s.cfg with
      | out e st =>
        rw [hc] at he; cases e <;> cases st <;> first | (cases he; done) | (exact ⟨F.defers, _, hrun, k w HK⟩)
      | _ => rw [hc] at he; cases he
  · split at h <;> cases h
def hdE (P : Program) (s : Sg) : Option (Sem Next × Option Nat × (List (Nat × Nat × Nat) → Cfg) × Option (List Ob × Rd)) := match ctl s.L 300 s.cfg with
  | .run ops (o :: os) st => match wantsT ops s.L o with
    | some true => if noSel o.op && o.op.operands.toList.all (inDom s.L) then some (execOp (known s.L) o, o.dst, fun _ => .run ops os st, none) else none
    | _ => none
  | .any ops listed (m + 1) _ bs ob z st => match Region.ready .any ops listed with
    | [i] => match ops[i]? with
      | some o => match wantsT ops s.L o with
        | some true => if noSel o.op && o.op.operands.toList.all (inDom s.L) then some (execOp (known s.L) o, o.dst, fun ks => .any ops (listed.setIfInBounds i true) m ks bs ob z st, if Nat.beq i z then none else some (bs, ob)) else none
        | _ => none
      | none => none
    | _ => none
  | _ => none
def addL (L : List (Nat × Value)) (d : Option Nat) (v : Value) : List (Nat × Value) := match d with
  | some d => (d, v) :: L
  | none => L
def nxE (P : Program) (s : Sg) (ks : List (Nat × Nat × Nat)) (v : Value) (B : List Bx) : Sg := match hdE P s with
  | some (_, d, c, _) => ⟨c ks, addL s.L d v, B⟩
  | none => ⟨.out .normal [], [], []⟩
def hdT (P : Program) (n : Nat) (s : Sg) : Option (Sem Next) := match hdE P s with
  | some (T, some d, _) => if Nat.blt d n then some T else none
  | some (T, none, _) => some T
  | none => none
def hdC (P : Program) (n : Nat) (s : Sg) : Option (FuncId × Array Value) := match hdT P n s with
  | some T => match alone P T with
    | some (.enter f args) => some (f, args)
    | _ => none
  | none => none
def nd1 (N : Option (List Ob × Rd)) (ks : List (Nat × Nat × Nat)) (B : List Bx) : List (Option Ob) := match N with
  | some _ => ks.map (pickO B)
  | none => []
def nd2 (N : Option (List Ob × Rd)) : List (Option Ob) := match N with
  | some (bs, _) => bs.map some
  | none => []
def ndO (N : Option (List Ob × Rd)) : Rd := match N with
  | some (_, ob) => ob
  | none => r0
def hdN (P : Program) (s : Sg) : Option (List Ob × Rd) := match hdE P s with
  | some (_, _, _, N) => N
  | none => none
def need1 (P : Program) (s : Sg) (ks : List (Nat × Nat × Nat)) (B : List Bx) : List (Option Ob) := nd1 (hdN P s) ks B
def need2 (P : Program) (s : Sg) : List (Option Ob) := nd2 (hdN P s)
def needO (P : Program) (s : Sg) : Rd := ndO (hdN P s)
theorem hd_ok {T : Sem Next} (h : hdT P n s = some T) {a : Act} {w : World} (F : FrL n s.L a) (k : ∀ (o : Oper) (K : Act → World → Prop) (Q' : Exit → Act → World → Prop), o.dst.all (fun d => Nat.blt d n) = true → execOp a.eval o = T → (∀ ks v B' w' I', Kp wb w0 G B' I' w' → need1 P s ks B' = need2 P s → RdOk P w' (needO P s) → (nxE P s ks v B').L = addL s.L o.dst v → ((nxE P s ks v B').cfg.goal P Q (a.put o.dst v) w') → K (a.put o.dst v) w') → (∀ ks v B', (nxE P s ks v B').L = addL s.L o.dst v ∧ (nxE P s ks v B').B = B') → o.wp P a w K Q') : s.cfg.goal P Q a w := by
  refine ctl_ok F 300 s.cfg ?_; cases hh : hdE P s with
  | none => simp only [hdT, hh] at h; cases h
  | some r =>
    obtain ⟨T', d, c, N⟩ := r; have hn : ∀ ks v B', nxE P s ks v B' = ⟨c ks, addL s.L d v, B'⟩ := fun ks v B' => by
      unfold nxE; rw [hh]
    have hT : T' = T ∧ d.all (fun d => Nat.blt d n) = true := by
      cases d with
      | none => simp only [hdT, hh] at h; injection h with h; exact ⟨h, rfl⟩
      | some d =>
        simp only [hdT, hh] at h; split at h
        · rename_i hd
          injection h with h; exact ⟨h, hd⟩
        · cases h
    have hN : hdN P s = N := by unfold hdN; rw [hh]
    unfold hdE at hh; split at hh
    · rename_i ops o os st hc
      split at hh
      · rename_i hw
        split at hh
        · rename_i hd
          injection hh with hh
          injection hh with h1 hh
          injection hh with h2 hh
          injection hh with h3 h4
          subst h2 h3 h4; rw [hc]; rw [Bool.and_eq_true] at hd; refine wpList_step fun K hK => ?_
          rw [if_pos (wantsT_spec F hw)]; refine k o K _ hT.2 (by rw [← hT.1, ← h1]; exact execOp_congr o (fun cs b e => by have h3 := hd.1; rw [e] at h3; cases h3) (fun x hx => known_ev F (List.all_eq_true.1 hd.2 x (by simpa using hx)))) (fun ks v B' w' I' _ _ _ _ hg => ?_) (fun ks v B' => by rw [hn]; exact ⟨rfl, rfl⟩); rw [hn] at hg; exact hK _ _ hg
        · cases hh
      · cases hh
    · rename_i ops listed m ks0 bs ob z st hc
      split at hh
      · rename_i i hr
        split at hh
        · rename_i o ho
          split at hh
          · rename_i hw
            split at hh
            · rename_i hd
              injection hh with hh
              injection hh with h1 hh
              injection hh with h2 hh
              injection hh with h3 h4
              subst h2 h3; rw [hc]; rw [Bool.and_eq_true] at hd; intro hcl; refine AnyT.step hr ho (fun K hK => ?_); rw [if_pos (wantsT_spec F hw)]; refine k o K _ hT.2 (by rw [← hT.1, ← h1]; exact execOp_congr o (fun cs b e => by have h3 := hd.1; rw [e] at h3; cases h3) (fun x hx => known_ev F (List.all_eq_true.1 hd.2 x (by simpa using hx)))) (fun ks v B' w' I' HK' e1 e2 _ hg => ?_) (fun ks v B' => by rw [hn]; exact ⟨rfl, rfl⟩); rw [hn] at hg; refine hK.out _ _ (fun hz => ?_) (fun _ => hg (closed_set hcl (by rw [hr]; exact List.mem_singleton.2 rfl))); unfold need1 need2 at e1; unfold needO at e2; rw [if_neg (fun e => hz (Nat.eq_of_beq_eq_true e))] at h4; subst h4; rw [hN] at e1 e2; exact sb_of e1 HK' e2
            · cases hh
          · cases hh
        · cases hh
      · cases hh
    · cases hh
theorem put_ok {L : List (Nat × Value)} {a : Act} (F : FrL n L a) {d : Option Nat} (hd : d.all (fun d => Nat.blt d n) = true) (v : Value) : FrL n (addL L d v) (a.put d v) := by
  cases d with
  | none => exact F
  | some d => exact F.put d v (Nat.le_of_ble_eq_true hd)
theorem en_doM {α : Type} {v : α → Value} {B' : α → List Bx} {I' : α → Chk} (f : FuncId) (args : Array Value) (B0 : List Bx) (hc : ∀ w, Kp wb w0 G B0 I w → Calls P f args w fun e w' => ∃ x, e = .returned (v x) ∧ Kp wb w0 G (B' x) (I' x) w') (ks : List (Nat × Nat × Nat)) (O : Rd) (hM : ∀ x w, Kp wb w0 G (B' x) (I' x) w → RdOk P w O)
    (k : ∀ x, Ok P Q n wb w0 G (I' x) (nxE P s ks (v x) (B' x))) (h : hdC P n s = some (f, args) := by kernel_rfl) (hB : s.B = B0 := by kernel_rfl) (hS : ∀ x, need1 P s ks (B' x) = need2 P s := by intro x; kernel_rfl) (hO : needO P s = O := by kernel_rfl) : Ok P Q n wb w0 G I s := by
  intro a w F HK; subst hB hO; unfold hdC at h; split at h
  · rename_i T hT
    split at h
    · rename_i f' args' hA
      injection h with h
      injection h with h1 h2
      subst h1 h2; refine hd_ok (wb := wb) (w0 := w0) (G := G) hT F (fun o K Q' hd he hnext hl => ?_); unfold Oper.wp; rw [he, alone_run _ _ hA w]; refine Calls.mono (hc w HK) ?_; rintro e w' ⟨x, rfl, HK'⟩; have hk := k x _ w' (by rw [(hl ks (v x) (B' x)).1]; exact put_ok F hd (v x)) (by rw [(hl ks (v x) (B' x)).2]; exact HK'); exact hnext ks (v x) (B' x) w' (I' x) HK' (hS x) (hM x w' HK') (hl _ _ _).1 hk
    · cases h
  · cases h
theorem en_do {α : Type} {v : α → Value} {B' : α → List Bx} {I' : α → Chk} (f : FuncId) (args : Array Value) (B0 : List Bx) (hc : ∀ w, Kp wb w0 G B0 I w → Calls P f args w fun e w' => ∃ x, e = .returned (v x) ∧ Kp wb w0 G (B' x) (I' x) w') (ks : List (Nat × Nat × Nat))
    (k : ∀ x, Ok P Q n wb w0 G (I' x) (nxE P s ks (v x) (B' x))) (h : hdC P n s = some (f, args) := by kernel_rfl) (hB : s.B = B0 := by kernel_rfl) (hS : ∀ x, need1 P s ks (B' x) = need2 P s := by intro x; kernel_rfl) (hO : needO P s = r0 := by kernel_rfl) : Ok P Q n wb w0 G I s :=
  en_doM f args B0 hc ks r0 (fun _ _ _ => rd0) k h hB hS hO
theorem en_opM {α : Type} {v : α → Value} {B' : α → List Bx} {I' : α → Chk} (T : Sem Next) (B0 : List Bx) (hc : ∀ w, Kp wb w0 G B0 I w → ∃ x w' r, T.run P w = .ok r w' ∧ (r = .value (v x) ∨ r = .skip ∧ v x = undef) ∧ Kp wb w0 G (B' x) (I' x) w') (ks : List (Nat × Nat × Nat)) (O : Rd) (hM : ∀ x w, Kp wb w0 G (B' x) (I' x) w → RdOk P w O)
    (k : ∀ x, Ok P Q n wb w0 G (I' x) (nxE P s ks (v x) (B' x))) (h : hdT P n s = some T := by kernel_rfl) (hB : s.B = B0 := by kernel_rfl) (hS : ∀ x, need1 P s ks (B' x) = need2 P s := by intro x; kernel_rfl) (hO : needO P s = O := by kernel_rfl) : Ok P Q n wb w0 G I s := by
  intro a w F HK; subst hB hO; refine hd_ok (wb := wb) (w0 := w0) (G := G) h F (fun o K Q' hd he hnext hl => ?_); obtain ⟨x, w', r, h1, h2, HK'⟩ := hc w HK; have hk := k x _ w' (by rw [(hl ks (v x) (B' x)).1]; exact put_ok F hd (v x)) (by rw [(hl ks (v x) (B' x)).2]; exact HK'); have hK := hnext ks (v x) (B' x) w' (I' x) HK' (hS x) (hM x w' HK') (hl _ _ _).1 hk; unfold Oper.wp; rw [he, h1]; rcases h2 with rfl | ⟨rfl, e⟩
  · exact hK
  · show K (a.put o.dst undef) w'
    rw [← e]; exact hK
theorem en_op {α : Type} {v : α → Value} {B' : α → List Bx} {I' : α → Chk} (T : Sem Next) (B0 : List Bx) (hc : ∀ w, Kp wb w0 G B0 I w → ∃ x w' r, T.run P w = .ok r w' ∧ (r = .value (v x) ∨ r = .skip ∧ v x = undef) ∧ Kp wb w0 G (B' x) (I' x) w') (ks : List (Nat × Nat × Nat))
    (k : ∀ x, Ok P Q n wb w0 G (I' x) (nxE P s ks (v x) (B' x))) (h : hdT P n s = some T := by kernel_rfl) (hB : s.B = B0 := by kernel_rfl) (hS : ∀ x, need1 P s ks (B' x) = need2 P s := by intro x; kernel_rfl) (hO : needO P s = r0 := by kernel_rfl) : Ok P Q n wb w0 G I s :=
  en_opM T B0 hc ks r0 (fun _ _ _ => rd0) k h hB hS hO
def stopJ : Cfg → Option (Act → World → Prop)
  | .out .normal (.stop J :: _) => some J
  | _ => none
theorem en_stop {J : Act → World → Prop} {L : List (Nat × Value)} {B0 : List Bx} (k : ∀ a w, FrL n L a → Kp wb w0 G B0 I w → J a w) (h : stopJ (ctl s.L 300 s.cfg) = some J := by kernel_rfl) (hL : picks s.L (L.map (·.1)) = some L := by kernel_rfl) (hB : s.B = B0 := by kernel_rfl) : Ok P Q n wb w0 G I s := by
  intro a w F HK; subst hB; refine ctl_ok F 300 s.cfg ?_; unfold stopJ at h; split at h
  · rename_i hc
    injection h with h
    subst h; rw [hc]; exact k a w (F.cut L hL) HK
  · cases h
theorem loop_ix {c : Code} {α : Type} (m : α → Nat) (J : α → Act → World → Prop) (round : ∀ x a w, J x a w → c.wp P (Exit.then (fun a' w' => ∃ y, m y < m x ∧ J y a' w') Q) a w) (x0 : α) {a : Act} {w : World} (h0 : J x0 a w) : (Code.loop c).wp P Q a w := by
  intro b k cs; have key : ∀ n x a w, m x = n → J x a w → ∃ e a' w', Q e a' w' ∧ Arrives P (lone (b.at a (.code c :: .inLoop c :: k)) cs w) b k cs e a' w' := by
    intro n; induction n using Nat.strongRecOn with
    | _ n ih =>
      intro x a w hn hI; obtain ⟨e, a₁, w₁, hq, harr⟩ := round x a w hI b (.inLoop c :: k) cs; cases e with
      | normal =>
        obtain ⟨y, hlt, hI₁⟩ := hq; obtain ⟨e₂, a₂, w₂, hq₂, harr₂⟩ := ih (m y) (hn ▸ hlt) y a₁ w₁ rfl hI₁; exact ⟨e₂, a₂, w₂, hq₂, .of_steps (Steps.trans harr (.one step_inLoop)) harr₂⟩
      | exit id => exact ⟨_, a₁, w₁, hq, .pass (x := .inLoop c) rfl (fun _ _ => .inl (by simp)) harr⟩
      | goto l => exact ⟨_, a₁, w₁, hq, .pass (x := .inLoop c) rfl (fun _ _ => .inl (by simp)) harr⟩
      | ret => exact ⟨_, a₁, w₁, hq, .pass (x := .inLoop c) rfl (fun _ _ => .inl (by simp)) harr⟩
      | panic ch => exact ⟨_, a₁, w₁, hq, .pass (x := .inLoop c) rfl (fun _ _ => .inl (by simp)) harr⟩
      | outgrown => exact ⟨_, a₁, w₁, hq, .pass (x := .inLoop c) rfl (fun _ _ => .inl (by simp)) harr⟩
  obtain ⟨e, a', w', hq, harr⟩ := key _ x0 a w rfl h0; exact ⟨e, a', w', hq, .of_steps (.one step_loop) harr⟩
def loopC (s : Sg) : Code := match ctl s.L 300 s.cfg with
  | .code (.loop c) _ => c
  | _ => .skip
def loopS (s : Sg) : List It := match ctl s.L 300 s.cfg with
  | .code (.loop _) st => st
  | _ => []
def isLoop (s : Sg) : Bool := match ctl s.L 300 s.cfg with
  | .code (.loop _) _ => true
  | _ => false
theorem en_loop {α : Type} (m : α → Nat) (Lx : α → List (Nat × Value)) (Bx' : α → List Bx) (Ix : α → Chk) (x0 : α) (hI : I = Ix x0)
    (k : ∀ x (J : Act → World → Prop), (∀ y a w, m y < m x → FrL n (Lx y) a → Kp wb w0 G (Bx' y) (Ix y) w → J a w) → Ok P Q n wb w0 G (Ix x) ⟨.code (loopC s) (.stop J :: loopS s), Lx x, Bx' x⟩)
    (hl : isLoop s = true := by kernel_rfl) (hL : picks s.L ((Lx x0).map (·.1)) = some (Lx x0) := by kernel_rfl) (hB : s.B = Bx' x0 := by kernel_rfl) : Ok P Q n wb w0 G I s := by
  intro a w F HK; subst hI; refine ctl_ok F 300 s.cfg ?_; unfold isLoop at hl; split at hl
  · rename_i c st hc
    have h1 : loopC s = c := by unfold loopC; rw [hc]
    have h2 : loopS s = st := by unfold loopS; rw [hc]
    rw [h1, h2] at k; rw [hc]; refine loop_ix m (fun x a w => FrL n (Lx x) a ∧ Kp wb w0 G (Bx' x) (Ix x) w) (fun x a w hx => ?_) x0 ⟨F.cut _ hL, hB ▸ HK⟩; exact k x (fun a' w' => ∃ y, m y < m x ∧ FrL n (Lx y) a' ∧ Kp wb w0 G (Bx' y) (Ix y) w') (fun y a w h1 h2 h3 => ⟨y, h1, h2, h3⟩) a w hx.1 hx.2
  · cases hl
def putS (J : Act → World → Prop) : Nat → List It → Option (List It)
  | 0, .code _ :: r => some (.stop J :: r)
  | d + 1, x :: r => match putS J d r with
    | some r' => some (x :: r')
    | none => none
  | _, _ => none
def dropS : Nat → List It → List It
  | 0, l => l
  | d + 1, _ :: r => dropS d r
  | _ + 1, [] => []
def stk : Cfg → List It
  | .code _ st => st
  | .run _ _ st => st
  | .any _ _ _ _ _ _ _ st => st
  | .out _ st => st
def putC (c : Cfg) (st : List It) : Cfg := match c with
  | .code x _ => .code x st
  | .run ops os _ => .run ops os st
  | .any ops li m ks bs ob z _ => .any ops li m ks bs ob z st
  | .out e _ => .out e st
theorem putS_ok {J : Act → World → Prop} : ∀ (d : Nat) (st st' : List It), putS J d st = some st' → (∀ a w, J a w → (Cfg.out .normal (dropS d st)).goal P Q a w) → ∀ e a w, after P Q st' e a w → after P Q st e a w
  | 0, .code y :: r, st', h, hJ, e, a, w, k => by
    simp only [putS] at h; injection h with h
    subst h; cases e <;> first | exact hJ a w k | exact k
  | d + 1, x :: r, st', h, hJ, e, a, w, k => by
    simp only [putS] at h; split at h
    · rename_i r' hr
      injection h with h
      subst h; have ih := putS_ok d r r' hr hJ; cases x with
      | code y =>
        cases e with
        | normal => exact Code.wp_mono ih k
        | _ => exact ih _ _ _ k
      | blk id =>
        cases e with
        | exit j =>
          show Exit.inBlock _ _ _ _ _; have k : Exit.inBlock id (after P Q r') (.exit j) a w := k; simp only [Exit.inBlock] at k ⊢; split
          · rename_i hj; rw [if_pos hj] at k; exact ih _ _ _ k
          · rename_i hj; rw [if_neg hj] at k; exact ih _ _ _ k
        | _ => exact ih _ _ _ k
      | stop J2 =>
        cases e with
        | normal => exact k
        | _ => exact ih _ _ _ k
    · cases h
  | 0, [], _, h, _, _, _, _, _ => by cases h
  | 0, .blk _ :: _, _, h, _, _, _, _, _ => by cases h
  | 0, .stop _ :: _, _, h, _, _, _, _, _ => by cases h
  | _ + 1, [], _, h, _, _, _, _, _ => by cases h
theorem letsOut_mono {Q Q' : Exit → Act → World → Prop} (hQ : ∀ e a w, Q e a w → Q' e a w) (h : LetsOut Q) : LetsOut Q' := by
  obtain ⟨a, w, h⟩ := h; exact ⟨a, w, hQ _ _ _ h⟩
theorem oper_mono {Q Q' : Exit → Act → World → Prop} (hQ : ∀ e a w, Q e a w → Q' e a w) {o : Oper} {a : Act} {w : World} {K K' : Act → World → Prop} (hK : ∀ a w, K a w → K' a w) (hh : o.wp P a w K Q) : o.wp P a w K' Q' := by
  unfold Oper.wp at *; generalize (execOp a.eval o).run P w = r at *; cases r with
  | ok n w' =>
    cases n <;> simp only [Oper.upon] at hh ⊢ <;>
      first
        | exact hK _ _ hh
        | exact Calls.mono hh (fun e w'' he => by cases e <;> first | exact hK _ _ he | exact hQ _ _ _ he | exact letsOut_mono hQ he)
        | exact Rows.mono hh (fun _ _ he => hK _ _ he)
  | halt x w' => cases x <;> simp only [Oper.upon] at hh ⊢ <;> exact hQ _ _ _ hh
theorem noPanic_mono {Q Q' : Exit → Act → World → Prop} (hQ : ∀ e a w, Q e a w → Q' e a w) (e : Exit) (a : Act) (w : World) (h : NoPanic Q e a w) : NoPanic Q' e a w := by
  cases e <;> first | exact hQ _ _ _ h | exact h
theorem anyT_mono {Q Q' : Exit → Act → World → Prop} (hQ : ∀ e a w, Q e a w → Q' e a w) {ops : Array Oper} {S : World → Prop} {z : Nat} : ∀ (m : Nat) (li : Array Bool) (a : Act) (w : World), AnyT P .any ops Q S z m li a w → AnyT P .any ops Q' S z m li a w
  | 0, _, _, _, h => ⟨h.1, hQ _ _ _ h.2⟩
  | m + 1, li, a, w, h => by
    refine ⟨fun hr => hQ _ _ _ (h.1 hr), fun i hi => ?_⟩; have h1 := h.2 i hi; unfold wpOp at h1 ⊢; split
    · rename_i ho
      rw [ho] at h1; exact ⟨h1.1, anyT_mono hQ m _ _ _ h1.2⟩
    · rename_i o ho
      rw [ho] at h1; simp only at h1
      split
      · rename_i hw
        rw [if_pos hw] at h1; exact h1.imp (oper_mono hQ (fun b u k => ⟨k.1, anyT_mono hQ m _ _ _ k.2⟩)) (fun k => ⟨k.1, letsOut_mono hQ k.2⟩)
      · rename_i hw
        rw [if_neg hw] at h1; exact ⟨h1.1, anyT_mono hQ m _ _ _ h1.2⟩
theorem putC_ok {c : Cfg} {st' : List It} (h : ∀ e a w, after P Q st' e a w → after P Q (stk c) e a w) {a : Act} {w : World} (k : (putC c st').goal P Q a w) : c.goal P Q a w := by
  cases c with
  | code x st => exact Code.wp_mono h k
  | run ops os st =>
    have hm : ∀ (l : List Oper) (a : Act) (w : World), wpList P ops (after P Q st') l a w → wpList P ops (after P Q st) l a w := by
      intro l; induction l with
      | nil => intro a w h1; exact h _ _ _ h1
      | cons o l ih =>
        intro a w h1; unfold wpList at h1 ⊢; split
        · rename_i hw
          rw [if_pos hw] at h1; exact h1.imp (oper_mono h ih) (fun h2 => ⟨h2.1, letsOut_mono h h2.2⟩)
        · rename_i hw
          rw [if_neg hw] at h1; exact ih _ _ h1
    exact hm os a w k
  | any ops li m ks bs ob z st => exact fun hc => anyT_mono (noPanic_mono h) m li a w (k hc)
  | out e st => exact h _ _ _ k
def meetS (s : Sg) (d : Nat) (J : Act → World → Prop) : Sg := ⟨putC (ctl s.L 300 s.cfg) ((putS J d (stk (ctl s.L 300 s.cfg))).getD []), s.L, s.B⟩
def meetN (s : Sg) (d : Nat) : Cfg := .out .normal (dropS d (stk (ctl s.L 300 s.cfg)))
theorem en_meet {α : Type} (d : Nat) (Lx : α → List (Nat × Value)) (Bx' : α → List Bx) (Ix : α → Chk)
    (k1 : ∀ J : Act → World → Prop, (∀ x a w, FrL n (Lx x) a → Kp wb w0 G (Bx' x) (Ix x) w → J a w) → Ok P Q n wb w0 G I (meetS s d J))
    (k2 : ∀ x, Ok P Q n wb w0 G (Ix x) ⟨meetN s d, Lx x, Bx' x⟩) (h : (putS (fun _ _ => False) d (stk (ctl s.L 300 s.cfg))).isSome = true := by kernel_rfl) : Ok P Q n wb w0 G I s := by
  intro a w F HK; refine ctl_ok F 300 s.cfg ?_; have hk := k1 (fun a w => ∃ x, FrL n (Lx x) a ∧ Kp wb w0 G (Bx' x) (Ix x) w) (fun x a w h1 h2 => ⟨x, h1, h2⟩) a w F HK; have hsome : ∀ (J J' : Act → World → Prop) (d : Nat) (st : List It), (putS J d st).isSome = (putS J' d st).isSome := by
    intro J J' d; induction d with
    | zero => intro st; cases st with
      | nil => rfl
      | cons x r => cases x <;> rfl
    | succ d ih => intro st; cases st with
      | nil => rfl
      | cons x r =>
        have := ih r; simp only [putS]; cases h1 : putS J d r <;> cases h2 : putS J' d r <;> simp_all
  rw [hsome _ (fun a w => ∃ x, FrL n (Lx x) a ∧ Kp wb w0 G (Bx' x) (Ix x) w)] at h; obtain ⟨st', hst⟩ := Option.isSome_iff_exists.1 h; unfold meetS at hk; rw [hst] at hk; refine putC_ok (putS_ok d _ st' hst ?_) hk; rintro a w ⟨x, h1, h2⟩; exact k2 x a w h1 h2
end
end Go.Proofs.YtnnpokndajpkiaaGreatDoor
