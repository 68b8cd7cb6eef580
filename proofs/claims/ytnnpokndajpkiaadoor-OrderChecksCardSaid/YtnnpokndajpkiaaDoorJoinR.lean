import Derived.Test.YtnnpokndajpkiaaDoorOrderF
namespace Go.Proofs.YtnnpokndajpkiaaDoor
open Go.RowKit
theorem keyI : KeyF Tryd.prog 3 (fun i : Int => Value.int .i64 i) (.int .i64) := key_int Tryd.underlying3
theorem zPast (w : World) : (zeroValue 66).run Tryd.prog w = .ok (.pointer none) w := by kernel_rfl
structure Po where
  op : Int
  p : Nat
  x : Pa
def findO (O : List Po) (i : Int) : Option Po := O.find? (fun y => decide (i = y.op))
def updO (O : List Po) (i : Int) (x' : Pa) : List Po := O.map fun y => if y.op = i then { y with x := x' } else y
def ptrO (y : Po) : Value := .pointer (some ⟨y.p, 0, none⟩)
def entO (O : List Po) : List (Int × Value) := O.map fun y => (y.op, ptrO y)
def absO (O : List Po) : Int → Pa := fun i => ((findO O i).map (·.x)).getD Pa.zero
theorem entO_get : ∀ (O : List Po) (i : Int), getE (entO O) i = (findO O i).map ptrO
  | [], _ => rfl
  | y :: r, i => by
    show (if i = y.op then _ else getE (entO r) i) = _; unfold findO; rw [List.find?_cons]; by_cases h : i = y.op
    · rw [if_pos h, decide_eq_true h]; rfl
    · rw [if_neg h, decide_eq_false h]; exact entO_get r i
theorem putE_none {α : Type} [DecidableEq α] : ∀ {es : List (α × Value)} {a : α} {v : Value}, getE es a = none → putE es a v = es ++ [(a, v)]
  | [], _, _, _ => rfl
  | x :: r, a, v, h => by
    unfold getE at h; unfold putE; by_cases e : a = x.1
    · rw [if_pos e] at h; cases h
    · rw [if_neg e] at h
      rw [if_neg e, putE_none h]; rfl
theorem entO_upd (O : List Po) (i : Int) (x' : Pa) : entO (updO O i x') = entO O := by
  unfold entO updO; rw [List.map_map]; refine List.map_congr_left (fun y _ => ?_); show ((if y.op = i then { y with x := x' } else y : Po).op, ptrO (if y.op = i then { y with x := x' } else y)) = _; split <;> rfl
theorem findO_mem {O : List Po} {i : Int} {y : Po} (h : findO O i = some y) : y ∈ O ∧ y.op = i := by
  unfold findO at h; have h2 : decide (i = y.op) = true := List.find?_some (p := fun (y : Po) => decide (i = y.op)) h; exact ⟨List.mem_of_find?_eq_some h, (of_decide_eq_true h2).symm⟩
theorem findO_upd : ∀ (O : List Po) (i j : Int) (x' : Pa), findO (updO O i x') j = (findO O j).map fun y => if y.op = i then { y with x := x' } else y
  | [], _, _, _ => rfl
  | y :: r, i, j, x' => by
    have e : (if y.op = i then { y with x := x' } else y : Po).op = y.op := by split <;> rfl
    unfold findO updO; rw [List.map_cons, List.find?_cons, List.find?_cons, e]; cases decide (j = y.op) with
    | true => rfl
    | false => exact findO_upd r i j x'
theorem absO_upd {O : List Po} {i : Int} {y : Po} (h : findO O i = some y) (x' : Pa) : absO (updO O i x') = fun j => if j = i then x' else absO O j := by
  funext j
  unfold absO; rw [findO_upd]; by_cases e : j = i
  · subst e
    rw [h, if_pos rfl]; show (if y.op = j then { y with x := x' } else y : Po).x = x'; rw [if_pos (findO_mem h).2]
  · rw [if_neg e]
    cases hf : findO O j with
    | none => rfl
    | some z =>
      show (if z.op = i then { z with x := x' } else z : Po).x = z.x; rw [if_neg (by rw [(findO_mem hf).2]; exact e)]
theorem findO_app {O : List Po} {y : Po} (h : findO O y.op = none) (j : Int) : findO (O ++ [y]) j = if j = y.op then some y else findO O j := by
  unfold findO at h ⊢; rw [List.find?_append]; by_cases e : j = y.op
  · subst e
    rw [h, if_pos rfl]; simp
  · rw [if_neg e]
    cases hf : O.find? (fun y => decide (j = y.op)) with
    | none => simp [e]
    | some z => rfl
theorem absO_app {O : List Po} {i : Int} {p : Nat} (h : findO O i = none) : absO (O ++ [⟨i, p, Pa.zero⟩]) = absO O := by
  funext j
  unfold absO; rw [findO_app (y := ⟨i, p, Pa.zero⟩) h]; split
  · rename_i e
    subst e; show Pa.zero = _; rw [h]; rfl
  · rfl
theorem nodup_inj {α β : Type} {f : α → β} : ∀ {l : List α}, (l.map f).Nodup → ∀ {a b : α}, a ∈ l → b ∈ l → f a = f b → a = b
  | [], _, _, _, h, _, _ => by cases h
  | x :: r, hn, a, b, ha, hb, e => by
    rw [List.map_cons, List.nodup_cons] at hn; rcases List.mem_cons.1 ha with ea | ha2
    · rcases List.mem_cons.1 hb with eb | hb2
      · rw [ea, eb]
      · exact absurd (by rw [← ea, e]; exact List.mem_map_of_mem hb2) hn.1
    · rcases List.mem_cons.1 hb with eb | hb2
      · exact absurd (by rw [← eb, ← e]; exact List.mem_map_of_mem ha2) hn.1
      · exact nodup_inj hn.2 ha2 hb2 e
structure LkAt (w : World) (B k OM m M K KM N : Nat) (L : List St) (O : List Po) : Prop where
  box : BoxAt w k #[.pointer (some ⟨m, 0, none⟩), .map (some OM)] 62
  ops : MapAt w OM (fun i : Int => Value.int .i64 i) (entO O)
  mo : MoAt w B m M K KM L
  pa : ∀ y ∈ O, BoxAt w y.p (paV N y.x) 95
  od : (O.map (·.op)).Nodup
  pd : (O.map (·.p)).Nodup
  far : OM ≠ M ∧ OM ≠ KM
  lo : B ≤ k ∧ B ≤ OM ∧ ∀ y ∈ O, B ≤ y.p
theorem MoAt.mapFar {w : World} {B m M K KM : Nat} {L : List St} (h : MoAt w B m M K KM L) {X : Nat} {α : Type} {f : α → Value} {es : List (α × Value)} (hm : MapAt w X f es) (h1 : X ≠ M) (h2 : X ≠ KM) : ¬ FootM m M K KM L X := by
  obtain ⟨arr, c, hm, _⟩ := hm; have key : ∀ cs T f, w.heap[X]? ≠ some (.cells cs T f) := fun cs T f e => by rw [hm] at e; cases e
  rintro (rfl | rfl | rfl | rfl | ⟨x, hx, rfl | rfl | hk⟩)
  · exact key _ _ _ h.box
  · exact h1 rfl
  · exact key _ _ _ h.kbox
  · exact h2 rfl
  · exact key _ _ _ (h.st x hx).box
  · exact key _ _ _ (h.st x hx).list.blk
  · obtain ⟨c, f, ho⟩ := (h.st x hx).list.own.type hk
    exact key _ _ _ ho
theorem box_map_neI {w : World} {X M : Nat} {cs : Array Value} {T : TypeId} {α : Type} {f : α → Value} {es : List (α × Value)} (h : BoxAt w X cs T) (k : MapAt w M f es) : X ≠ M := by
  rintro rfl; obtain ⟨arr, c, k, _⟩ := k; unfold BoxAt at h; rw [h] at k; cases k
section
variable {w w' : World} {B k OM m M K KM N : Nat} {L : List St} {O : List Po}
theorem LkAt.below (h : LkAt w B k OM m M K KM N L O) (hb : Below w.heap.size w w') : LkAt w' B k OM m M K KM N L O :=
  ⟨h.box.below hb, h.ops.below hb, h.mo.below hb, fun y hy => (h.pa y hy).below hb, h.od, h.pd, h.far, h.lo⟩
theorem op_lookO {X : Nat} (h : MapAt w X (fun i : Int => Value.int .i64 i) (entO O)) (i : Int) {ρ : Operand → Value} {o : Oper} {x y : Operand} {v : Value} (hx : ρ x = .map (some X)) (hy : ρ y = .int .i64 i) (ho : o.op = .lookup 60 x y false) (hv : ((findO O i).map ptrO).getD (.pointer none) = v) : (execOp ρ o).run Tryd.prog w = .ok (.value v) w := by
  have h := op_lookup keyI Tryd.underlying60 h i (zPast _) ho hx hy; rw [entO_get, hv] at h; exact h
theorem LkAt.turn {L' : List St} {y : Po} {x' : Pa} (h : LkAt w B k OM m M K KM N L O) (hy : findO O y.op = some y) (ho : Only (fun j => j = y.p ∨ FootM m M K KM L j) w w') (hp : BoxAt w' y.p (paV N x') 95) (hm : MoAt w' B m M K KM L') : LkAt w' B k OM m M K KM N L' (updO O y.op x') := by
  obtain ⟨hym, _⟩ := findO_mem hy; have hbp := h.pa y hym; have hk : ¬ (k = y.p ∨ FootM m M K KM L k) := fun e => e.elim (box_ne h.box hbp (by decide)) (h.mo.boxFar (by decide) h.box)
  have hO : ¬ (OM = y.p ∨ FootM m M K KM L OM) := fun e => e.elim (fun e => box_map_neI hbp h.ops e.symm) (h.mo.mapFar h.ops h.far.1 h.far.2)
  have hps : (updO O y.op x').map (·.p) = O.map (·.p) := by
    unfold updO; rw [List.map_map]; refine List.map_congr_left (fun z _ => ?_); show (if z.op = y.op then { z with x := x' } else z : Po).p = z.p; split <;> rfl
  have hos : (updO O y.op x').map (·.op) = O.map (·.op) := by
    unfold updO; rw [List.map_map]; refine List.map_congr_left (fun z _ => ?_); show (if z.op = y.op then { z with x := x' } else z : Po).op = z.op; split <;> rfl
  refine ⟨h.box.only ho hk, by rw [entO_upd]; exact h.ops.only ho hO, hm, ?_, by rw [hos]; exact h.od, by rw [hps]; exact h.pd, h.far, h.lo.1, h.lo.2.1, ?_⟩
  · intro z hz
    unfold updO at hz; obtain ⟨z0, hz0, rfl⟩ := List.mem_map.1 hz; by_cases e : z0.op = y.op
    · rw [if_pos e]
      have e2 : z0 = y := by
        have hnd := h.od; exact nodup_inj hnd hz0 hym e
      rw [e2]; exact hp
    · rw [if_neg e]
      refine (h.pa z0 hz0).only ho (fun e2 => e2.elim (fun e3 => ?_) (h.mo.boxFar (by decide) (h.pa z0 hz0))); exact e (congrArg Po.op (nodup_inj (f := (·.p)) h.pd hz0 hym e3))
  · intro z hz
    unfold updO at hz; obtain ⟨z0, hz0, rfl⟩ := List.mem_map.1 hz; have := h.lo.2.2 z0 hz0; split <;> exact this
end
set_option maxRecDepth 100000 in
set_option maxHeartbeats 4000000 in
theorem of_there {w0 w : World} {k OM m M K KM N : Nat} {L : List St} {O : List Po} (HK : Keep w0 [] [] w) (HLK : LkAt w w0.heap.size k OM m M K KM N L O) (i : Int) {y : Po} (hy : findO O i = some y) : Calls Tryd.prog 32 #[.pointer (some ⟨k, 0, none⟩), .int .i64 i] w fun e w' => ∃ O' y, e = .returned (ptrO y) ∧ findO O' i = some y ∧ absO O' = absO O ∧ LkAt w' w0.heap.size k OM m M K KM N L O' ∧ Keep w0 [] [] w' ∧ Only (fun j => j = OM) w w' := by
  obtain ⟨RR, hRR⟩ : ∃ RR : Ending → World → Prop, RR = fun e w' => ∃ O' y, e = .returned (ptrO y) ∧ findO O' i = some y ∧ absO O' = absO O ∧ LkAt w' w0.heap.size k OM m M K KM N L O' ∧ Keep w0 [] [] w' ∧ Only (fun j => j = OM) w w' := ⟨_, rfl⟩
  have FIN := Lib.hid (show ∀ O' y w', findO O' i = some y → absO O' = absO O → LkAt w' w0.heap.size k OM m M K KM N L O' → Keep w0 [] [] w' → Only (fun j => j = OM) w w' → RR (.returned (ptrO y)) w' from fun O' y w' h1 h2 h3 h4 h5 => by rw [hRR]; exact ⟨O', y, rfl, h1, h2, h3, h4, h5⟩); rw [← hRR]; obtain ⟨w9, hw9⟩ : ∃ w9, w9 = w := ⟨_, rfl⟩
  have HON : Only (fun j => j = OM) w w9 := by rw [hw9]; exact Only.refl _ _
  rw [← hw9] at HK HLK; suffices hgo : Calls Tryd.prog 32 #[.pointer (some ⟨k, 0, none⟩), .int .i64 i] w9 RR by rw [hw9] at hgo; exact hgo
  clear hw9 hRR; go_enter Tryd.func32, Tryd.ntmps32
  refine wp_forget (n := 25) (L := [(1, .int .i64 i), (0, .pointer (some ⟨k, 0, none⟩))]) (FrL.add (FrL.add (FrL.nil ?_ ?_) _ _ ?_) _ _ ?_) ?_; iterate 4 rfl
  intro a9 F; refine wp_seq ?_; refine wp_region_lit ?_; refine fr_ch F 1 [(4, .pointer none)] (by kernel_rfl) ?_; clear F a9; intro a9 F; refine wpList_nil ?_; show Code.wp _ _ _ _ _; refine wp_seq ?_; refine wp_seq ?_; refine wp_region_lit ?_; refine fr_ch F 3 [(7, .pointer (some ⟨k, 1, none⟩))] (by kernel_rfl) ?_; clear F a9; intro a9 F; refine fr_do F (wanted_free rfl) 8 rfl (by decide) (.map (some OM)) (by intro a' F'; have h7 := F'.at' 7 _ rfl; have hc : w9.cell? ⟨k, 1, none⟩ = some (.map (some OM)) := HLK.box.cells 1; go_simp) ?_; clear F a9; intro a9 F; refine fr_mv F (wanted_free rfl) 9 rfl (by decide) 1 rfl rfl ?_; clear F a9; intro a9 F; refine fr_do F (wanted_free rfl) 10 rfl (by decide) (.pointer (some ⟨y.p, 0, none⟩)) (fun a' F' => op_lookO HLK.ops i (F'.ev 8 rfl) (F'.ev 9 rfl) rfl (by rw [hy]; rfl)) ?_; clear F a9; intro a9 F; refine fr_ch F 1 [(11, .bool false)] (by kernel_rfl) ?_; clear F a9; intro a9 F; refine wpList_nil ?_; show Code.wp _ _ _ _ _; refine wp_cond_false (F.ev 11 rfl) ?_; refine wp_skip ?_; show Code.wp _ _ _ _ _; refine wp_seq ?_; refine wp_region_lit ?_; refine fr_mv F (wanted_free rfl) 19 rfl (by decide) 0 rfl rfl ?_; clear F a9; intro a9 F; refine fr_nc F (wanted_free rfl) 20 rfl (by decide) 19 rfl rfl ?_; clear F a9; intro a9 F; refine fr_ch F 1 [(21, .pointer (some ⟨k, 1, none⟩))] (by kernel_rfl) ?_; clear F a9; intro a9 F; refine fr_do F (wanted_free rfl) 22 rfl (by decide) (.map (some OM)) (by intro a' F'; have h21 := F'.at' 21 _ rfl; have hc : w9.cell? ⟨k, 1, none⟩ = some (.map (some OM)) := HLK.box.cells 1; go_simp) ?_; clear F a9; intro a9 F; refine fr_mv F (wanted_free rfl) 23 rfl (by decide) 1 rfl rfl ?_; clear F a9; intro a9 F; refine fr_do F (wanted_free rfl) 24 rfl (by decide) (.pointer (some ⟨y.p, 0, none⟩)) (fun a' F' => op_lookO HLK.ops i (F'.ev 22 rfl) (F'.ev 23 rfl) rfl (by rw [hy]; rfl)) ?_; clear F a9; intro a9 F; refine fr_ch F 1 [(4, .pointer (some ⟨y.p, 0, none⟩))] (by kernel_rfl) ?_; clear F a9; intro a9 F; refine wpList_nil ?_; show Code.wp _ _ _ _ _; refine wp_ret ?_; exact fr_ret1 F rfl _ rfl (FIN.out _ y _ hy rfl HLK HK HON)
set_option maxRecDepth 100000 in
set_option maxHeartbeats 4000000 in
theorem of_new {w0 w : World} {k OM m M K KM N : Nat} {L : List St} {O : List Po} (HK : Keep w0 [] [] w) (HLK : LkAt w w0.heap.size k OM m M K KM N L O) (i : Int) (hy : findO O i = none) : Calls Tryd.prog 32 #[.pointer (some ⟨k, 0, none⟩), .int .i64 i] w fun e w' => ∃ O' y, e = .returned (ptrO y) ∧ findO O' i = some y ∧ absO O' = absO O ∧ LkAt w' w0.heap.size k OM m M K KM N L O' ∧ Keep w0 [] [] w' ∧ Only (fun j => j = OM) w w' := by
  obtain ⟨RR, hRR⟩ : ∃ RR : Ending → World → Prop, RR = fun e w' => ∃ O' y, e = .returned (ptrO y) ∧ findO O' i = some y ∧ absO O' = absO O ∧ LkAt w' w0.heap.size k OM m M K KM N L O' ∧ Keep w0 [] [] w' ∧ Only (fun j => j = OM) w w' := ⟨_, rfl⟩
  have FIN := Lib.hid (show ∀ O' y w', findO O' i = some y → absO O' = absO O → LkAt w' w0.heap.size k OM m M K KM N L O' → Keep w0 [] [] w' → Only (fun j => j = OM) w w' → RR (.returned (ptrO y)) w' from fun O' y w' h1 h2 h3 h4 h5 => by rw [hRR]; exact ⟨O', y, rfl, h1, h2, h3, h4, h5⟩); rw [← hRR]; obtain ⟨w9, hw9⟩ : ∃ w9, w9 = w := ⟨_, rfl⟩
  have HON : Only (fun j => j = OM) w w9 := by rw [hw9]; exact Only.refl _ _
  rw [← hw9] at HK HLK; suffices hgo : Calls Tryd.prog 32 #[.pointer (some ⟨k, 0, none⟩), .int .i64 i] w9 RR by rw [hw9] at hgo; exact hgo
  clear hw9 hRR; go_enter Tryd.func32, Tryd.ntmps32
  refine wp_forget (n := 25) (L := [(1, .int .i64 i), (0, .pointer (some ⟨k, 0, none⟩))]) (FrL.add (FrL.add (FrL.nil ?_ ?_) _ _ ?_) _ _ ?_) ?_; iterate 4 rfl
  intro a9 F; refine wp_seq ?_; refine wp_region_lit ?_; refine fr_ch F 1 [(4, .pointer none)] (by kernel_rfl) ?_; clear F a9; intro a9 F; refine wpList_nil ?_; show Code.wp _ _ _ _ _; refine wp_seq ?_; refine wp_seq ?_; refine wp_region_lit ?_; refine fr_ch F 3 [(7, .pointer (some ⟨k, 1, none⟩))] (by kernel_rfl) ?_; clear F a9; intro a9 F; refine fr_do F (wanted_free rfl) 8 rfl (by decide) (.map (some OM)) (by intro a' F'; have h7 := F'.at' 7 _ rfl; have hc : w9.cell? ⟨k, 1, none⟩ = some (.map (some OM)) := HLK.box.cells 1; go_simp) ?_; clear F a9; intro a9 F; refine fr_mv F (wanted_free rfl) 9 rfl (by decide) 1 rfl rfl ?_; clear F a9; intro a9 F; refine fr_do F (wanted_free rfl) 10 rfl (by decide) (.pointer none) (fun a' F' => op_lookO HLK.ops i (F'.ev 8 rfl) (F'.ev 9 rfl) rfl (by rw [hy]; rfl)) ?_; clear F a9; intro a9 F; refine fr_ch F 1 [(11, .bool true)] (by kernel_rfl) ?_; clear F a9; intro a9 F; refine wpList_nil ?_; show Code.wp _ _ _ _ _; refine wp_cond_true (F.ev 11 rfl) ?_; replace F := F.cut [(1, .int .i64 i), (0, .pointer (some ⟨k, 0, none⟩))] (by kernel_rfl); refine wp_region_lit ?_; refine fr_ch F 3 [(14, .pointer (some ⟨k, 1, none⟩))] (by kernel_rfl) ?_; clear F a9; intro a9 F; refine fr_do F (wanted_free rfl) 15 rfl (by decide) (.map (some OM)) (by intro a' F'; have h14 := F'.at' 14 _ rfl; have hc : w9.cell? ⟨k, 1, none⟩ = some (.map (some OM)) := HLK.box.cells 1; go_simp) ?_; clear F a9; intro a9 F; refine fr_mv F (wanted_free rfl) 16 rfl (by decide) 1 rfl rfl ?_; clear F a9; intro a9 F; refine fr_ch F 1 [(17, .agg (paV N Pa.zero))] (by kernel_rfl) ?_; clear F a9; intro a9 F; have hk9 := HLK.box.lt; have hO9 := HLK.ops.lt; have hp9 : ∀ y ∈ O, y.p < w9.heap.size := fun y hy => (HLK.pa y hy).lt
  have hf9 : ∀ j, FootM m M K KM L j → j < w9.heap.size := fun j hj => HLK.mo.foot hj
  have hlo9 := HK.size; refine fr_box F HK 18 (by decide) rfl 95 _ rfl rfl (paV N Pa.zero) (fun a' F' => F'.ev 17 rfl) ?_; rintro P a10 w10 hX F' HK' hb; have hPp : ∀ y ∈ O, y.p ≠ P := fun y hy e => by have := hp9 y hy; omega
  have hPO : P ≠ OM := by omega
  have hPlo : w0.heap.size ≤ P := by omega
  clear hk9 hO9 hp9 hf9 hlo9; replace HLK := HLK.below hb; replace HON := HON.then hb
  clear HK F hb hX; clear a9 w9; rename World => w9
  rename Act => a9
  have HK := HK'; have F := F'; clear HK' F'; replace HK : Keep w0 [(P, (paV N Pa.zero), 95)] [] w9 := HK; obtain ⟨w7, hm7, ho7, hrun⟩ := op_update keyI Tryd.underlying60 HLK.ops i (.pointer (some ⟨P, 0, none⟩)); refine fr_skW F rfl rfl w7 (fun a' F' => hrun (Or.inl rfl) (F'.ev 15 rfl) (F'.ev 16 rfl) (F'.ev 18 rfl)) ?_; clear F a9; intro a9 F; have hent : entO (O ++ [⟨i, P, Pa.zero⟩]) = putE (entO O) i (.pointer (some ⟨P, 0, none⟩)) := by
    rw [putE_none (by rw [entO_get, hy]; rfl)]; unfold entO; rw [List.map_append]; rfl
  have hPb := (HK.at 0 rfl).only ho7 (fun e => hPO e); have HLK2 : LkAt w7 w0.heap.size k OM m M K KM N L (O ++ [⟨i, P, Pa.zero⟩]) := by
    have h := HLK; refine ⟨h.box.only ho7 (box_map_neI h.box h.ops), by rw [hent]; exact hm7, h.mo.only ho7 (fun j hj e => h.mo.mapFar h.ops h.far.1 h.far.2 (e ▸ hj)), ?_, ?_, ?_, h.far, h.lo.1, h.lo.2.1, ?_⟩
    · intro z hz
      rcases List.mem_append.1 hz with hz | hz
      · exact (h.pa z hz).only ho7 (box_map_neI (h.pa z hz) h.ops)
      · rw [List.mem_singleton.1 hz]; exact hPb
    · rw [List.map_append, List.nodup_append]
      refine ⟨h.od, by simp, fun a ha b hb e => ?_⟩; simp at hb
      obtain ⟨z, hz, rfl⟩ := List.mem_map.1 ha; have hn := List.find?_eq_none.1 hy z hz; exact hn (decide_eq_true (by rw [e, hb]))
    · rw [List.map_append, List.nodup_append]
      refine ⟨h.pd, by simp, fun a ha b hb e => ?_⟩; simp at hb
      obtain ⟨z, hz, rfl⟩ := List.mem_map.1 ha; exact hPp z hz (by rw [e, hb])
    · intro z hz
      rcases List.mem_append.1 hz with hz | hz
      · exact h.lo.2.2 z hz
      · rw [List.mem_singleton.1 hz]; exact hPlo
  have HK2 := HK.onlyOut ho7 HLK.lo.2.1 (fun z hz => by rw [List.mem_singleton.1 hz]; exact hPO); have HON2 := HON.trans ho7 (fun j _ h => h); have hab := absO_app (p := P) hy; have hfo : findO (O ++ [⟨i, P, Pa.zero⟩]) i = some ⟨i, P, Pa.zero⟩ := by rw [findO_app (y := ⟨i, P, Pa.zero⟩) hy, if_pos rfl]
  clear HK HLK HON hrun hm7 ho7 hPb hent w9; rename World => w9
  have HK := HK2; have HLK := HLK2; have HON := HON2; clear HK2 HLK2 HON2; refine wpList_nil ?_; show Code.wp _ _ _ _ _; replace F := F.cut [(1, .int .i64 i), (0, .pointer (some ⟨k, 0, none⟩))] (by kernel_rfl); refine wp_seq ?_; refine wp_region_lit ?_; refine fr_ch F 3 [(21, .pointer (some ⟨k, 1, none⟩))] (by kernel_rfl) ?_; clear F a9; intro a9 F; refine fr_do F (wanted_free rfl) 22 rfl (by decide) (.map (some OM)) (by intro a' F'; have h21 := F'.at' 21 _ rfl; have hc : w9.cell? ⟨k, 1, none⟩ = some (.map (some OM)) := HLK.box.cells 1; go_simp) ?_; clear F a9; intro a9 F; refine fr_mv F (wanted_free rfl) 23 rfl (by decide) 1 rfl rfl ?_; clear F a9; intro a9 F; refine fr_do F (wanted_free rfl) 24 rfl (by decide) (.pointer (some ⟨P, 0, none⟩)) (fun a' F' => op_lookO HLK.ops i (F'.ev 22 rfl) (F'.ev 23 rfl) rfl (by rw [hfo]; rfl)) ?_; clear F a9; intro a9 F; refine fr_ch F 1 [(4, .pointer (some ⟨P, 0, none⟩))] (by kernel_rfl) ?_; clear F a9; intro a9 F; refine wpList_nil ?_; show Code.wp _ _ _ _ _; refine wp_ret ?_; exact fr_ret1 F rfl _ rfl (FIN.out _ ⟨i, P, Pa.zero⟩ _ hfo hab HLK (HK.sub (List.nil_sublist _) (fun r hr => hr)) HON)
theorem order_of {w0 w : World} {k OM m M K KM N : Nat} {L : List St} {O : List Po} (HK : Keep w0 [] [] w) (HLK : LkAt w w0.heap.size k OM m M K KM N L O) (i : Int) : Calls Tryd.prog 32 #[.pointer (some ⟨k, 0, none⟩), .int .i64 i] w fun e w' => ∃ O' y, e = .returned (ptrO y) ∧ findO O' i = some y ∧ absO O' = absO O ∧ LkAt w' w0.heap.size k OM m M K KM N L O' ∧ Keep w0 [] [] w' ∧ Only (fun j => j = OM) w w' := by
  cases hy : findO O i with
  | none => exact of_new HK HLK i hy
  | some y => exact of_there HK HLK i hy
end Go.Proofs.YtnnpokndajpkiaaDoor
namespace Go.Proofs.YtnnpokndajpkiaaDoor
structure Pn where
  asks : Option Nt
  does : Option Nt
  routes : Option Nt
  keeps : Option Nt
  tells : Option Nt
deriving DecidableEq
def Pn.zero : Pn := ⟨none, none, none, none, none⟩
def freshN (y : Pn) : Bool := y.asks.isNone && y.does.isNone && y.routes.isNone && y.keeps.isNone && y.tells.isNone
def doneN (y : Pn) : Bool := y.does.isSome || y.routes.isSome || y.tells.isSome
def asksN (y : Pn) (n : Nt) : Nat := reasonN (decide (0 < n.op) && freshN y) true
def routesN (y : Pn) (n : Nt) : Nat := match y.asks with
  | none => 2
  | some s => if doneN y = true then 2 else reasonN true (sameR s n)
def doesN (y : Pn) (n : Nt) : Nat := match y.asks with
  | none => 2
  | some s => if doneN y = true then 2 else if sameD s n = true then 0 else 3
def keepsN (y : Pn) (n : Nt) : Nat := match y.routes with
  | none => 2
  | some r => if y.keeps.isSome = true then 2 else if y.tells.isSome = true then 2 else if sameK r n = true then 0 else 3
def tellsN (y : Pn) (n : Nt) : Nat := match y.asks with
  | none => 2
  | some s => if y.tells.isSome = true then 2 else match y.does with
    | some d => reasonN true (sameT s d n)
    | none => if s.p.ty = 3 then reasonN true (sameT s Nt.zero n) else 2
def putsN (y : Pn) (n : Nt) : Nat := match y.routes with
  | none => 2
  | some r => if y.tells.isSome = true then 2 else reasonN true (queuedP n r.msg)
def savedN (y : Pn) (n : Nt) : Nat := match y.does with
  | none => 2
  | some d => if y.tells.isSome = true then 2 else reasonN true (keptP n d)
def dropsN (y : Pn) (n : Nt) : Nat := if y.routes.isSome = true then putsN y n else savedN y n
def kindN (σ : Sess) (y : Pn) (n : Nt) : Nat × Pn × Sess :=
  if n.kind = 1 then (asksN y n, { y with asks := some n }, σ)
  else if n.kind = 2 then (if doesN y n = 0 then (appliedN (applyS σ n).1 n, { y with does := some n }, (applyS σ n).2) else (doesN y n, { y with does := some n }, σ))
  else if n.kind = 3 then (tellsN y n, { y with tells := some n }, σ)
  else if n.kind = 4 then (routesN y n, { y with routes := some n }, σ)
  else if n.kind = 5 then (if keepsN y n = 0 then (appliedN (applyS σ n).1 n, { y with keeps := some n }, (applyS σ n).2) else (keepsN y n, { y with keeps := some n }, σ))
  else if n.kind = 6 then (putsN y n, y, σ)
  else if n.kind = 7 then (dropsN y n, y, σ)
  else (savedN y n, y, σ)
def updP (π : Int → Pn) (i : Int) (y : Pn) : Int → Pn := fun j => if j = i then y else π j
def checkN : List Nt → Sess → (Int → Pn) → Nat → Int × Nat
  | [], _, _, _ => (-1, 0)
  | n :: r, σ, π, i =>
    if n.kind < 1 ∨ 8 < n.kind then ((i : Int), 1)
    else if (kindN σ (π n.op) n).1 ≠ 0 then ((i : Int), (kindN σ (π n.op) n).1)
    else checkN r (kindN σ (π n.op) n).2.2 (updP π n.op (kindN σ (π n.op) n).2.1) (i + 1)
def checkL (l : List Nt) : Int × Nat := checkN l (fun _ => none) (fun _ => Pn.zero) 0
end Go.Proofs.YtnnpokndajpkiaaDoor
namespace Go.Proofs.YtnnpokndajpkiaaDoor
open Go.RowKit
theorem opt_cases {α : Type} (o : Option α) : o = none ∨ ∃ x, o = some x := by
  cases o with
  | none => exact Or.inl rfl
  | some x => exact Or.inr ⟨x, rfl⟩
def Ref (w0 : World) (N : Nat) (q : Option Nat) (n : Option Nt) : Prop := match q, n with
  | none, none => True
  | some q, some n => ∃ a c, NtAt w0 N q n a c ∧ NtGood w0 n a
  | _, _ => False
theorem Ref.none' {w0 : World} {N : Nat} {q : Option Nat} (h : Ref w0 N q none) : q = none := by cases q; rfl; exact h.elim
theorem Ref.some' {w0 : World} {N : Nat} {q : Option Nat} {n : Nt} (h : Ref w0 N q (some n)) : ∃ r a c, q = some r ∧ NtAt w0 N r n a c ∧ NtGood w0 n a := by
  cases q with
  | none => exact h.elim
  | some r => obtain ⟨a, c, h1, h2⟩ := h; exact ⟨r, a, c, rfl, h1, h2⟩
theorem Ref.isSome {w0 : World} {N : Nat} {q : Option Nat} {n : Option Nt} (h : Ref w0 N q n) : q.isSome = n.isSome := by cases q <;> cases n <;> first | rfl | exact h.elim
theorem Ref.isNone {w0 : World} {N : Nat} {q : Option Nat} {n : Option Nt} (h : Ref w0 N q n) : q.isNone = n.isNone := by cases q <;> cases n <;> first | rfl | exact h.elim
structure RelP (w0 : World) (N : Nat) (x : Pa) (y : Pn) : Prop where
  asks : Ref w0 N x.asks y.asks
  does : Ref w0 N x.does y.does
  routes : Ref w0 N x.routes y.routes
  keeps : Ref w0 N x.keeps y.keeps
  tells : Ref w0 N x.tells y.tells
theorem RelP.done {w0 : World} {N : Nat} {x : Pa} {y : Pn} (h : RelP w0 N x y) : doneP x = doneN y := by unfold doneP doneN; rw [h.does.isSome, h.routes.isSome, h.tells.isSome]
theorem RelP.fresh {w0 : World} {N : Nat} {x : Pa} {y : Pn} (h : RelP w0 N x y) : freshP x = freshN y := by unfold freshP freshN; rw [h.asks.isNone, h.does.isNone, h.routes.isNone, h.keeps.isNone, h.tells.isNone]
def RetK (w0 w : World) (k OM m M K KM N : Nat) (L : List St) (O : List Po) (po : Po) (why : Nat) (y' : Pn) (σ : Sess) (e : Ending) (w' : World) : Prop :=
  ∃ L' x', e = .returned (.int .u8 (why : Int)) ∧ RelP w0 N x' y' ∧ absL L' = σ ∧ LkAt w' w0.heap.size k OM m M K KM N L' (updO O po.op x') ∧ Keep w0 [] [] w' ∧ Only (fun j => j = po.p ∨ FootM m M K KM L j) w w' ∧ (∀ j, FootM m M K KM L' j → FootM m M K KM L j ∨ w.heap.size ≤ j)
section
variable {w0 w : World} {k OM m M K KM N : Nat} {L : List St} {O : List Po} {po : Po}
theorem RetK.ofS (HLK : LkAt w w0.heap.size k OM m M K KM N L O) (hpo : findO O po.op = some po) {why : Nat} {x' : Pa} {y' : Pn} (hr : RelP w0 N x' y') {e : Ending} {w' : World} (h : RetS w0 w po.p N why x' e w') : RetK w0 w k OM m M K KM N L O po why y' (absL L) e w' := by
  obtain ⟨h1, h2, h3, h4⟩ := h; have hmo : MoAt w' w0.heap.size m M K KM L := HLK.mo.only h3 (fun j hj e => HLK.mo.boxFar (by decide) (HLK.pa po (findO_mem hpo).1) (e ▸ hj)); have ho := h3.weaken (G := fun j => j = po.p ∨ FootM m M K KM L j) (fun j h => Or.inl h); exact ⟨L, x', h1, hr, rfl, HLK.turn hpo ho h2 hmo, h4, ho, fun j hj => Or.inl hj⟩
theorem RetK.ofM (HLK : LkAt w w0.heap.size k OM m M K KM N L O) (hpo : findO O po.op = some po) {why : Nat} {x' : Pa} {y' : Pn} {σ : Sess} (hr : RelP w0 N x' y') {e : Ending} {w' : World} (h : RetM w0 w k OM m M K KM po.p N L why x' σ e w') : RetK w0 w k OM m M K KM N L O po why y' σ e w' := by
  obtain ⟨L', h1, h2, h3, h4, h5, h6, h7, h8⟩ := h; exact ⟨L', x', h1, hr, h2, HLK.turn hpo h6 h3 h5, h8, h6, h7⟩
end
theorem k_asks {w0 w : World} {k OM m M K KM N q : Nat} {L : List St} {O : List Po} {po : Po} {y : Pn} {n : Nt} {a : Option Addr} {c : Nat} (HK : Keep w0 [] [] w) (HLK : LkAt w w0.heap.size k OM m M K KM N L O) (hpo : findO O po.op = some po) (hy : RelP w0 N po.x y) (hn : NtAt w0 N q n a c) (hg : NtGood w0 n a) : Calls Tryd.prog 24 #[.pointer (some ⟨k, 0, none⟩), .pointer (some ⟨po.p, 0, none⟩), .pointer (some ⟨N, q, none⟩)] w (RetK w0 w k OM m M K KM N L O po (asksN y n) ({ y with asks := some n }) (absL L)) := by
  have HP := HLK.pa po (findO_mem hpo).1; have hpl := HLK.lo.2.2 po (findO_mem hpo).1; have hrel : RelP w0 N { po.x with asks := some q } { y with asks := some n } := ⟨⟨a, c, hn, hg⟩, hy.does, hy.routes, hy.keeps, hy.tells⟩
  unfold asksN; rw [← hy.fresh]; exact Calls.mono (order_asks _ HK HP hpl hn) (fun e w' h => RetK.ofS HLK hpo hrel h)
theorem k_routes {w0 w : World} {k OM m M K KM N q : Nat} {L : List St} {O : List Po} {po : Po} {y : Pn} {n : Nt} {a : Option Addr} {c : Nat} (HK : Keep w0 [] [] w) (HLK : LkAt w w0.heap.size k OM m M K KM N L O) (hpo : findO O po.op = some po) (hy : RelP w0 N po.x y) (hn : NtAt w0 N q n a c) (hg : NtGood w0 n a) : Calls Tryd.prog 26 #[.pointer (some ⟨k, 0, none⟩), .pointer (some ⟨po.p, 0, none⟩), .pointer (some ⟨N, q, none⟩)] w (RetK w0 w k OM m M K KM N L O po (routesN y n) ({ y with routes := some n }) (absL L)) := by
  have HP := HLK.pa po (findO_mem hpo).1; have hpl := HLK.lo.2.2 po (findO_mem hpo).1; have hrel : RelP w0 N { po.x with routes := some q } { y with routes := some n } := ⟨hy.asks, hy.does, ⟨a, c, hn, hg⟩, hy.keeps, hy.tells⟩
  have hdn := hy.done; obtain h1 | ⟨s, h1⟩ := opt_cases y.asks
  · have q1 := hy.asks
    rw [h1] at q1; have e : routesN y n = 2 := by unfold routesN; simp only [h1]
    rw [e]; exact Calls.mono (routes_no1 _ HK HP hpl hn q1.none') (fun e w' h => RetK.ofS HLK hpo hrel h)
  · have q1 := hy.asks
    rw [h1] at q1; obtain ⟨r, a2, c2, hx, hs, hg2⟩ := q1.some'; cases hd : doneP po.x with
    | true =>
      have e : routesN y n = 2 := by unfold routesN; simp only [h1, ← hdn, hd, if_true]
      rw [e]; exact Calls.mono (routes_no2 _ HK HP hpl hn hx hd) (fun e w' h => RetK.ofS HLK hpo hrel h)
    | false =>
      have e : routesN y n = reasonN true (sameR s n) := by unfold routesN; simp only [h1, ← hdn, hd, Bool.false_eq_true, if_false]
      rw [e]; exact Calls.mono (routes_row _ HK HP hpl hn hx hd hs hg2 hg) (fun e w' h => RetK.ofS HLK hpo hrel h)
theorem k_does {w0 w : World} {k OM m M K KM N q : Nat} {L : List St} {O : List Po} {po : Po} {y : Pn} {n : Nt} {a : Option Addr} {c : Nat} (HK : Keep w0 [] [] w) (HLK : LkAt w w0.heap.size k OM m M K KM N L O) (hpo : findO O po.op = some po) (hy : RelP w0 N po.x y) (hn : NtAt w0 N q n a c) (hg : NtGood w0 n a) : Calls Tryd.prog 25 #[.pointer (some ⟨k, 0, none⟩), .pointer (some ⟨po.p, 0, none⟩), .pointer (some ⟨N, q, none⟩)] w (RetK w0 w k OM m M K KM N L O po (if doesN y n = 0 then appliedN (applyS (absL L) n).1 n else doesN y n) ({ y with does := some n }) (if doesN y n = 0 then (applyS (absL L) n).2 else absL L)) := by
  have HP := HLK.pa po (findO_mem hpo).1; have hpl := HLK.lo.2.2 po (findO_mem hpo).1; have hrel : RelP w0 N { po.x with does := some q } { y with does := some n } := ⟨hy.asks, ⟨a, c, hn, hg⟩, hy.routes, hy.keeps, hy.tells⟩
  have hdn := hy.done; obtain h1 | ⟨s, h1⟩ := opt_cases y.asks
  · have q1 := hy.asks
    rw [h1] at q1; have e : doesN y n = 2 := by unfold doesN; simp only [h1]
    rw [if_neg (by rw [e]; decide), if_neg (by rw [e]; decide), e]; exact Calls.mono (does_no1 _ HK HP hpl hn q1.none') (fun e w' h => RetK.ofS HLK hpo hrel h)
  · have q1 := hy.asks
    rw [h1] at q1; obtain ⟨r, a2, c2, hx, hs, hg2⟩ := q1.some'; cases hd : doneP po.x with
    | true =>
      have e : doesN y n = 2 := by unfold doesN; simp only [h1, ← hdn, hd, if_true]
      rw [if_neg (by rw [e]; decide), if_neg (by rw [e]; decide), e]; exact Calls.mono (does_no2 _ HK HP hpl hn hx hd) (fun e w' h => RetK.ofS HLK hpo hrel h)
    | false =>
      cases hsm : sameD s n with
      | false =>
        have e : doesN y n = 3 := by unfold doesN; simp only [h1, ← hdn, hd, hsm, Bool.false_eq_true, if_false]
        rw [if_neg (by rw [e]; decide), if_neg (by rw [e]; decide), e]; exact Calls.mono (does_bad _ HK HP hpl hn hx hd hs hg2 hg hsm) (fun e w' h => RetK.ofS HLK hpo hrel h)
      | true =>
        have e : doesN y n = 0 := by unfold doesN; simp only [h1, ← hdn, hd, hsm, Bool.false_eq_true, if_false, if_true]
        rw [if_pos e, if_pos e]; exact Calls.mono (does_ok HK HLK.mo HLK.box HP hpl hn hg hx hd hs hg2 hsm) (fun e w' h => RetK.ofM HLK hpo hrel h)
theorem k_keeps {w0 w : World} {k OM m M K KM N q : Nat} {L : List St} {O : List Po} {po : Po} {y : Pn} {n : Nt} {a : Option Addr} {c : Nat} (HK : Keep w0 [] [] w) (HLK : LkAt w w0.heap.size k OM m M K KM N L O) (hpo : findO O po.op = some po) (hy : RelP w0 N po.x y) (hn : NtAt w0 N q n a c) (hg : NtGood w0 n a) : Calls Tryd.prog 28 #[.pointer (some ⟨k, 0, none⟩), .pointer (some ⟨po.p, 0, none⟩), .pointer (some ⟨N, q, none⟩)] w (RetK w0 w k OM m M K KM N L O po (if keepsN y n = 0 then appliedN (applyS (absL L) n).1 n else keepsN y n) ({ y with keeps := some n }) (if keepsN y n = 0 then (applyS (absL L) n).2 else absL L)) := by
  have HP := HLK.pa po (findO_mem hpo).1; have hpl := HLK.lo.2.2 po (findO_mem hpo).1; have hrel : RelP w0 N { po.x with keeps := some q } { y with keeps := some n } := ⟨hy.asks, hy.does, hy.routes, ⟨a, c, hn, hg⟩, hy.tells⟩
  obtain h1 | ⟨s, h1⟩ := opt_cases y.routes
  · have q1 := hy.routes
    rw [h1] at q1; have e : keepsN y n = 2 := by unfold keepsN; simp only [h1]
    rw [if_neg (by rw [e]; decide), if_neg (by rw [e]; decide), e]; exact Calls.mono (keeps_no1 _ HK HP hpl hn q1.none') (fun e w' h => RetK.ofS HLK hpo hrel h)
  have q1 := hy.routes; rw [h1] at q1; obtain ⟨r, a2, c2, hx, hs, hg2⟩ := q1.some'; have q2 := hy.keeps; obtain h2 | ⟨u, h2⟩ := opt_cases y.keeps; rotate_left
  · rw [h2] at q2
    obtain ⟨u', _, _, hk, _, _⟩ := q2.some'; have e : keepsN y n = 2 := by unfold keepsN; simp only [h1, h2, Option.isSome_some, if_true]
    rw [if_neg (by rw [e]; decide), if_neg (by rw [e]; decide), e]; exact Calls.mono (keeps_no2 _ HK HP hpl hn hx hk) (fun e w' h => RetK.ofS HLK hpo hrel h)
  rw [h2] at q2; have q3 := hy.tells; obtain h3 | ⟨t, h3⟩ := opt_cases y.tells; rotate_left
  · rw [h3] at q3
    obtain ⟨t', _, _, ht, _, _⟩ := q3.some'; have e : keepsN y n = 2 := by unfold keepsN; simp only [h1, h2, h3, Option.isSome_some, Option.isSome_none, Bool.false_eq_true, if_false, if_true]
    rw [if_neg (by rw [e]; decide), if_neg (by rw [e]; decide), e]; exact Calls.mono (keeps_no3 _ HK HP hpl hn hx q2.none' ht) (fun e w' h => RetK.ofS HLK hpo hrel h)
  rw [h3] at q3; cases hsm : sameK s n with
  | false =>
    have e : keepsN y n = 3 := by unfold keepsN; simp only [h1, h2, h3, hsm, Option.isSome_none, Bool.false_eq_true, if_false]
    rw [if_neg (by rw [e]; decide), if_neg (by rw [e]; decide), e]; exact Calls.mono (keeps_bad _ HK HP hpl hn hx q2.none' q3.none' hs hg2 hg hsm) (fun e w' h => RetK.ofS HLK hpo hrel h)
  | true =>
    have e : keepsN y n = 0 := by unfold keepsN; simp only [h1, h2, h3, hsm, Option.isSome_none, Bool.false_eq_true, if_false, if_true]
    rw [if_pos e, if_pos e]; exact Calls.mono (keeps_ok HK HLK.mo HLK.box HP hpl hn hg hx q2.none' q3.none' hs hg2 hsm) (fun e w' h => RetK.ofM HLK hpo hrel h)
theorem k_tells {w0 w : World} {k OM m M K KM N q : Nat} {L : List St} {O : List Po} {po : Po} {y : Pn} {n : Nt} {a : Option Addr} {c : Nat} (HK : Keep w0 [] [] w) (HLK : LkAt w w0.heap.size k OM m M K KM N L O) (hpo : findO O po.op = some po) (hy : RelP w0 N po.x y) (hn : NtAt w0 N q n a c) (hg : NtGood w0 n a) : Calls Tryd.prog 27 #[.pointer (some ⟨k, 0, none⟩), .pointer (some ⟨po.p, 0, none⟩), .pointer (some ⟨N, q, none⟩)] w (RetK w0 w k OM m M K KM N L O po (tellsN y n) ({ y with tells := some n }) (absL L)) := by
  have HP := HLK.pa po (findO_mem hpo).1; have hpl := HLK.lo.2.2 po (findO_mem hpo).1; have hrel : RelP w0 N { po.x with tells := some q } { y with tells := some n } := ⟨hy.asks, hy.does, hy.routes, hy.keeps, ⟨a, c, hn, hg⟩⟩
  have q1 := hy.asks; have q2 := hy.tells; have q3 := hy.does; obtain h1 | ⟨s, h1⟩ := opt_cases y.asks
  · rw [h1] at q1
    have e : tellsN y n = 2 := by unfold tellsN; simp only [h1]
    rw [e]; obtain h3 | ⟨d, h3⟩ := opt_cases y.does
    · rw [h3] at q3
      exact Calls.mono (tells_no1 _ HK HP hpl hn q1.none' q3.none') (fun e w' h => RetK.ofS HLK hpo hrel h)
    · rw [h3] at q3
      obtain ⟨d', _, _, hd, _, _⟩ := q3.some'; exact Calls.mono (tells_no1d _ HK HP hpl hn q1.none' hd) (fun e w' h => RetK.ofS HLK hpo hrel h)
  rw [h1] at q1; obtain ⟨r, a2, c2, hx, hs, hg2⟩ := q1.some'; obtain h2 | ⟨t, h2⟩ := opt_cases y.tells; rotate_left
  · rw [h2] at q2
    obtain ⟨t', _, _, ht, _, _⟩ := q2.some'; have e : tellsN y n = 2 := by unfold tellsN; simp only [h1, h2, Option.isSome_some, if_true]
    rw [e]; obtain h3 | ⟨d, h3⟩ := opt_cases y.does
    · rw [h3] at q3
      exact Calls.mono (tells_no2 _ HK HP hpl hn hx ht q3.none') (fun e w' h => RetK.ofS HLK hpo hrel h)
    · rw [h3] at q3
      obtain ⟨d', _, _, hd, _, _⟩ := q3.some'; exact Calls.mono (tells_no2d _ HK HP hpl hn hx ht hd) (fun e w' h => RetK.ofS HLK hpo hrel h)
  rw [h2] at q2; obtain h3 | ⟨d, h3⟩ := opt_cases y.does; rotate_left
  · rw [h3] at q3
    obtain ⟨d', a3, c3, hd, hdn, _⟩ := q3.some'; have e : tellsN y n = reasonN true (sameT s d n) := by unfold tellsN; simp only [h1, h2, h3, Option.isSome_none, Bool.false_eq_true, if_false]
    rw [e]; exact Calls.mono (tells_rowd _ HK HP hpl hn hx q2.none' hs hd hdn) (fun e w' h => RetK.ofS HLK hpo hrel h)
  rw [h3] at q3; by_cases hty : s.p.ty = 3
  · have e : tellsN y n = reasonN true (sameT s Nt.zero n) := by unfold tellsN; simp only [h1, h2, h3, hty, Option.isSome_none, Bool.false_eq_true, if_false, if_true]
    rw [e]; exact Calls.mono (tells_row _ HK HP hpl hn hx q2.none' hs q3.none' hty) (fun e w' h => RetK.ofS HLK hpo hrel h)
  · have e : tellsN y n = 2 := by unfold tellsN; simp only [h1, h2, h3, hty, Option.isSome_none, Bool.false_eq_true, if_false]
    rw [e]; exact Calls.mono (tells_no3 _ HK HP hpl hn hx q2.none' q3.none' hs hty) (fun e w' h => RetK.ofS HLK hpo hrel h)
theorem k_puts {w0 w : World} {k OM m M K KM N q : Nat} {L : List St} {O : List Po} {po : Po} {y : Pn} {n : Nt} {a : Option Addr} {c : Nat} (HK : Keep w0 [] [] w) (HLK : LkAt w w0.heap.size k OM m M K KM N L O) (hpo : findO O po.op = some po) (hy : RelP w0 N po.x y) (hn : NtAt w0 N q n a c) (_hg : NtGood w0 n a) : Calls Tryd.prog 29 #[.pointer (some ⟨k, 0, none⟩), .pointer (some ⟨po.p, 0, none⟩), .pointer (some ⟨N, q, none⟩)] w (RetK w0 w k OM m M K KM N L O po (putsN y n) (y) (absL L)) := by
  have HP := HLK.pa po (findO_mem hpo).1; have hpl := HLK.lo.2.2 po (findO_mem hpo).1; unfold putsN; cases h1 : y.routes with
  | none =>
    have q1 := hy.routes; rw [h1] at q1; exact Calls.mono (puts_no1 _ HK HP hpl hn q1.none') (fun e w' h => RetK.ofS HLK hpo hy h)
  | some s =>
    have q1 := hy.routes; rw [h1] at q1; obtain ⟨r, a2, c2, hx, hs, hg2⟩ := q1.some'; have q2 := hy.tells; cases h2 : y.tells with
    | none =>
      rw [h2] at q2; exact Calls.mono (puts_row _ HK HP hpl hn hx q2.none' hs) (fun e w' h => RetK.ofS HLK hpo hy h)
    | some t =>
      rw [h2] at q2; obtain ⟨t', _, _, ht, _, _⟩ := q2.some'; exact Calls.mono (puts_no2 _ HK HP hpl hn hx ht) (fun e w' h => RetK.ofS HLK hpo hy h)
theorem k_saved {w0 w : World} {k OM m M K KM N q : Nat} {L : List St} {O : List Po} {po : Po} {y : Pn} {n : Nt} {a : Option Addr} {c : Nat} (HK : Keep w0 [] [] w) (HLK : LkAt w w0.heap.size k OM m M K KM N L O) (hpo : findO O po.op = some po) (hy : RelP w0 N po.x y) (hn : NtAt w0 N q n a c) (_hg : NtGood w0 n a) : Calls Tryd.prog 30 #[.pointer (some ⟨k, 0, none⟩), .pointer (some ⟨po.p, 0, none⟩), .pointer (some ⟨N, q, none⟩)] w (RetK w0 w k OM m M K KM N L O po (savedN y n) (y) (absL L)) := by
  have HP := HLK.pa po (findO_mem hpo).1; have hpl := HLK.lo.2.2 po (findO_mem hpo).1; unfold savedN; cases h1 : y.does with
  | none =>
    have q1 := hy.does; rw [h1] at q1; exact Calls.mono (saved_no1 _ HK HP hpl hn q1.none') (fun e w' h => RetK.ofS HLK hpo hy h)
  | some s =>
    have q1 := hy.does; rw [h1] at q1; obtain ⟨r, a2, c2, hx, hs, hg2⟩ := q1.some'; have q2 := hy.tells; cases h2 : y.tells with
    | none =>
      rw [h2] at q2; exact Calls.mono (saved_row _ HK HP hpl hn hx q2.none' hs) (fun e w' h => RetK.ofS HLK hpo hy h)
    | some t =>
      rw [h2] at q2; obtain ⟨t', _, _, ht, _, _⟩ := q2.some'; exact Calls.mono (saved_no2 _ HK HP hpl hn hx ht) (fun e w' h => RetK.ofS HLK hpo hy h)
end Go.Proofs.YtnnpokndajpkiaaDoor
namespace Go.Proofs.YtnnpokndajpkiaaDoor
open Go.RowKit
theorem S_puts {w0 w : World} {p N q : Nat} {x : Pa} {y : Pn} {n : Nt} {a : Option Addr} {c : Nat} (kv : Value) (HK : Keep w0 [] [] w) (HP : BoxAt w p (paV N x) 95) (hpl : w0.heap.size ≤ p) (hn : NtAt w0 N q n a c) (hy : RelP w0 N x y) : Calls Tryd.prog 29 #[kv, .pointer (some ⟨p, 0, none⟩), .pointer (some ⟨N, q, none⟩)] w (RetS w0 w p N (putsN y n) x) := by
  have q1 := hy.routes; have q2 := hy.tells; obtain h1 | ⟨s, h1⟩ := opt_cases y.routes
  · rw [h1] at q1
    have e : putsN y n = 2 := by unfold putsN; simp only [h1]
    rw [e]; exact puts_no1 kv HK HP hpl hn q1.none'
  rw [h1] at q1; obtain ⟨r, a2, c2, hx, hs, hg2⟩ := q1.some'; obtain h2 | ⟨t, h2⟩ := opt_cases y.tells
  · rw [h2] at q2
    have e : putsN y n = reasonN true (queuedP n s.msg) := by unfold putsN; simp only [h1, h2, Option.isSome_none, Bool.false_eq_true, if_false]
    rw [e]; exact puts_row kv HK HP hpl hn hx q2.none' hs
  · rw [h2] at q2
    obtain ⟨t', _, _, ht, _, _⟩ := q2.some'; have e : putsN y n = 2 := by unfold putsN; simp only [h1, h2, Option.isSome_some, if_true]
    rw [e]; exact puts_no2 kv HK HP hpl hn hx ht
theorem S_saved {w0 w : World} {p N q : Nat} {x : Pa} {y : Pn} {n : Nt} {a : Option Addr} {c : Nat} (kv : Value) (HK : Keep w0 [] [] w) (HP : BoxAt w p (paV N x) 95) (hpl : w0.heap.size ≤ p) (hn : NtAt w0 N q n a c) (hy : RelP w0 N x y) : Calls Tryd.prog 30 #[kv, .pointer (some ⟨p, 0, none⟩), .pointer (some ⟨N, q, none⟩)] w (RetS w0 w p N (savedN y n) x) := by
  have q1 := hy.does; have q2 := hy.tells; obtain h1 | ⟨s, h1⟩ := opt_cases y.does
  · rw [h1] at q1
    have e : savedN y n = 2 := by unfold savedN; simp only [h1]
    rw [e]; exact saved_no1 kv HK HP hpl hn q1.none'
  rw [h1] at q1; obtain ⟨r, a2, c2, hx, hs, hg2⟩ := q1.some'; obtain h2 | ⟨t, h2⟩ := opt_cases y.tells
  · rw [h2] at q2
    have e : savedN y n = reasonN true (keptP n s) := by unfold savedN; simp only [h1, h2, Option.isSome_none, Bool.false_eq_true, if_false]
    rw [e]; exact saved_row kv HK HP hpl hn hx q2.none' hs
  · rw [h2] at q2
    obtain ⟨t', _, _, ht, _, _⟩ := q2.some'; have e : savedN y n = 2 := by unfold savedN; simp only [h1, h2, Option.isSome_some, if_true]
    rw [e]; exact saved_no2 kv HK HP hpl hn hx ht
theorem k_drops {w0 w : World} {k OM m M K KM N q : Nat} {L : List St} {O : List Po} {po : Po} {y : Pn} {n : Nt} {a : Option Addr} {c : Nat} (HK : Keep w0 [] [] w) (HLK : LkAt w w0.heap.size k OM m M K KM N L O) (hpo : findO O po.op = some po) (hy : RelP w0 N po.x y) (hn : NtAt w0 N q n a c) (_hg : NtGood w0 n a) : Calls Tryd.prog 31 #[.pointer (some ⟨k, 0, none⟩), .pointer (some ⟨po.p, 0, none⟩), .pointer (some ⟨N, q, none⟩)] w (RetK w0 w k OM m M K KM N L O po (dropsN y n) (y) (absL L)) := by
  have HP := HLK.pa po (findO_mem hpo).1; have hpl := HLK.lo.2.2 po (findO_mem hpo).1; have q1 := hy.routes; obtain h1 | ⟨s, h1⟩ := opt_cases y.routes
  · rw [h1] at q1
    have e : dropsN y n = savedN y n := by unfold dropsN; simp only [h1, Option.isSome_none, Bool.false_eq_true, if_false]
    rw [e]; exact Calls.mono (drops_saved _ HK HP hpl hn q1.none' (fun w HK HP => S_saved _ HK HP hpl hn hy)) (fun e w' h => RetK.ofS HLK hpo hy h)
  · rw [h1] at q1
    obtain ⟨r, a2, c2, hx, hs, hg2⟩ := q1.some'; have e : dropsN y n = putsN y n := by unfold dropsN; simp only [h1, Option.isSome_some, if_true]
    rw [e]; exact Calls.mono (drops_puts _ HK HP hpl hn hx (fun w HK HP => S_puts _ HK HP hpl hn hy)) (fun e w' h => RetK.ofS HLK hpo hy h)
def kindF (i : Nat) : FuncId := if i = 1 then 24 else if i = 2 then 25 else if i = 3 then 27 else if i = 4 then 26 else if i = 5 then 28 else if i = 6 then 29 else if i = 7 then 31 else 30
def fvK (k : Nat) (f : FuncId) : Value := .func (.func f) #[.pointer (some ⟨k, 0, none⟩)] #[]
def entK (k : Nat) : List (Int × Value) := [(1, fvK k 24), (2, fvK k 25), (4, fvK k 26), (3, fvK k 27), (5, fvK k 28), (6, fvK k 29), (8, fvK k 30), (7, fvK k 31)]
theorem entK_get (k i : Nat) (h1 : 1 ≤ i) (h8 : i ≤ 8) : getE (entK k) (i : Int) = some (fvK k (kindF i)) := by
  have h : i = 1 ∨ i = 2 ∨ i = 3 ∨ i = 4 ∨ i = 5 ∨ i = 6 ∨ i = 7 ∨ i = 8 := by omega
  rcases h with rfl | rfl | rfl | rfl | rfl | rfl | rfl | rfl <;> rfl
theorem entK_none (k i : Nat) (h : i < 1 ∨ 8 < i) : getE (entK k) (i : Int) = none := by
  unfold entK; simp only [getE]; repeat rw [if_neg (by omega)]
theorem order_kind {w0 w : World} {k OM m M K KM N q : Nat} {L : List St} {O : List Po} {po : Po} {y : Pn} {n : Nt} {a : Option Addr} {c : Nat} (HK : Keep w0 [] [] w) (HLK : LkAt w w0.heap.size k OM m M K KM N L O) (hpo : findO O po.op = some po) (hy : RelP w0 N po.x y) (hn : NtAt w0 N q n a c) (hg : NtGood w0 n a) (h1 : 1 ≤ n.kind) (h8 : n.kind ≤ 8) : Calls Tryd.prog (kindF n.kind) #[.pointer (some ⟨k, 0, none⟩), .pointer (some ⟨po.p, 0, none⟩), .pointer (some ⟨N, q, none⟩)] w (RetK w0 w k OM m M K KM N L O po (kindN (absL L) y n).1 (kindN (absL L) y n).2.1 (kindN (absL L) y n).2.2) := by
  have h : n.kind = 1 ∨ n.kind = 2 ∨ n.kind = 3 ∨ n.kind = 4 ∨ n.kind = 5 ∨ n.kind = 6 ∨ n.kind = 7 ∨ n.kind = 8 := by omega
  rcases h with h | h | h | h | h | h | h | h
  · have e : kindN (absL L) y n = (asksN y n, { y with asks := some n }, absL L) := by
      unfold kindN; rw [if_pos h]
    have ef : kindF n.kind = 24 := by rw [h]; rfl
    rw [e, ef]; exact k_asks HK HLK hpo hy hn hg
  · have e : kindN (absL L) y n = (if doesN y n = 0 then appliedN (applyS (absL L) n).1 n else doesN y n, { y with does := some n }, if doesN y n = 0 then (applyS (absL L) n).2 else absL L) := by
      unfold kindN; rw [if_neg (by omega), if_pos h]; split <;> rfl
    have ef : kindF n.kind = 25 := by rw [h]; rfl
    rw [e, ef]; exact k_does HK HLK hpo hy hn hg
  · have e : kindN (absL L) y n = (tellsN y n, { y with tells := some n }, absL L) := by
      unfold kindN; rw [if_neg (by omega), if_neg (by omega), if_pos h]
    have ef : kindF n.kind = 27 := by rw [h]; rfl
    rw [e, ef]; exact k_tells HK HLK hpo hy hn hg
  · have e : kindN (absL L) y n = (routesN y n, { y with routes := some n }, absL L) := by
      unfold kindN; rw [if_neg (by omega), if_neg (by omega), if_neg (by omega), if_pos h]
    have ef : kindF n.kind = 26 := by rw [h]; rfl
    rw [e, ef]; exact k_routes HK HLK hpo hy hn hg
  · have e : kindN (absL L) y n = (if keepsN y n = 0 then appliedN (applyS (absL L) n).1 n else keepsN y n, { y with keeps := some n }, if keepsN y n = 0 then (applyS (absL L) n).2 else absL L) := by
      unfold kindN; rw [if_neg (by omega), if_neg (by omega), if_neg (by omega), if_neg (by omega), if_pos h]; split <;> rfl
    have ef : kindF n.kind = 28 := by rw [h]; rfl
    rw [e, ef]; exact k_keeps HK HLK hpo hy hn hg
  · have e : kindN (absL L) y n = (putsN y n, y, absL L) := by
      unfold kindN; rw [if_neg (by omega), if_neg (by omega), if_neg (by omega), if_neg (by omega), if_neg (by omega), if_pos h]
    have ef : kindF n.kind = 29 := by rw [h]; rfl
    rw [e, ef]; exact k_puts HK HLK hpo hy hn hg
  · have e : kindN (absL L) y n = (dropsN y n, y, absL L) := by
      unfold kindN; rw [if_neg (by omega), if_neg (by omega), if_neg (by omega), if_neg (by omega), if_neg (by omega), if_neg (by omega), if_pos h]
    have ef : kindF n.kind = 31 := by rw [h]; rfl
    rw [e, ef]; exact k_drops HK HLK hpo hy hn hg
  · have e : kindN (absL L) y n = (savedN y n, y, absL L) := by
      unfold kindN; rw [if_neg (by omega), if_neg (by omega), if_neg (by omega), if_neg (by omega), if_neg (by omega), if_neg (by omega), if_neg (by omega)]
    have ef : kindF n.kind = 30 := by rw [h]; rfl
    rw [e, ef]; exact k_saved HK HLK hpo hy hn hg
end Go.Proofs.YtnnpokndajpkiaaDoor
namespace Go.Proofs.YtnnpokndajpkiaaDoor
open Go.RowKit
abbrev NtE := Nt × Option Addr × Nat
def ntC (x : NtE) : List Value := (ntV x.1 x.2.1 x.2.2).toList
def ntCells (T : List NtE) : List Value := T.flatMap ntC
theorem ntC_len (x : NtE) : (ntC x).length = 35 := rfl
theorem keyU8 : KeyF Tryd.prog 5 (fun i : Int => Value.int .u8 i) (.int .u8) := key_int Tryd.underlying5
theorem zFun (w : World) : (zeroValue 63).run Tryd.prog w = .ok .nilFunc w := by kernel_rfl
theorem op_lookK {w : World} {X k i : Nat} (h : MapAt w X (fun i : Int => Value.int .u8 i) (entK k)) {ρ : Operand → Value} {o : Oper} {x y : Operand} {v : Value} (hx : ρ x = .map (some X)) (hy : ρ y = .int .u8 (i : Int)) (ho : o.op = .lookup 64 x y false) (hv : (getE (entK k) (i : Int)).getD .nilFunc = v) : (execOp ρ o).run Tryd.prog w = .ok (.value v) w := by
  have h := op_lookup keyU8 Tryd.underlying64 h (i : Int) (zFun _) ho hx hy; rw [hv] at h; exact h
set_option maxHeartbeats 4000000 in
theorem call_kind {w : World} {k i : Nat} {p q : Value} (h1 : 1 ≤ i) (h8 : i ≤ 8) {ρ : Operand → Value} {o : Oper} {x y z : Operand} {ts : Array TypeId} (ho : o.op = .call { callee := .value x, args := #[y, z], argTypes := ts }) (hx : ρ x = fvK k (kindF i)) (hy : ρ y = p) (hz : ρ z = q) :
    (execOp ρ o).run Tryd.prog w = .ok (.enter (kindF i) #[.pointer (some ⟨k, 0, none⟩), p, q]) w := by
  have h : i = 1 ∨ i = 2 ∨ i = 3 ∨ i = 4 ∨ i = 5 ∨ i = 6 ∨ i = 7 ∨ i = 8 := by omega
  unfold execOp; rcases h with rfl | rfl | rfl | rfl | rfl | rfl | rfl | rfl <;> (simp only [kindF, fvK] at hx ⊢; simp only [ho]; go_simp)
theorem op_nilF {w : World} {f : FuncId} {k : Nat} {ρ : Operand → Value} {o : Oper} {x y : Operand} (hx : ρ x = fvK k f) (hy : ρ y = .nilFunc) (ho : o.op = .binOp .eql 63 x y 63) : (execOp ρ o).run Tryd.prog w = .ok (.value (.bool false)) w := by
  unfold fvK at hx; have h3 : (binOp .eql 63 (.func (.func f) #[.pointer (some ⟨k, 0, none⟩)] #[]) .nilFunc).run Tryd.prog w = .ok (.bool false) w := by kernel_rfl
  unfold execOp; simp only [ho, hx, hy]; go_simp
theorem op_nilT {w : World} {ρ : Operand → Value} {o : Oper} {x y : Operand} (hx : ρ x = .nilFunc) (hy : ρ y = .nilFunc) (ho : o.op = .binOp .eql 63 x y 63) : (execOp ρ o).run Tryd.prog w = .ok (.value (.bool true)) w := by
  have h3 : (binOp .eql 63 .nilFunc .nilFunc).run Tryd.prog w = .ok (.bool true) w := by kernel_rfl
  unfold execOp; simp only [ho, hx, hy]; go_simp
theorem log_at {w : World} {a : Option Addr} {T : List NtE} (h : CellsA w a (ntCells T)) : ∃ N o, ∀ i x, T[i]? = some x → a = some ⟨N, o, none⟩ ∧ NtAt w N (o + i * 35) x.1 x.2.1 x.2.2 := by
  cases T with
  | nil => exact ⟨0, 0, fun i x hx => by simp at hx⟩
  | cons x0 T =>
    obtain ⟨N, o, ha, _⟩ := CellsA.elem (m := 35) ntC_len h (i := 0) rfl (.int .u8 (x0.1.kind : Int)) rfl; refine ⟨N, o, fun i x hx => ⟨ha, ?_⟩⟩; obtain ⟨N', o', ha', hc⟩ := CellsA.elem (m := 35) ntC_len h hx (.int .u8 (x.1.kind : Int)) rfl; rw [ha] at ha'; injection ha' with e
    injection e with e1 e2
    subst e1 e2; exact fun j v hv => hc j v hv
theorem relZ (w0 : World) (N : Nat) : RelP w0 N Pa.zero Pn.zero := ⟨trivial, trivial, trivial, trivial, trivial⟩
set_option maxRecDepth 100000 in
set_option maxHeartbeats 4000000 in
theorem order_Check {w : World} (hE : Env w) (T : List NtE) (a : Option Addr) (c : Nat) (hc : CellsA w a (ntCells T)) (hg : ∀ x ∈ T, NtGood w x.1 x.2.1) (hlen : T.length ≤ 1000000) : Calls Tryd.prog 7 #[.slice a T.length c] w fun e w' => e = .returned (.tuple #[.int .i64 (checkL (T.map (·.1))).1, .int .u8 ((checkL (T.map (·.1))).2 : Int)]) ∧ Below w.heap.size w w' := by
  obtain ⟨RR, hRR⟩ : ∃ RR : Ending → World → Prop, RR = fun e w' => e = .returned (.tuple #[.int .i64 (checkL (T.map (·.1))).1, .int .u8 ((checkL (T.map (·.1))).2 : Int)]) ∧ Below w.heap.size w w' := ⟨_, rfl⟩
  have FIN := Lib.hid (show ∀ i y w', i = (checkL (T.map (·.1))).1 → y = (checkL (T.map (·.1))).2 → Below w.heap.size w w' → RR (.returned (.tuple #[.int .i64 i, .int .u8 (y : Int)])) w' from fun i y w' h1 h2 h3 => by rw [hRR, h1, h2]; exact ⟨rfl, h3⟩); rw [← hRR]; obtain ⟨N, o0, hlog⟩ := log_at hc; have HL := Lib.hid hlog; have HG := Lib.hid hg; obtain ⟨w9, hw9⟩ : ∃ w9, w9 = w := ⟨_, rfl⟩
  have HK : Keep w [] [] w9 := by rw [hw9]; exact Keep.begin hE _ (by intro r hr; cases hr)
  suffices hgo : Calls Tryd.prog 7 #[.slice a T.length c] w9 RR by rw [hw9] at hgo; exact hgo
  clear hw9 hRR hE hc hlog hg; go_enter Tryd.func7, Tryd.ntmps7
  refine wp_forget (n := 63) (L := [(0, .slice a T.length c)]) (FrL.add (FrL.nil ?_ ?_) _ _ ?_) ?_; iterate 3 rfl
  intro a9 F; refine wp_seq ?_; refine wp_region_lit ?_; refine fr_ch F 2 [(3, .int .u8 0), (2, .int .i64 0)] (by kernel_rfl) ?_; clear F a9; intro a9 F; refine wpList_nil ?_; show Code.wp _ _ _ _ _; refine wp_seq ?_; refine wp_region_lit ?_; refine fr_call F (wanted_free rfl) 10 rfl (by decide) 23 #[] (by intro a' F'; go_simp) (model_New HK HK.size) ?_; rintro e9 w8 ⟨m, M, K, KM, rfl, HMO, HK2, hb8, hlm, hlM, hlK, hlKM⟩; clear HK hb8 hlm hlM hlK hlKM; clear w9; rename World => w9
  have HK := HK2; clear HK2; refine ⟨_, rfl, ?_⟩; clear F a9; intro a9 F; refine fr_doW F (wanted_free rfl) 11 rfl (by decide) (.map (some w9.heap.size)) (w9.alloc (.map #[] 0)) (fun a' F' => rfl) ?_; clear F a9; intro a9 F; have hb8 : Below w9.heap.size w9 (w9.alloc (.map #[] 0)) := (Below.refl _ _).alloc (Nat.le_refl _) _; have HOM : MapAt (w9.alloc (.map #[] 0)) w9.heap.size (fun i : Int => Value.int .i64 i) (entO []) := ⟨#[], 0, heap_alloc_new w9 _, rfl⟩
  have hlO := HK.size; have hf9 : w9.heap.size ≠ M ∧ w9.heap.size ≠ KM := by
    have h1 := HMO.map.lt; obtain ⟨es, he⟩ := HMO.kmap; have h2 := he.lt; omega
  replace HMO := HMO.below hb8; replace HK := HK.below hb8; obtain ⟨OM, hOM⟩ : ∃ OM, w9.heap.size = OM := ⟨_, rfl⟩
  rw [hOM] at HOM F hlO hf9; clear hb8 hOM; generalize w9.alloc (.map #[] 0) = w8 at *; clear w9; rename World => w9
  refine fr_ch F 1 [(12, .agg #[.pointer (some ⟨m, 0, none⟩), .map (some OM)])] (by kernel_rfl) ?_; clear F a9; intro a9 F; refine fr_box F HK 13 (by decide) rfl 62 _ rfl rfl #[.pointer (some ⟨m, 0, none⟩), .map (some OM)] (fun a' F' => F'.ev 12 rfl) ?_; rintro k a10 w10 hX F' HK' hb; replace HMO := HMO.below hb; replace HOM := HOM.below hb; clear HK F hb hX; clear a9 w9; rename World => w9
  rename Act => a9
  have HK := HK'; have F := F'; clear HK' F'; replace HK : Keep w [(k, #[.pointer (some ⟨m, 0, none⟩), .map (some OM)], 62)] [] w9 := HK; refine fr_as F (wanted_free rfl) 4 rfl (by decide) 13 rfl rfl ?_; clear F a9; intro a9 F; refine wpList_nil ?_; show Code.wp _ _ _ _ _; have hup := HK.up _ (List.mem_cons_self ..); simp only at hup
  have HLK : LkAt w9 w.heap.size k OM m M K KM N [] [] := ⟨HK.at 0 rfl, HOM, HMO, fun y hy => (by cases hy), List.nodup_nil, List.nodup_nil, hf9, ⟨hup, hlO, fun y hy => (by cases hy)⟩⟩
  have HK2 := HK.sub (List.nil_sublist _) (fun r hr => hr); clear HK HMO HOM hf9 hlO hup; have HK := HK2; clear HK2; replace F := F.cut [(4, .pointer (some ⟨k, 0, none⟩)), (3, .int .u8 0), (2, .int .i64 0), (0, .slice a T.length c)] (by kernel_rfl); refine wp_seq ?_; refine wp_region_lit ?_; refine fr_doW F (wanted_free rfl) 14 rfl (by decide) (.map (some w9.heap.size)) (w9.alloc (.map #[] 0)) (fun a' F' => rfl) ?_; clear F a9; intro a9 F; have hb8 : Below w9.heap.size w9 (w9.alloc (.map #[] 0)) := (Below.refl _ _).alloc (Nat.le_refl _) _; have HD : MapAt (w9.alloc (.map #[] 0)) w9.heap.size (fun i : Int => Value.int .u8 i) [] := ⟨#[], 0, heap_alloc_new w9 _, rfl⟩
  have hKD : w.heap.size ≤ w9.heap.size ∧ w9.heap.size ≠ OM ∧ ¬ FootM m M K KM [] w9.heap.size ∧ k ≠ w9.heap.size := by
    have h1 := HLK.ops.lt; have h2 := HLK.box.lt; exact ⟨HK.size, by omega, fun h => by have := HLK.mo.foot h; omega, by omega⟩
  replace HLK := HLK.below hb8; replace HK := HK.below hb8; obtain ⟨D, hD⟩ : ∃ D, w9.heap.size = D := ⟨_, rfl⟩
  rw [hD] at HD F hKD; obtain ⟨hD0, hDO, hDM, hDk⟩ := hKD; clear hb8 hD; generalize w9.alloc (.map #[] 0) = w8 at *; clear w9; rename World => w9
  refine fr_ch F 1 [(15, .pointer (some ⟨k, 0, none⟩))] (by kernel_rfl) ?_; clear F a9; intro a9 F; refine fr_do F (wanted_free rfl) 16 rfl (by decide) (fvK k 24) (by intro a' F'; have h15 := F'.at' 15 _ rfl; unfold fvK; go_simp) ?_; clear F a9; intro a9 F; obtain ⟨w7, hm7, ho7, hrun⟩ := op_update keyU8 Tryd.underlying64 HD (1 : Int) (fvK k 24); refine fr_skW F rfl rfl w7 (fun a' F' => hrun (Or.inr rfl) (F'.ev 14 rfl) rfl (F'.ev 16 rfl)) ?_; clear F a9; intro a9 F; have HLK2 : LkAt w7 w.heap.size k OM m M K KM N [] [] := ⟨HLK.box.only ho7 hDk, HLK.ops.only ho7 (fun e => hDO e.symm), HLK.mo.only ho7 (fun j hj e => hDM (e ▸ hj)), fun y hy => (by cases hy), List.nodup_nil, List.nodup_nil, HLK.far, HLK.lo⟩
  have HK2 := HK.onlyOut ho7 hD0 (fun z hz => by cases hz); clear HLK HK HD hrun ho7; clear w9; rename World => w9
  have HLK := HLK2; have HK := HK2; have HD := hm7; clear HLK2 HK2 hm7; refine fr_mv F (wanted_free rfl) 17 rfl (by decide) 4 rfl rfl ?_; clear F a9; intro a9 F; refine fr_do F (wanted_free rfl) 18 rfl (by decide) (fvK k 25) (by intro a' F'; have h17 := F'.at' 17 _ rfl; unfold fvK; go_simp) ?_; clear F a9; intro a9 F; obtain ⟨w7, hm7, ho7, hrun⟩ := op_update keyU8 Tryd.underlying64 HD (2 : Int) (fvK k 25); refine fr_skW F rfl rfl w7 (fun a' F' => hrun (Or.inr rfl) (F'.ev 14 rfl) rfl (F'.ev 18 rfl)) ?_; clear F a9; intro a9 F; have HLK2 : LkAt w7 w.heap.size k OM m M K KM N [] [] := ⟨HLK.box.only ho7 hDk, HLK.ops.only ho7 (fun e => hDO e.symm), HLK.mo.only ho7 (fun j hj e => hDM (e ▸ hj)), fun y hy => (by cases hy), List.nodup_nil, List.nodup_nil, HLK.far, HLK.lo⟩
  have HK2 := HK.onlyOut ho7 hD0 (fun z hz => by cases hz); clear HLK HK HD hrun ho7; clear w9; rename World => w9
  have HLK := HLK2; have HK := HK2; have HD := hm7; clear HLK2 HK2 hm7; refine fr_mv F (wanted_free rfl) 19 rfl (by decide) 4 rfl rfl ?_; clear F a9; intro a9 F; refine fr_do F (wanted_free rfl) 20 rfl (by decide) (fvK k 26) (by intro a' F'; have h19 := F'.at' 19 _ rfl; unfold fvK; go_simp) ?_; clear F a9; intro a9 F; obtain ⟨w7, hm7, ho7, hrun⟩ := op_update keyU8 Tryd.underlying64 HD (4 : Int) (fvK k 26); refine fr_skW F rfl rfl w7 (fun a' F' => hrun (Or.inr rfl) (F'.ev 14 rfl) rfl (F'.ev 20 rfl)) ?_; clear F a9; intro a9 F; have HLK2 : LkAt w7 w.heap.size k OM m M K KM N [] [] := ⟨HLK.box.only ho7 hDk, HLK.ops.only ho7 (fun e => hDO e.symm), HLK.mo.only ho7 (fun j hj e => hDM (e ▸ hj)), fun y hy => (by cases hy), List.nodup_nil, List.nodup_nil, HLK.far, HLK.lo⟩
  have HK2 := HK.onlyOut ho7 hD0 (fun z hz => by cases hz); clear HLK HK HD hrun ho7; clear w9; rename World => w9
  have HLK := HLK2; have HK := HK2; have HD := hm7; clear HLK2 HK2 hm7; refine fr_mv F (wanted_free rfl) 21 rfl (by decide) 4 rfl rfl ?_; clear F a9; intro a9 F; refine fr_do F (wanted_free rfl) 22 rfl (by decide) (fvK k 27) (by intro a' F'; have h21 := F'.at' 21 _ rfl; unfold fvK; go_simp) ?_; clear F a9; intro a9 F; obtain ⟨w7, hm7, ho7, hrun⟩ := op_update keyU8 Tryd.underlying64 HD (3 : Int) (fvK k 27); refine fr_skW F rfl rfl w7 (fun a' F' => hrun (Or.inr rfl) (F'.ev 14 rfl) rfl (F'.ev 22 rfl)) ?_; clear F a9; intro a9 F; have HLK2 : LkAt w7 w.heap.size k OM m M K KM N [] [] := ⟨HLK.box.only ho7 hDk, HLK.ops.only ho7 (fun e => hDO e.symm), HLK.mo.only ho7 (fun j hj e => hDM (e ▸ hj)), fun y hy => (by cases hy), List.nodup_nil, List.nodup_nil, HLK.far, HLK.lo⟩
  have HK2 := HK.onlyOut ho7 hD0 (fun z hz => by cases hz); clear HLK HK HD hrun ho7; clear w9; rename World => w9
  have HLK := HLK2; have HK := HK2; have HD := hm7; clear HLK2 HK2 hm7; refine fr_mv F (wanted_free rfl) 23 rfl (by decide) 4 rfl rfl ?_; clear F a9; intro a9 F; refine fr_do F (wanted_free rfl) 24 rfl (by decide) (fvK k 28) (by intro a' F'; have h23 := F'.at' 23 _ rfl; unfold fvK; go_simp) ?_; clear F a9; intro a9 F; obtain ⟨w7, hm7, ho7, hrun⟩ := op_update keyU8 Tryd.underlying64 HD (5 : Int) (fvK k 28); refine fr_skW F rfl rfl w7 (fun a' F' => hrun (Or.inr rfl) (F'.ev 14 rfl) rfl (F'.ev 24 rfl)) ?_; clear F a9; intro a9 F; have HLK2 : LkAt w7 w.heap.size k OM m M K KM N [] [] := ⟨HLK.box.only ho7 hDk, HLK.ops.only ho7 (fun e => hDO e.symm), HLK.mo.only ho7 (fun j hj e => hDM (e ▸ hj)), fun y hy => (by cases hy), List.nodup_nil, List.nodup_nil, HLK.far, HLK.lo⟩
  have HK2 := HK.onlyOut ho7 hD0 (fun z hz => by cases hz); clear HLK HK HD hrun ho7; clear w9; rename World => w9
  have HLK := HLK2; have HK := HK2; have HD := hm7; clear HLK2 HK2 hm7; refine fr_mv F (wanted_free rfl) 25 rfl (by decide) 4 rfl rfl ?_; clear F a9; intro a9 F; refine fr_do F (wanted_free rfl) 26 rfl (by decide) (fvK k 29) (by intro a' F'; have h25 := F'.at' 25 _ rfl; unfold fvK; go_simp) ?_; clear F a9; intro a9 F; obtain ⟨w7, hm7, ho7, hrun⟩ := op_update keyU8 Tryd.underlying64 HD (6 : Int) (fvK k 29); refine fr_skW F rfl rfl w7 (fun a' F' => hrun (Or.inr rfl) (F'.ev 14 rfl) rfl (F'.ev 26 rfl)) ?_; clear F a9; intro a9 F; have HLK2 : LkAt w7 w.heap.size k OM m M K KM N [] [] := ⟨HLK.box.only ho7 hDk, HLK.ops.only ho7 (fun e => hDO e.symm), HLK.mo.only ho7 (fun j hj e => hDM (e ▸ hj)), fun y hy => (by cases hy), List.nodup_nil, List.nodup_nil, HLK.far, HLK.lo⟩
  have HK2 := HK.onlyOut ho7 hD0 (fun z hz => by cases hz); clear HLK HK HD hrun ho7; clear w9; rename World => w9
  have HLK := HLK2; have HK := HK2; have HD := hm7; clear HLK2 HK2 hm7; refine fr_mv F (wanted_free rfl) 27 rfl (by decide) 4 rfl rfl ?_; clear F a9; intro a9 F; refine fr_do F (wanted_free rfl) 28 rfl (by decide) (fvK k 30) (by intro a' F'; have h27 := F'.at' 27 _ rfl; unfold fvK; go_simp) ?_; clear F a9; intro a9 F; obtain ⟨w7, hm7, ho7, hrun⟩ := op_update keyU8 Tryd.underlying64 HD (8 : Int) (fvK k 30); refine fr_skW F rfl rfl w7 (fun a' F' => hrun (Or.inr rfl) (F'.ev 14 rfl) rfl (F'.ev 28 rfl)) ?_; clear F a9; intro a9 F; have HLK2 : LkAt w7 w.heap.size k OM m M K KM N [] [] := ⟨HLK.box.only ho7 hDk, HLK.ops.only ho7 (fun e => hDO e.symm), HLK.mo.only ho7 (fun j hj e => hDM (e ▸ hj)), fun y hy => (by cases hy), List.nodup_nil, List.nodup_nil, HLK.far, HLK.lo⟩
  have HK2 := HK.onlyOut ho7 hD0 (fun z hz => by cases hz); clear HLK HK HD hrun ho7; clear w9; rename World => w9
  have HLK := HLK2; have HK := HK2; have HD := hm7; clear HLK2 HK2 hm7; refine fr_mv F (wanted_free rfl) 29 rfl (by decide) 4 rfl rfl ?_; clear F a9; intro a9 F; refine fr_do F (wanted_free rfl) 30 rfl (by decide) (fvK k 31) (by intro a' F'; have h29 := F'.at' 29 _ rfl; unfold fvK; go_simp) ?_; clear F a9; intro a9 F; obtain ⟨w7, hm7, ho7, hrun⟩ := op_update keyU8 Tryd.underlying64 HD (7 : Int) (fvK k 31); refine fr_skW F rfl rfl w7 (fun a' F' => hrun (Or.inr rfl) (F'.ev 14 rfl) rfl (F'.ev 30 rfl)) ?_; clear F a9; intro a9 F; have HLK2 : LkAt w7 w.heap.size k OM m M K KM N [] [] := ⟨HLK.box.only ho7 hDk, HLK.ops.only ho7 (fun e => hDO e.symm), HLK.mo.only ho7 (fun j hj e => hDM (e ▸ hj)), fun y hy => (by cases hy), List.nodup_nil, List.nodup_nil, HLK.far, HLK.lo⟩
  have HK2 := HK.onlyOut ho7 hD0 (fun z hz => by cases hz); clear HLK HK HD hrun ho7; clear w9; rename World => w9
  have HLK := HLK2; have HK := HK2; have HD := hm7; clear HLK2 HK2 hm7; refine fr_mv F (wanted_free rfl) 31 rfl (by decide) 14 rfl rfl ?_; clear F a9; intro a9 F; refine fr_as F (wanted_free rfl) 5 rfl (by decide) 31 rfl rfl ?_; clear F a9; intro a9 F; refine wpList_nil ?_; show Code.wp _ _ _ _ _; replace HD : MapAt w9 D (fun i : Int => Value.int .u8 i) (entK k) := HD; have hDM2 : D ≠ M ∧ D ≠ KM := ⟨fun e => hDM (e ▸ Or.inr (Or.inl rfl)), fun e => hDM (e ▸ Or.inr (Or.inr (Or.inr (Or.inl rfl))))⟩
  clear hDM hDk hD0; replace F := F.cut [(5, .map (some D)), (4, .pointer (some ⟨k, 0, none⟩)), (3, .int .u8 0), (2, .int .i64 0), (0, .slice a T.length c)] (by kernel_rfl); refine wp_seq ?_; refine wp_seq ?_; refine wp_region_lit ?_; refine fr_ch F 3 [(34, .int .i64 0), (33, .int .i64 (T.length : Int))] (by kernel_rfl) ?_; clear F a9; intro a9 F; refine wpList_nil ?_; show Code.wp _ _ _ _ _; replace F := F.cut [(34, .int .i64 ((0 : Nat) : Int)), (33, .int .i64 (T.length : Int)), (5, .map (some D)), (4, .pointer (some ⟨k, 0, none⟩)), (3, .int .u8 0), (2, .int .i64 0), (0, .slice a T.length c)] (by kernel_rfl); refine wp_block_end (fun a' w' => (∃ kk : Nat, FrL 63 [(34, .int .i64 (kk : Int)), (33, .int .i64 (T.length : Int)), (5, .map (some D)), (4, .pointer (some ⟨k, 0, none⟩)), (3, .int .u8 0), (2, .int .i64 0), (0, .slice a T.length c)] a') ∧ Keep w [] [] w' ∧ checkL (T.map (·.1)) = (-1, 0)) ?_ ?_
  ·
   refine wp_loop (fun a' w' => ∃ i : Nat, i ≤ T.length ∧ FrL 63 [(34, .int .i64 (i : Int)), (33, .int .i64 (T.length : Int)), (5, .map (some D)), (4, .pointer (some ⟨k, 0, none⟩)), (3, .int .u8 0), (2, .int .i64 0), (0, .slice a T.length c)] a' ∧ ∃ (L : List St) (O : List Po) (π : Int → Pn), LkAt w' w.heap.size k OM m M K KM N L O ∧ MapAt w' D (fun i : Int => Value.int .u8 i) (entK k) ∧ Keep w [] [] w' ∧ (∀ j, RelP w N (absO O j) (π j)) ∧ checkN ((T.map (·.1)).drop (i)) (absL L) π (i) = checkL (T.map (·.1))) (fun a' _ => muI T.length 34 a') ⟨0, Nat.zero_le _, F, [], [], (fun _ => Pn.zero), HLK, HD, HK, fun j => relZ w N, rfl⟩ ?_; clear F a9 HLK HD HK w9; rintro a9 w9 ⟨i, hi, F, L, O, π, HLK, HD, HK, HR, hck⟩; rw [muI_at F 34 i rfl]; refine wp_seq ?_; by_cases hlt : i < T.length
   ·
    refine wp_region_lit ?_; refine fr_do F (wanted_free rfl) 35 rfl (by decide) (.bool true) (by intro a' F'; have h34 := F'.at' 34 _ rfl; have h33 := F'.at' 33 _ rfl; go_simp) ?_; clear F a9; intro a9 F; refine wpList_nil ?_; show Code.wp _ _ _ _ _; refine wp_seq ?_; refine wp_cond_true (F.ev 35 rfl) ?_; refine wp_skip ?_; show Code.wp _ _ _ _ _; replace F := F.cut [(34, .int .i64 (i : Int)), (33, .int .i64 (T.length : Int)), (5, .map (some D)), (4, .pointer (some ⟨k, 0, none⟩)), (3, .int .u8 0), (2, .int .i64 0), (0, .slice a T.length c)] (by kernel_rfl); obtain ⟨x, hx⟩ : ∃ x, T[i]? = some x := ⟨_, List.getElem?_eq_getElem hlt⟩
    obtain ⟨hal, hn⟩ := HL.out i x hx; have hgx := HG.out x (List.mem_of_getElem? hx); obtain ⟨n, an, cn⟩ := x; simp only at hn hgx
    obtain ⟨q, hq⟩ : ∃ q, o0 + i * 35 = q := ⟨_, rfl⟩
    rw [hq] at hn; have hdr : (T.map (·.1)).drop i = n :: (T.map (·.1)).drop (i + 1) := by
      rw [List.drop_eq_getElem_cons (by rw [List.length_map]; exact hlt)]; congr 1; rw [List.getElem_map]; have h2 := List.getElem?_eq_getElem hlt; rw [hx] at h2; injection h2 with h2
      rw [← h2]
    rw [hdr] at hck; have HN := Lib.hid (fun w9 (h : Below w.heap.size w w9) => hn.low h); refine wp_seq ?_; refine wp_block_end (fun a' w' => FrL 63 [(34, .int .i64 (i : Int)), (33, .int .i64 (T.length : Int)), (5, .map (some D)), (4, .pointer (some ⟨k, 0, none⟩)), (3, .int .u8 0), (2, .int .i64 0), (0, .slice a T.length c)] a' ∧ ∃ (L : List St) (O : List Po) (π : Int → Pn), LkAt w' w.heap.size k OM m M K KM N L O ∧ MapAt w' D (fun i : Int => Value.int .u8 i) (entK k) ∧ Keep w [] [] w' ∧ (∀ j, RelP w N (absO O j) (π j)) ∧ checkN ((T.map (·.1)).drop (i + 1)) (absL L) π (i + 1) = checkL (T.map (·.1))) ?_ ?_
    ·
     refine wp_seq ?_; refine wp_region_lit ?_; refine fr_ch F 2 [(6, .int .i64 (i : Int))] (by kernel_rfl) ?_; clear F a9; intro a9 F; refine wpList_nil ?_; show Code.wp _ _ _ _ _; refine wp_seq ?_; refine wp_region_lit ?_; refine fr_ch F 2 [(38, .int .i64 (i : Int)), (37, .slice a T.length c)] (by kernel_rfl) ?_; clear F a9; intro a9 F; refine fr_do F (wanted_free rfl) 39 rfl (by decide) (.pointer (some ⟨N, q, none⟩)) (by intro a' F'; have h37 := F'.at' 37 _ rfl; have h38 := F'.at' 38 _ rfl; go_simp) ?_; clear F a9; intro a9 F; refine fr_ch F 1 [(7, .pointer (some ⟨N, q, none⟩))] (by kernel_rfl) ?_; clear F a9; intro a9 F; refine wpList_nil ?_; show Code.wp _ _ _ _ _; replace F := F.cut [(34, .int .i64 (i : Int)), (33, .int .i64 (T.length : Int)), (7, .pointer (some ⟨N, q, none⟩)), (6, .int .i64 (i : Int)), (5, .map (some D)), (4, .pointer (some ⟨k, 0, none⟩)), (3, .int .u8 0), (2, .int .i64 0), (0, .slice a T.length c)] (by kernel_rfl); by_cases hkn : n.kind < 1 ∨ 8 < n.kind
     ·
      refine wp_seq ?_; refine wp_region_lit ?_; refine fr_ch F 4 [(43, .pointer (some ⟨N, q, none⟩)), (42, .pointer (some ⟨N, q, none⟩)), (41, .pointer (some ⟨N, q, none⟩)), (40, .map (some D))] (by kernel_rfl) ?_; clear F a9; intro a9 F; refine fr_do F (wanted_free rfl) 44 rfl (by decide) (.int .u8 (n.kind : Int)) (by intro a' F'; have h43 := F'.at' 43 _ rfl; have hc : w9.cell? ⟨N, q, none⟩ = some (.int .u8 (n.kind : Int)) := ((HN.out _ HK.low)).cell 0 _ rfl; go_simp) ?_; clear F a9; intro a9 F; refine fr_do F (wanted_free rfl) 45 rfl (by decide) (.nilFunc) (fun a' F' => op_lookK HD (F'.ev 40 rfl) (F'.ev 44 rfl) rfl (by rw [entK_none k n.kind hkn]; rfl)) ?_; clear F a9; intro a9 F; refine fr_ch F 1 [(8, .nilFunc)] (by kernel_rfl) ?_; clear F a9; intro a9 F; refine wpList_nil ?_; show Code.wp _ _ _ _ _; replace F := F.cut [(34, .int .i64 (i : Int)), (33, .int .i64 (T.length : Int)), (8, .nilFunc), (7, .pointer (some ⟨N, q, none⟩)), (6, .int .i64 (i : Int)), (5, .map (some D)), (4, .pointer (some ⟨k, 0, none⟩)), (3, .int .u8 0), (2, .int .i64 0), (0, .slice a T.length c)] (by kernel_rfl); refine wp_seq ?_; refine wp_seq ?_; refine wp_region_lit ?_; refine fr_ch F 1 [(46, .nilFunc)] (by kernel_rfl) ?_; clear F a9; intro a9 F; refine fr_do F (wanted_free rfl) 47 rfl (by decide) (.bool true) (fun a' F' => op_nilT (F'.ev 46 rfl) rfl rfl) ?_; clear F a9; intro a9 F; refine wpList_nil ?_; show Code.wp _ _ _ _ _; refine wp_cond_true (F.ev 47 rfl) ?_; refine wp_seq ?_; refine wp_region_lit ?_; refine fr_ch F 3 [(3, .int .u8 1), (2, .int .i64 (i : Int))] (by kernel_rfl) ?_; clear F a9; intro a9 F; refine wpList_nil ?_; show Code.wp _ _ _ _ _; unfold checkN at hck; rw [if_pos hkn] at hck; refine wp_ret ?_; exact fr_ret2 F rfl _ _ rfl rfl (FIN.out _ _ _ (by rw [← hck]) (by rw [← hck]) HK.low)
     have hk1 : 1 ≤ n.kind := by omega
     have hk8 : n.kind ≤ 8 := by omega
     refine wp_seq ?_; refine wp_region_lit ?_; refine fr_ch F 4 [(43, .pointer (some ⟨N, q, none⟩)), (40, .map (some D))] (by kernel_rfl) ?_; clear F a9; intro a9 F; refine fr_do F (wanted_free rfl) 44 rfl (by decide) (.int .u8 (n.kind : Int)) (by intro a' F'; have h43 := F'.at' 43 _ rfl; have hc : w9.cell? ⟨N, q, none⟩ = some (.int .u8 (n.kind : Int)) := ((HN.out _ HK.low)).cell 0 _ rfl; go_simp) ?_; clear F a9; intro a9 F; refine fr_do F (wanted_free rfl) 45 rfl (by decide) (fvK k (kindF n.kind)) (fun a' F' => op_lookK HD (F'.ev 40 rfl) (F'.ev 44 rfl) rfl (by rw [entK_get k n.kind hk1 hk8]; rfl)) ?_; clear F a9; intro a9 F; refine fr_ch F 1 [(8, fvK k (kindF n.kind))] (by kernel_rfl) ?_; clear F a9; intro a9 F; refine wpList_nil ?_; show Code.wp _ _ _ _ _; replace F := F.cut [(34, .int .i64 (i : Int)), (33, .int .i64 (T.length : Int)), (8, fvK k (kindF n.kind)), (7, .pointer (some ⟨N, q, none⟩)), (6, .int .i64 (i : Int)), (5, .map (some D)), (4, .pointer (some ⟨k, 0, none⟩)), (3, .int .u8 0), (2, .int .i64 0), (0, .slice a T.length c)] (by kernel_rfl); refine wp_seq ?_; refine wp_seq ?_; refine wp_region_lit ?_; refine fr_ch F 1 [(46, fvK k (kindF n.kind))] (by kernel_rfl) ?_; clear F a9; intro a9 F; refine fr_do F (wanted_free rfl) 47 rfl (by decide) (.bool false) (fun a' F' => op_nilF (F'.ev 46 rfl) rfl rfl) ?_; clear F a9; intro a9 F; refine wpList_nil ?_; show Code.wp _ _ _ _ _; refine wp_cond_false (F.ev 47 rfl) ?_; refine wp_skip ?_; show Code.wp _ _ _ _ _; replace F := F.cut [(34, .int .i64 (i : Int)), (33, .int .i64 (T.length : Int)), (8, fvK k (kindF n.kind)), (7, .pointer (some ⟨N, q, none⟩)), (6, .int .i64 (i : Int)), (5, .map (some D)), (4, .pointer (some ⟨k, 0, none⟩)), (3, .int .u8 0), (2, .int .i64 0), (0, .slice a T.length c)] (by kernel_rfl); refine wp_seq ?_; refine wp_region_lit ?_; refine fr_ch F 5 [(53, .pointer (some ⟨N, q + 1, none⟩)), (50, .pointer (some ⟨k, 0, none⟩)), (49, fvK k (kindF n.kind))] (by kernel_rfl) ?_; clear F a9; intro a9 F; refine fr_do F (wanted_free rfl) 54 rfl (by decide) (.int .i64 n.op) (by intro a' F'; have h53 := F'.at' 53 _ rfl; have hc : w9.cell? ⟨N, q + 1, none⟩ = some (.int .i64 n.op) := ((HN.out _ HK.low)).cell 1 _ rfl; go_simp) ?_; clear F a9; intro a9 F; refine fr_call F (wanted_free rfl) 55 rfl (by decide) 32 #[.pointer (some ⟨k, 0, none⟩), .int .i64 n.op] (by intro a' F'; have h50 := F'.at' 50 _ rfl; have h54 := F'.at' 54 _ rfl; go_simp) (order_of HK HLK n.op) ?_; rintro e9 w8 ⟨O2, po, rfl, hpo, hab, HLK2, HK2, ho2⟩; replace HD := HD.only ho2 hDO; clear HK HLK ho2; clear w9; rename World => w9
     have HK := HK2; have HLK := HLK2; clear HK2 HLK2; have hpop := (findO_mem hpo).2; have hax : absO O2 n.op = po.x := by unfold absO; rw [hpo]; rfl
     rw [← hab] at HR; have hrel : RelP w N po.x (π n.op) := hax ▸ HR n.op; refine ⟨_, rfl, ?_⟩; clear F a9; intro a9 F; refine fr_mv F (wanted_free rfl) 56 rfl (by decide) 7 rfl rfl ?_; clear F a9; intro a9 F; obtain ⟨wy, hwy⟩ : ∃ wy, (kindN (absL L) (π n.op) n).1 = wy := ⟨_, rfl⟩
     have HC := order_kind HK HLK (by rw [hpop]; exact hpo) hrel (HL.out i _ hx).2 hgx hk1 hk8; rw [hwy] at HC; simp only [hq] at HC; refine fr_call F (wanted_free rfl) 57 rfl (by decide) (kindF n.kind) #[.pointer (some ⟨k, 0, none⟩), ptrO po, .pointer (some ⟨N, q, none⟩)] (fun a' F' => call_kind hk1 hk8 rfl (F'.ev 49 rfl) (F'.ev 55 rfl) (F'.ev 56 rfl)) HC ?_; rintro e9 w8 ⟨L2, x', rfl, hr2, hl2, HLK2, HK2, ho2, hft⟩; replace HD := HD.only ho2 (fun e => e.elim (fun e => box_map_neI (HLK.pa po (findO_mem hpo).1) HD e.symm) (HLK.mo.mapFar HD hDM2.1 hDM2.2)); rw [hpop] at HLK2; clear HK HLK HC ho2 hft; clear w9; rename World => w9
     have HK := HK2; have HLK := HLK2; clear HK2 HLK2; refine ⟨_, rfl, ?_⟩; clear F a9; intro a9 F; refine fr_as F (wanted_free rfl) 9 rfl (by decide) 57 rfl rfl ?_; clear F a9; intro a9 F; refine wpList_nil ?_; show Code.wp _ _ _ _ _; replace F := F.cut [(34, .int .i64 (i : Int)), (33, .int .i64 (T.length : Int)), (9, .int .u8 (wy : Int)), (6, .int .i64 (i : Int)), (5, .map (some D)), (4, .pointer (some ⟨k, 0, none⟩)), (3, .int .u8 0), (2, .int .i64 0), (0, .slice a T.length c)] (by kernel_rfl); unfold checkN at hck; rw [if_neg hkn, hwy] at hck; by_cases hw0 : wy = 0
     ·
      refine wp_seq ?_; refine wp_region_lit ?_; refine fr_ch F 1 [(58, .int .u8 (wy : Int))] (by kernel_rfl) ?_; clear F a9; intro a9 F; refine fr_do F (wanted_free rfl) 59 rfl (by decide) (.bool false) (by intro a' F'; have h58 := F'.at' 58 _ rfl; go_simp) ?_; clear F a9; intro a9 F; refine wpList_nil ?_; show Code.wp _ _ _ _ _; refine wp_cond_false (F.ev 59 rfl) ?_; refine wp_skip ?_; rw [if_neg (by rw [hw0]; decide)] at hck; refine ⟨((((((((FrL.nil F.size F.defers).add 0 _ (F.at' 0 _ rfl)).add 2 _ (F.at' 2 _ rfl)).add 3 _ (F.at' 3 _ rfl)).add 4 _ (F.at' 4 _ rfl)).add 5 _ (F.at' 5 _ rfl)).add 33 _ (F.at' 33 _ rfl)).add 34 _ (F.at' 34 _ rfl)), L2, updO O2 n.op x', updP π n.op (kindN (absL L) (π n.op) n).2.1, HLK, HD, HK, ?_, ?_⟩
      · intro j
        rw [absO_upd hpo]; unfold updP; by_cases e : j = n.op
        · rw [if_pos e]; simp only [e, if_true]; exact hr2
        · rw [if_neg e]; simp only [e, if_false]; exact HR j
      · rw [hl2]; exact hck
     ·
      refine wp_seq ?_; refine wp_region_lit ?_; refine fr_mv F (wanted_free rfl) 58 rfl (by decide) 9 rfl rfl ?_; clear F a9; intro a9 F; refine fr_do F (wanted_free rfl) 59 rfl (by decide) (.bool true) (by intro a' F'; have h58 := F'.at' 58 _ rfl; go_simp) ?_; clear F a9; intro a9 F; refine wpList_nil ?_; show Code.wp _ _ _ _ _; refine wp_cond_true (F.ev 59 rfl) ?_; rw [if_pos hw0] at hck; refine wp_seq ?_; refine wp_region_lit ?_; refine fr_mv F (wanted_free rfl) 60 rfl (by decide) 6 rfl rfl ?_; clear F a9; intro a9 F; refine fr_mv F (wanted_free rfl) 61 rfl (by decide) 9 rfl rfl ?_; clear F a9; intro a9 F; refine fr_as F (wanted_free rfl) 2 rfl (by decide) 60 rfl rfl ?_; clear F a9; intro a9 F; refine fr_as F (wanted_free rfl) 3 rfl (by decide) 61 rfl rfl ?_; clear F a9; intro a9 F; refine wpList_nil ?_; show Code.wp _ _ _ _ _; refine wp_ret ?_; exact fr_ret2 F rfl _ _ rfl rfl (FIN.out _ _ _ (by rw [← hck]) (by rw [← hck]) HK.low)
    · clear F a9 HLK HD HK HR hck
      rintro a9 w8 ⟨F, L, O, π, HLK, HD, HK, HR, hck⟩; clear w9; rename World => w9
      show Code.wp _ _ _ _ _; refine wp_region_lit ?_; refine fr_do F (wanted_free rfl) 62 rfl (by decide) (.int .i64 ((i + 1 : Nat) : Int)) (by intro a' F'; have h34 := F'.at' 34 _ rfl; go_simp <;> (rw [IntKind.wrap_i64]; omega)) ?_; clear F a9; intro a9 F; refine fr_ch F 1 [(34, .int .i64 ((i + 1 : Nat) : Int))] (by kernel_rfl) ?_; clear F a9; intro a9 F; refine wpList_nil ?_; replace F := F.cut [(34, .int .i64 ((i + 1 : Nat) : Int)), (33, .int .i64 (T.length : Int)), (5, .map (some D)), (4, .pointer (some ⟨k, 0, none⟩)), (3, .int .u8 0), (2, .int .i64 0), (0, .slice a T.length c)] (by kernel_rfl); refine ⟨⟨i + 1, by omega, F, L, O, π, HLK, HD, HK, HR, hck⟩, ?_⟩; rw [muI_at F 34 (i + 1) rfl]; omega
   · have hi2 : i = T.length := by omega
     subst hi2; refine wp_region_lit ?_; refine fr_do F (wanted_free rfl) 35 rfl (by decide) (.bool false) (by intro a' F'; have h34 := F'.at' 34 _ rfl; have h33 := F'.at' 33 _ rfl; go_simp) ?_; clear F a9; intro a9 F; refine wpList_nil ?_; show Code.wp _ _ _ _ _; rw [List.drop_eq_nil_of_le (by rw [List.length_map]; exact Nat.le_refl _)] at hck; refine wp_seq ?_; refine wp_cond_false (F.ev 35 rfl) ?_; refine wp_exit ?_; exact then_exit (then_exit (exit_in ⟨⟨T.length, ((((((((FrL.nil F.size F.defers).add 0 _ (F.at' 0 _ rfl)).add 2 _ (F.at' 2 _ rfl)).add 3 _ (F.at' 3 _ rfl)).add 4 _ (F.at' 4 _ rfl)).add 5 _ (F.at' 5 _ rfl)).add 33 _ (F.at' 33 _ rfl)).add 34 _ (F.at' 34 _ rfl))⟩, HK, hck.symm⟩))
  · clear F a9 HLK HD HK
    rintro a9 w8 ⟨⟨kk, F⟩, HK, hck⟩; clear w9; rename World => w9
    show Code.wp _ _ _ _ _; refine wp_seq ?_; refine wp_region_lit ?_; refine fr_ch F 2 [(3, .int .u8 0), (2, .int .i64 (-1))] (by kernel_rfl) ?_; clear F a9; intro a9 F; refine wpList_nil ?_; show Code.wp _ _ _ _ _; refine wp_ret ?_; exact fr_ret2 F rfl _ _ rfl rfl (FIN.out _ 0 _ (by rw [hck]) (by rw [hck]) HK.low)
end Go.Proofs.YtnnpokndajpkiaaDoor
