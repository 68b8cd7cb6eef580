/- Variables that a region makes in whatever order it draws. No condition; nothing of the program is named. -/
import Derived.Test.YtfljdlaelanliaaDoorJoinF
namespace Go.Proofs.YtfljdlaelanliaaDoor
open Go.RowKit
def subsL : List (Nat × Nat) → List (List (Nat × Nat))
  | [] => [[]]
  | x :: r => subsL r ++ (subsL r).map (x :: ·)
def lst (listed : Array Bool) (all sub : List (Nat × Nat)) : Array Bool := all.foldl (fun l x => if sub.contains x then l else l.setIfInBounds x.1 true) listed
def chkA (md : Region.Mode) (ops : Array Oper) (N ty : Nat) (listed : Array Bool) (all : List (Nat × Nat)) : Bool :=
  (subsL all).all (fun sub => (sub.isEmpty || Region.ready md ops (lst listed all sub) == sub.map (·.1)) && sub.all fun x => all.contains x && (lst listed all sub).setIfInBounds x.1 true == lst listed all (sub.erase x) && (subsL all).contains (sub.erase x)) &&
  all.all (fun x => match ops[x.1]? with
    | some o => o.guard.isNone && (match o.op with | .alloc t => t == ty | _ => false) && o.dst == some x.2 && Nat.blt x.2 N
    | none => false) &&
  all.all fun x => all.all fun y => x == y || x.2 != y.2
section
variable {P : Program} {ops : Array Oper} {Q : Exit → Act → World → Prop} {md : Region.Mode} {S : World → Prop} {z N ty : Nat} {w0 : World} {B : List Box} {L : List (Nat × Value)}
/-- What is known of those that are made: their slots, their boxes, each apart from the others. -/
structure Made (all : List (Nat × Nat)) (ty : Nat) (cs : Array Value) (base : Nat) (f : Nat → Nat) (sub : List (Nat × Nat)) (a : Act) (w : World) : Prop where
  slot : ∀ x ∈ all, x ∉ sub → a.tmps[x.2]? = some (.pointer (some ⟨f x.2, 0, none⟩))
  box : ∀ x ∈ all, x ∉ sub → BoxAt w (f x.2) cs ty
  up : ∀ x ∈ all, x ∉ sub → base ≤ f x.2
  apart : ∀ x ∈ all, ∀ y ∈ all, x ∉ sub → y ∉ sub → x ≠ y → f x.2 ≠ f y.2
theorem allocs_any {i : TypeInfo} {zv : Value} (hinfo : P.info? ty = some i) (hzero : i.zero = some zv) (listed : Array Bool) (all : List (Nat × Nat)) (hck : chkA md ops N ty listed all = true)
    (hS : ∀ w', Keep w0 B [] w' → S w') (hL : ∀ x ∈ all, L.lookup x.2 = none) (base n : Nat)
    (kont : ∀ (f : Nat → Nat) (a' : Act) (w' : World), FrL N L a' → Made all ty zv.cells base f [] a' w' → Keep w0 B [] w' → AnyT P md ops Q S z n (lst listed all []) a' w') :
    ∀ (m : Nat) (sub : List (Nat × Nat)), sub.length = m → sub ∈ subsL all → ∀ (f : Nat → Nat) (a : Act) (w : World), FrL N L a → Made all ty zv.cells base f sub a w → Keep w0 B [] w → base ≤ w.heap.size → AnyT P md ops Q S z (m + n) (lst listed all sub) a w := by
  unfold chkA at hck
  rw [Bool.and_eq_true, Bool.and_eq_true] at hck
  obtain ⟨⟨hc1, hc2⟩, hc3⟩ := hck
  intro m
  induction m with
  | zero =>
    intro sub hl _ f a w F hM HK _
    have : sub = [] := List.eq_nil_of_length_eq_zero hl
    subst this
    rw [Nat.zero_add]
    exact kont f a w F hM HK
  | succ m ih =>
    intro sub hl hsub f a w F hM HK hbw
    have h1 := List.all_eq_true.1 hc1 sub hsub
    rw [Bool.and_eq_true, Bool.or_eq_true] at h1
    obtain ⟨h1, h2⟩ := h1
    have hne : sub ≠ [] := by rintro rfl; cases hl
    have hr : Region.ready md ops (lst listed all sub) = sub.map (·.1) := by
      rcases h1 with h1 | h1
      · exact absurd (List.isEmpty_iff.1 h1) hne
      · exact beq_iff_eq.1 h1
    rw [Nat.succ_add]
    refine ⟨fun h0 => ?_, fun j hj => ?_⟩
    · rw [hr] at h0
      exact absurd (List.map_eq_nil_iff.1 h0) hne
    rw [hr] at hj
    obtain ⟨x, hx, rfl⟩ := List.mem_map.1 hj
    have h3 := List.all_eq_true.1 h2 x hx
    rw [Bool.and_eq_true, Bool.and_eq_true] at h3
    obtain ⟨⟨hxa, hset⟩, herase⟩ := h3
    have hxm : x ∈ all := by simpa using hxa
    have hset := beq_iff_eq.1 hset
    have herase : sub.erase x ∈ subsL all := by simpa using herase
    have h4 := List.all_eq_true.1 hc2 x hxm
    split at h4
    · rename_i o ho
      rw [Bool.and_eq_true, Bool.and_eq_true, Bool.and_eq_true] at h4
      obtain ⟨⟨⟨hg, hop⟩, hd⟩, hs⟩ := h4
      have hg : o.guard = none := by simpa using hg
      have hd : o.dst = some x.2 := by simpa using hd
      have hs : x.2 < N := Nat.le_of_ble_eq_true hs
      split at hop
      · rename_i t hot
        have ht : t = ty := by simpa using hop
        subst ht
        have hdiff : ∀ y ∈ all, y ≠ x → y.2 ≠ x.2 := fun y hy hyx e => by
          have h5 := List.all_eq_true.1 (List.all_eq_true.1 hc3 y hy) x hxm
          rw [Bool.or_eq_true] at h5
          rcases h5 with h5 | h5
          · exact hyx (beq_iff_eq.1 h5)
          · rw [bne_iff_ne] at h5; exact h5 e
        have hb : Below w.heap.size w (w.alloc (.cells zv.cells t)) := (Below.refl _ _).alloc (Nat.le_refl _) _
        have hmem : ∀ y ∈ all, y ∉ sub.erase x → y = x ∨ y ∉ sub := fun y _ hy => by
          by_cases e : y = x
          · exact Or.inl e
          · right
            intro h
            exact hy ((List.mem_erase_of_ne e).2 h)
        refine wpOp_step ho (fun K hK => ?_)
        rw [if_pos (free_want hg)]
        unfold Oper.wp
        have hrun : (execOp a.eval o).run P w = .ok (.value (.pointer (some ⟨w.heap.size, 0, none⟩))) (w.alloc (.cells zv.cells t)) := by
          unfold execOp
          simp [hot, Instr.alloc, zeroValue, typeInfo, hinfo, hzero, newVar, newRow]
        rw [hrun]
        have HK2 := HK.below hb
        refine hK _ _ ⟨fun _ => hS _ HK2, ?_⟩
        rw [hset, hd]
        have F2 := F.put x.2 (.pointer (some ⟨w.heap.size, 0, none⟩)) hs
        have F3 : FrL N L (a.put (some x.2) (.pointer (some ⟨w.heap.size, 0, none⟩))) := ⟨F2.size, F2.defers, fun k v hk => F2.at' k v (by
          rw [List.lookup_cons]
          have hkx : k ≠ x.2 := by rintro rfl; rw [hL x hxm] at hk; cases hk
          rw [beq_eq_false_iff_ne.2 hkx]
          exact hk)⟩
        have hfx : ∀ y ∈ all, y ≠ x → (if y.2 = x.2 then w.heap.size else f y.2) = f y.2 := fun y hy hyx => if_neg (hdiff y hy hyx)
        refine ih (sub.erase x) (by rw [List.length_erase_of_mem hx, hl]; rfl) herase (fun s => if s = x.2 then w.heap.size else f s) _ _ F3 ⟨?_, ?_, ?_, ?_⟩ HK2 (Nat.le_trans hbw hb.size)
        · intro y hy hys
          rw [put_at]
          by_cases e : y = x
          · subst e
            rw [if_pos rfl, if_pos (by have := F.size; omega), if_pos rfl]
          · rw [if_neg (hdiff y hy e), hfx y hy e]
            exact hM.slot y hy ((hmem y hy hys).resolve_left e)
        · intro y hy hys
          by_cases e : y = x
          · subst e
            simp only [if_true]
            exact BoxAt.new w zv.cells t
          · simp only [hfx y hy e]
            exact (hM.box y hy ((hmem y hy hys).resolve_left e)).below hb
        · intro y hy hys
          by_cases e : y = x
          · subst e
            simp only [if_true]
            exact hbw
          · simp only [hfx y hy e]
            exact hM.up y hy ((hmem y hy hys).resolve_left e)
        · intro y hy y2 hy2 hys hys2 hne2
          by_cases e : y = x
          · subst e
            have e2 : y2 ≠ y := Ne.symm hne2
            simp only [if_true, hfx y2 hy2 e2]
            have := (hM.box y2 hy2 ((hmem y2 hy2 hys2).resolve_left e2)).lt
            omega
          · by_cases e2 : y2 = x
            · subst e2
              simp only [if_true, hfx y hy e]
              have := (hM.box y hy ((hmem y hy hys).resolve_left e)).lt
              omega
            · simp only [hfx y hy e, hfx y2 hy2 e2]
              exact hM.apart y hy y2 hy2 ((hmem y hy hys).resolve_left e) ((hmem y2 hy2 hys2).resolve_left e2) hne2
      · cases hop
    · cases h4
theorem allocs_go {i : TypeInfo} {zv : Value} (hinfo : P.info? ty = some i) (hzero : i.zero = some zv) (listed : Array Bool) (all : List (Nat × Nat)) (hck : chkA md ops N ty listed all = true)
    (hS : ∀ w', Keep w0 B [] w' → S w') (hL : ∀ x ∈ all, L.lookup x.2 = none) (n : Nat) {fuel : Nat} (hf : fuel = all.length + n) {listed' : Array Bool} (hl : listed' = lst listed all all) {a : Act} {w : World} (F : FrL N L a) (HK : Keep w0 B [] w)
    (kont : ∀ (f : Nat → Nat) (a' : Act) (w' : World), FrL N L a' → Made all ty zv.cells w.heap.size f [] a' w' → Keep w0 B [] w' → AnyT P md ops Q S z n (lst listed all []) a' w') : AnyT P md ops Q S z fuel listed' a w := by
  subst hf hl
  have hm : ∀ l : List (Nat × Nat), l ∈ subsL l := by
    intro l
    induction l with
    | nil => simp [subsL]
    | cons x r ih => simp only [subsL, List.mem_append, List.mem_map]; exact Or.inr ⟨r, ih, rfl⟩
  exact allocs_any hinfo hzero listed all hck hS hL w.heap.size n kont all.length all rfl (hm all) (fun _ => 0) a w F ⟨fun x hx h => absurd hx h, fun x hx h => absurd hx h, fun x hx h => absurd hx h, fun x hx y hy h => absurd hx h⟩ HK (Nat.le_refl _)
end
end Go.Proofs.YtfljdlaelanliaaDoor
