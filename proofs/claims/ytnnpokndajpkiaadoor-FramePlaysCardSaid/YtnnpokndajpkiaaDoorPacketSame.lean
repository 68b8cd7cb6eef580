import Derived.Test.YtnnpokndajpkiaaDoorPacketRest
import Derived.Test.YtnnpokndajpkiaaDoorJoinC
namespace Go.Proofs.YtnnpokndajpkiaaDoor
open Go.RowKit
theorem infoPkt : ∃ (i : TypeInfo) (z : Value), Tryd.prog.info? 40 = some i ∧ i.zero = some z ∧ i.size = 24 ∧ z.cells.size = 24 := by
  have h : (Tryd.prog.info? 40).map (fun i => (i.size, i.zero.map (·.cells.size))) = some (24, some 24) := by kernel_rfl
  obtain ⟨i, hi, h⟩ := Option.map_eq_some_iff.1 h; injection h with h1 h2
  obtain ⟨z, hz, h3⟩ := Option.map_eq_some_iff.1 h2; exact ⟨i, z, hi, hz, h1, h3⟩
set_option maxRecDepth 100000 in
theorem packet_Right (p : Pk) (a : Option Addr) (c : Nat) (w : World) (hE : Env w) (hp : PkOk p) (ha : CellsA w a (subCells p.subs)) : Calls Tryd.prog 63 #[.agg (pkV p a c)] w fun e w' => e = .returned (.bool (decide (0 ≤ restP p))) ∧ Below w.heap.size w w' := by
  have HK := Lib.hid ((Keep.begin hE [(a, subCells p.subs)] (by intro r hr; simp at hr; subst hr; exact ha)).alloc' (pkV p a c) 40 w.heap.size rfl); have HR := Lib.hid (fun w1 hE ha => packet_Rest p a c w1 hE hp ha); generalize restP p = n at *; clear hp ha hE; go_enter Tryd.func63, Tryd.ntmps63
  go_wp2_with (first
    | ((with_reducible show wpList _ _ _ (⟨_, .load 40 _, _, _, _, _⟩ :: _) _ _); refine wpList_load_box rfl 40 _ rfl _ rfl 40 _ (by (first | exact HK.out.at 0 rfl)) _ Tryd.underlying40 rfl (pk_size _ _ _) ?_)
    | (go_at_call 80; refine Calls.mono (HR.out _ HK.out.env (HK.out.rowAt 0 rfl)) ?_; rintro e w1 ⟨rfl, hb1⟩; replace HK := Lib.hid (HK.out.below hb1); clear hb1))
  go_ret
  exact ⟨rfl, HK.out.low⟩
theorem same_bare (p q : Pk) : decide (p = q) = (decide (p.bare = q.bare) && decide (p.subs = q.subs)) := by
  rw [Bool.eq_iff_iff, Bool.and_eq_true, decide_eq_true_eq, decide_eq_true_eq, decide_eq_true_eq]; constructor
  · rintro rfl; exact ⟨rfl, rfl⟩
  · rintro ⟨h1, h2⟩
    have e : ∀ r : Pk, r = { r.bare with subs := r.subs } := fun r => rfl
    rw [e p, e q, h1, h2]
theorem drop_same' (A B : List Sb) (k : Nat) (x y : Sb) (hx : A[k]? = some x) (hy : B[k]? = some y) : decide (A.drop k = B.drop k) = (decide (x = y) && decide (A.drop (k + 1) = B.drop (k + 1))) := by
  obtain ⟨h2, h3⟩ := List.getElem?_eq_some_iff.1 hx; obtain ⟨h4, h5⟩ := List.getElem?_eq_some_iff.1 hy; simp only [List.drop_eq_getElem_cons h2, h3, List.drop_eq_getElem_cons h4, h5, List.cons.injEq, Bool.decide_and]
end Go.Proofs.YtnnpokndajpkiaaDoor
