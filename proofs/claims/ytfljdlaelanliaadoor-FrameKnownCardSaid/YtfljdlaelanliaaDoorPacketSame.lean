/- The walks of the program's Same and Copy: whether two packets are the same; a packet in new memory. Conditions: a machine's bounds on the packets' sizes; their lists in their cells. -/
import Derived.Test.YtfljdlaelanliaaDoorPacketRest
import Derived.Test.YtfljdlaelanliaaDoorJoinC
namespace Go.Proofs.YtfljdlaelanliaaDoor
open Go.RowKit

set_option maxRecDepth 100000 in
theorem packet_Right (p : Pk) (a : Option Addr) (c : Nat) (w : World) (hE : Env w) (hp : PkOk p) (ha : CellsA w a (subCells p.subs)) : Calls Tryd.prog 35 #[.agg (pkV p a c)] w fun e w' => e = .returned (.bool (decide (0 ≤ restP p))) ∧ Below w.heap.size w w' := by
  have HK := Lib.hid ((Keep.begin hE [(a, subCells p.subs)] (by intro r hr; simp at hr; subst hr; exact ha)).alloc' (pkV p a c) 27 w.heap.size rfl)
  have HR := Lib.hid (fun w1 hE ha => packet_Rest p a c w1 hE hp ha)
  generalize restP p = n at *
  clear hp ha hE
  go_enter Tryd.func35, Tryd.ntmps35
  go_wp2_with (first
    | ((with_reducible show wpList _ _ _ (⟨_, .load 27 _, _, _, _, _⟩ :: _) _ _); refine wpList_load_box rfl 27 _ rfl _ rfl 27 _ (by (first | exact HK.out.at 0 rfl)) _ Tryd.underlying27 rfl (pk_size _ _ _) ?_)
    | (go_at_call 34; refine Calls.mono (HR.out _ HK.out.env (HK.out.rowAt 0 rfl)) ?_; rintro e w1 ⟨rfl, hb1⟩; replace HK := Lib.hid (HK.out.below hb1); clear hb1))
  go_ret
  exact ⟨rfl, HK.out.low⟩
theorem same_bare (p q : Pk) : decide (p = q) = (decide (p.bare = q.bare) && decide (p.subs = q.subs)) := by
  rw [Bool.eq_iff_iff, Bool.and_eq_true, decide_eq_true_eq, decide_eq_true_eq, decide_eq_true_eq]
  constructor
  · rintro rfl; exact ⟨rfl, rfl⟩
  · rintro ⟨h1, h2⟩
    have e : ∀ r : Pk, r = { r.bare with subs := r.subs } := fun r => rfl
    rw [e p, e q, h1, h2]
theorem drop_same' (A B : List Sb) (k : Nat) (x y : Sb) (hx : A[k]? = some x) (hy : B[k]? = some y) : decide (A.drop k = B.drop k) = (decide (x = y) && decide (A.drop (k + 1) = B.drop (k + 1))) := by
  obtain ⟨h2, h3⟩ := List.getElem?_eq_some_iff.1 hx
  obtain ⟨h4, h5⟩ := List.getElem?_eq_some_iff.1 hy
  simp only [List.drop_eq_getElem_cons h2, h3, List.drop_eq_getElem_cons h4, h5, List.cons.injEq, Bool.decide_and]
end Go.Proofs.YtfljdlaelanliaaDoor
