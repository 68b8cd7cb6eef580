import Derived.Test.YtnnpokndajpkiaaGreatDoorWriteAll
namespace Go.Proofs.YtnnpokndajpkiaaGreatDoor
open Go.RowKit
def allS (T : List PkE) : ByteArray := if okAll T then bB (encAll T) else ⟨#[]⟩
def allE (T : List PkE) : Int := if okAll T then 0 else 4
def encS (p : Pk) : ByteArray := if restP p < 0 then ⟨#[]⟩ else bB (encB p)
def encE (p : Pk) : Int := if restP p < 0 then 4 else 0
theorem write_All (al : Option Addr) (cl : Nat) (T : List PkE) (w : World) (hE : Env w) (hc : CellsA w al (pkCells T)) (hT : ∀ x ∈ T, PkIn w x) (hn : T.length ≤ 300) :
    Calls Tryz.prog 93 #[.slice al T.length cl] w fun e w' => e = .returned (.tuple #[.string (allS T), .int .i64 (allE T)]) ∧ Below w.heap.size w w' := by
  cases h : okAll T with
  | true =>
    have := all_good al cl T w hE hc hT hn h; unfold allS allE; rw [h]; exact this
  | false =>
    have := all_bad al cl T w hE hc hT (by omega) h; unfold allS allE; rw [h]; exact this
theorem one_S (p : Pk) (a : Option Addr) (c : Nat) : allS [(p, a, c)] = encS p ∧ allE [(p, a, c)] = encE p := by
  unfold allS allE encS encE okAll; by_cases h : restP p < 0
  · have : decide (0 ≤ restP p) = false := by rw [decide_eq_false_iff_not]; omega
    simp [h, this]
  · have h2 : 0 ≤ restP p := by omega
    simp [h, h2, encAll]
theorem PkIn.below {w w' : World} {x : PkE} (h : PkIn w x) (k : Below w.heap.size w w') : PkIn w' x := ⟨h.ok, h.row.below k⟩
set_option maxRecDepth 100000 in
theorem write_Encode (p : Pk) (a : Option Addr) (c : Nat) (w : World) (hE : Env w) (hp : PkOk p) (ha : CellsA w a (subCells p.subs)) : Calls Tryz.prog 77 #[.agg (pkV p a c)] w fun e w' => e = .returned (.tuple #[.string (encS p), .int .i64 (encE p)]) ∧ Below w.heap.size w w' := by
  have HK := Lib.hid ((Keep.begin hE [(a, subCells p.subs)] (by intro r hr; simp at hr; subst hr; exact ha)).alloc' (pkV p a c) 33 w.heap.size rfl); have hA := fun w1 al hE hc (hr : CellsA w1 a (subCells p.subs)) => write_All al 1 [(p, a, c)] w1 hE hc (by intro x hx; simp at hx; subst hx; exact ⟨hp, hr⟩) (by simp)
  rw [(one_S p a c).1, (one_S p a c).2] at hA; generalize encS p = s at *; generalize encE p = k at *; have HA := Lib.hid hA; clear hA hp ha hE; go_enter Tryz.func77, Tryz.ntmps77
  go_wp2_with (first
    | ((with_reducible show wpList _ _ _ (⟨_, .load 33 _, _, _, _, _⟩ :: _) _ _); refine wpList_load_box rfl 33 _ rfl _ rfl 33 _ (by (first | exact HK.out.at 0 rfl)) _ Tryz.underlying33 rfl (pk_size _ _ _) ?_)
    | ((with_reducible show wpList _ _ _ (⟨some 5, .buildSlice _ _ _, _, _, _, _⟩ :: _) _ _); refine Great.wpList_buildSliceTo rfl 36 33 1 _ rfl _ rfl _ rfl Tryz.underlying36 (List.toArray (pkCells [(p, a, c)])) (by kernel_rfl) ?_; replace HK := Lib.hid (HK.out.allocRow (pkCells [(p, a, c)]) 33); generalize hgw : World.alloc _ _ = w8 at HK ⊢; clear hgw)
    | (go_at_call 93; refine Calls.mono (HA.out _ _ HK.out.env (HK.out.rowAt 0 rfl) (HK.out.rowAt 1 rfl)) ?_; rintro e w1 ⟨rfl, hb1⟩; replace HK := Lib.hid (HK.out.below hb1); clear hb1))
  go_ret2
  exact ⟨rfl, HK.out.low⟩
end Go.Proofs.YtnnpokndajpkiaaGreatDoor
