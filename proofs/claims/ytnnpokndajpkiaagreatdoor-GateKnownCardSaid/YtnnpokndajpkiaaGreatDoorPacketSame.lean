import Derived.Test.YtnnpokndajpkiaaGreatDoorPacketRest
import Derived.Test.YtnnpokndajpkiaaGreatDoorJoinC
namespace Go.Proofs.YtnnpokndajpkiaaGreatDoor
open Go.RowKit
theorem infoPkt : ∃ (i : TypeInfo) (z : Value), Tryz.prog.info? 33 = some i ∧ i.zero = some z ∧ i.size = 24 ∧ z.cells.size = 24 := by
  have h : (Tryz.prog.info? 33).map (fun i => (i.size, i.zero.map (·.cells.size))) = some (24, some 24) := by kernel_rfl
  obtain ⟨i, hi, h⟩ := Option.map_eq_some_iff.1 h; injection h with h1 h2
  obtain ⟨z, hz, h3⟩ := Option.map_eq_some_iff.1 h2; exact ⟨i, z, hi, hz, h1, h3⟩
set_option maxRecDepth 100000 in
theorem packet_Right (p : Pk) (a : Option Addr) (c : Nat) (w : World) (hE : Env w) (hp : PkOk p) (ha : CellsA w a (subCells p.subs)) : Calls Tryz.prog 81 #[.agg (pkV p a c)] w fun e w' => e = .returned (.bool (decide (0 ≤ restP p))) ∧ Below w.heap.size w w' := by
  have HK := Lib.hid ((Keep.begin hE [(a, subCells p.subs)] (by intro r hr; simp at hr; subst hr; exact ha)).alloc' (pkV p a c) 33 w.heap.size rfl); have HR := Lib.hid (fun w1 hE ha => packet_Rest p a c w1 hE hp ha); generalize restP p = n at *; clear hp ha hE; go_enter Tryz.func81, Tryz.ntmps81
  go_wp2_with (first
    | ((with_reducible show wpList _ _ _ (⟨_, .load 33 _, _, _, _, _⟩ :: _) _ _); refine wpList_load_box rfl 33 _ rfl _ rfl 33 _ (by (first | exact HK.out.at 0 rfl)) _ Tryz.underlying33 rfl (pk_size _ _ _) ?_)
    | (go_at_call 100; refine Calls.mono (HR.out _ HK.out.env (HK.out.rowAt 0 rfl)) ?_; rintro e w1 ⟨rfl, hb1⟩; replace HK := Lib.hid (HK.out.below hb1); clear hb1))
  go_ret
  exact ⟨rfl, HK.out.low⟩
end Go.Proofs.YtnnpokndajpkiaaGreatDoor
