/- The walk of the program's plain: a packet without its list, to be compared. No condition. -/
import Derived.Test.YtcghokbcjbbbhaaDoorPacket3
namespace Go.Proofs.YtcghokbcjbbbhaaDoor
open Go.RowKit

theorem infoFlat : (Tryd.prog.info? 98).map (·.size) = some 23 := by kernel_rfl
theorem fl_size (p : Pk) : (Tryd.prog.info? 98).map (·.size) = some (flV p).size := infoFlat
set_option maxRecDepth 100000 in
set_option maxHeartbeats 4000000 in
theorem packet_plain (p : Pk) (a : Option Addr) (c : Nat) (w : World) : Calls Tryd.prog 61 #[.agg (pkV p a c)] w fun e w' => e = .returned (.agg (flV p)) ∧ Below w.heap.size w w' := by
  obtain ⟨k0, k1, k2, k3, k4, k5, k6, k7, k8, k9, k10, k11, k12, k13, k14, k15, k16, k17, k18, k19, k20, k21, k22, k23⟩ := pk_at p a c
  have hone : (flV p).all (·.oneCell') = true := by unfold flV; simp [Value.oneCell']
  have HONE := Lib.hid hone
  clear hone
  go_enter Tryd.func61, Tryd.ntmps61
  go_wp2_with (first
    | ((with_reducible show wpList _ _ _ (⟨some 43, _, _, _, _, _⟩ :: _) _ _); refine wpList_build_to (o := ⟨some 43, _, _, _, _, _⟩) rfl 98 _ rfl (flV p) (by kernel_rfl) ?_)
    | ((with_reducible show wpList _ _ _ (⟨none, .store 98 _ _, _, _, _, _⟩ :: _) _ _); refine wpList_store_box rfl 98 (.tmp 2) (.tmp 43) rfl (w.heap.size + 1) (flV p) rfl rfl 98 _ (BoxAt.new2 _ _ _ _) (fl_size p) rfl HONE.out ?_; intro w2 hbx hon))
  have hbw : Below w.heap.size w w2 := Below.trans (by go_grown) (hon.below (B := w.heap.size) (by simp; omega) (fun k e => by omega))
  exact bodyPost_ret (v := .agg (flV p)) (results_cell_row rfl _ w2 (w.heap.size + 1) 98 (flV p) (0, 0) _ rfl hbx Tryd.underlying98 rfl (fl_size p)) rfl ⟨rfl, hbw⟩
end Go.Proofs.YtcghokbcjbbbhaaDoor
