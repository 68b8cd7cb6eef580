/- The walk of the reference's connect. Conditions: a machine's bounds on the packet's sizes; its list in its cells; the decoder's tables lie as Go lays them. -/
import Derived.Test.YtfljdlaelanliaaDoorPacketRest
import Derived.Test.YtfljdlaelanliaaDoorRefPacket
import Derived.Test.YtfljdlaelanliaaDoorJoinC
import Derived.Test.YtfljdlaelanliaaDoorJoinB
namespace Go.Proofs.YtfljdlaelanliaaDoor
open Go.RowKit
set_option maxRecDepth 100000 in
set_option maxHeartbeats 8000000 in
theorem ref03_connect (p : Pk) (a : Option Addr) (c : Nat) (w : World) (hp : PkOk p) : Calls Tryd.prog 78 #[.agg (pkV p a c)] w fun e w' => e = .returned (.bool (connectR p)) ∧ Below w.heap.size w w' := by
  have s1 := hp.client
  have s2 := hp.wtopic
  have s3 := hp.wpayload
  have s4 := hp.user
  have s5 := hp.pass
  have HV := Lib.hid (fun (w1 : World) => ref02_Valid p.client w1 (by omega))
  have HU := Lib.hid (fun (w1 : World) => ref02_Valid p.user w1 (by omega))
  have HN := Lib.hid (fun (w1 : World) => ref03_Name p.wtopic w1 s2)
  rw [show p.client.data.toList = bl p.client from rfl] at HV
  rw [show p.user.data.toList = bl p.user from rfl] at HU
  have FIN := Lib.hid (show ∀ (n : Bool) (w' : World), connectR p = n → Below w.heap.size w w' → Ending.returned (.bool n) = .returned (.bool (connectR p)) ∧ Below w.heap.size w w' from by rintro n w' rfl h; exact ⟨rfl, h⟩)
  clear hp
  obtain ⟨k0, k1, k2, k3, k4, k5, k6, k7, k8, k9, k10, k11, k12, k13, k14, k15, k16, k17, k18, k19, k20, k21, k22, k23⟩ := pk_at p a c
  have eu := empty_toList p.user
  have ep := empty_toList p.pass
  have hb : Below w.heap.size w (w.alloc (.cells (pkV p a c) 27)) := (Below.refl _ _).alloc (Nat.le_refl _) _
  have HBX := Lib.hid (BoxAt.new w (pkV p a c) 27)
  go_enter Tryd.func78, Tryd.ntmps78
  go_wp2_with (first
    | (go_at_call 79; (with_reducible refine Calls.mono (HN.out _) ?_); rintro e w1 ⟨rfl, hb1⟩; replace HBX := Lib.hid (HBX.out.below hb1); have hX := HBX.out.cells; replace hb := Below.then hb hb1; clear hb1)
    | (go_at_call 99; (with_reducible refine Calls.mono (HV.out _) ?_); rintro e w1 ⟨rfl, hb1⟩; replace HBX := Lib.hid (HBX.out.below hb1); have hX := HBX.out.cells; replace hb := Below.then hb hb1; clear hb1)
    | (go_at_call 99; (with_reducible refine Calls.mono (HU.out _) ?_); rintro e w1 ⟨rfl, hb1⟩; replace HBX := Lib.hid (HBX.out.below hb1); have hX := HBX.out.cells; replace hb := Below.then hb hb1; clear hb1))
  all_goals go_ret
  all_goals
    refine FIN.out _ _ ?_ hb
    have q1 := nil_e0 p.wtopic
    have q2 := nil_e0 p.wpayload
    clear FIN HV HU HN HBX hb
    clear k0 k1 k2 k3 k4 k5 k6 k7 k8 k9 k10 k11 k12 k13 k14 k15 k16 k17 k18 k19 k20 k21 k22 k23
    unfold connectR willOk willZero
    simp_all
  all_goals (try omega)
  all_goals (rw [Bool.eq_iff_iff]; simp only [Bool.and_eq_true, decide_eq_true_eq]; omega)
end Go.Proofs.YtfljdlaelanliaaDoor
