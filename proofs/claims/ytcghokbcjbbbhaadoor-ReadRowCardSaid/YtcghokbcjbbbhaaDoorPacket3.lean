/- The walks of the program's package packet: a Connect's rest; a packet without its list. Conditions: as for the others. -/
import Derived.Test.YtcghokbcjbbbhaaDoorPacket2
namespace Go.Proofs.YtcghokbcjbbbhaaDoor
open Go.RowKit

theorem nil_e0 (x : ByteArray) : x.toList = [] ↔ x = e0 := by
  rw [Lib.toList_data]
  exact ⟨fun h => bl_inj h, fun h => by rw [h]; rfl⟩
theorem max3 {n : Nat} (h : n ≤ 300000000) : n ≤ 140737488355328 := by omega
set_option maxRecDepth 100000 in
set_option maxHeartbeats 4000000 in
theorem packet_connect (p : Pk) (a : Option Addr) (c : Nat) (w : World) (hE : Env w) (hp : PkOk p) : Calls Tryd.prog 62 #[.agg (pkV p a c)] w fun e w' => e = .returned (.int .i64 (connectN p)) ∧ Below w.heap.size w w' := by
  have s1 := hp.client
  have s2 := hp.wtopic
  have s3 := hp.wpayload
  have s4 := hp.user
  have s5 := hp.pass
  have HV := Lib.hid (fun (w1 : World) hE => text_Valid p.client w1 hE (max3 s1))
  have HU := Lib.hid (fun (w1 : World) hE => text_Valid p.user w1 hE (max3 s4))
  have HN := Lib.hid (fun (w1 : World) hE => packet_name p.wtopic w1 hE (by omega))
  rw [show p.client.data.toList = bl p.client from rfl] at HV
  rw [show p.user.data.toList = bl p.user from rfl] at HU
  have FIN := Lib.hid (show ∀ (n : Int) (w' : World), connectN p = n → Below w.heap.size w w' → Ending.returned (.int .i64 n) = .returned (.int .i64 (connectN p)) ∧ Below w.heap.size w w' from by rintro n w' rfl h; exact ⟨rfl, h⟩)
  clear hp
  obtain ⟨k0, k1, k2, k3, k4, k5, k6, k7, k8, k9, k10, k11, k12, k13, k14, k15, k16, k17, k18, k19, k20, k21, k22, k23⟩ := pk_at p a c
  have eu := empty_toList p.user
  have ep := empty_toList p.pass
  have hb : Below w.heap.size w (w.alloc (.cells (pkV p a c) 27)) := (Below.refl _ _).alloc (Nat.le_refl _) _
  have HBX := Lib.hid (BoxAt.new w (pkV p a c) 27)
  go_enter Tryd.func62, Tryd.ntmps62
  go_wp2_with (first
    | (go_at_call 96; refine Calls.mono (HN.out _ (hE.below hb)) ?_; rintro e w1 ⟨rfl, hb1⟩; replace HBX := Lib.hid (HBX.out.below hb1); have hX := HBX.out.cells; replace hb := Below.then hb hb1; clear hb1)
    | (go_at_call 95; refine Calls.mono (HV.out _ (hE.below hb)) ?_; rintro e w1 ⟨rfl, hb1⟩; replace HBX := Lib.hid (HBX.out.below hb1); have hX := HBX.out.cells; replace hb := Below.then hb hb1; clear hb1)
    | (go_at_call 95; refine Calls.mono (HU.out _ (hE.below hb)) ?_; rintro e w1 ⟨rfl, hb1⟩; replace HBX := Lib.hid (HBX.out.below hb1); have hX := HBX.out.cells; replace hb := Below.then hb hb1; clear hb1))
  all_goals go_ret
  all_goals
    refine FIN.out _ _ ?_ hb
    have q1 := nil_e0 p.wtopic
    have q2 := nil_e0 p.wpayload
    clear FIN HV HU HN HBX hb hE
    clear k0 k1 k2 k3 k4 k5 k6 k7 k8 k9 k10 k11 k12 k13 k14 k15 k16 k17 k18 k19 k20 k21 k22 k23
    unfold connectN connectOk connectLen willOk userOk passOk willZero
    simp_all <;> omega
end Go.Proofs.YtcghokbcjbbbhaaDoor
