/- The walk of PacketRests: bytes more of a payload, of a password. Conditions: the decoder's tables lie as Go lays them; the packet's list in its cells. -/
import Derived.Test.YtkphaihbdmjogaaDoorLaw03Great
import Derived.Test.YtkphaihbdmjogaaDoorCardPk
namespace Go.Proofs.YtkphaihbdmjogaaDoor
open Go.RowKit

theorem restP_le (p : Pk) : restP p ≤ 268435455 := by
  unfold restP restOf
  split <;> omega
theorem payMore_ok {p : Pk} {s : ByteArray} (h : Small p) (hp : PkOk p) (hs : s.size ≤ 1000) : PkOk (payMore p s) := by
  have := h.parts
  exact ⟨hp.ty, hp.qos, hp.id, hp.level, hp.keep, hp.wqos, hp.code, hp.topic, by simp only [payMore, bsize]; omega, hp.client, hp.wtopic, hp.wpayload, hp.user, hp.pass, hp.codes, hp.few, hp.each⟩
theorem payQos_ok {p : Pk} {s : ByteArray} (h : Small p) (hp : PkOk p) (hs : s.size ≤ 1000) : PkOk (payQos p s) := by
  have := h.parts
  exact ⟨hp.ty, by simp [payQos], by simp [payQos], hp.level, hp.keep, hp.wqos, hp.code, hp.topic, by simp only [payQos, bsize]; omega, hp.client, hp.wtopic, hp.wpayload, hp.user, hp.pass, hp.codes, hp.few, hp.each⟩
theorem payNone_ok {p : Pk} {s : ByteArray} (h : Small p) (hp : PkOk p) (hs : s.size ≤ 1000) : PkOk (payNone p s) := by
  have := h.parts
  exact ⟨hp.ty, by simp [payNone], by simp [payNone], hp.level, hp.keep, hp.wqos, hp.code, hp.topic, by simp only [payNone, bsize]; omega, hp.client, hp.wtopic, hp.wpayload, hp.user, hp.pass, hp.codes, hp.few, hp.each⟩
theorem passMore_ok {p : Pk} {s : ByteArray} (h : Small p) (hp : PkOk p) (hs : s.size ≤ 1000) : PkOk (passMore p s) := by
  have := h.parts
  exact ⟨hp.ty, hp.qos, hp.id, hp.level, hp.keep, hp.wqos, hp.code, hp.topic, hp.payload, hp.client, hp.wtopic, hp.wpayload, hp.user, by simp only [passMore, bsize]; omega, hp.codes, hp.few, hp.each⟩
theorem passNew_ok {p : Pk} {s : ByteArray} (h : Small p) (hp : PkOk p) (hs : s.size ≤ 1000) : PkOk (passNew p s) := by
  have := h.parts
  exact ⟨hp.ty, hp.qos, hp.id, hp.level, hp.keep, hp.wqos, hp.code, hp.topic, hp.payload, hp.client, hp.wtopic, hp.wpayload, hp.user, by simp only [passNew]; omega, hp.codes, hp.few, hp.each⟩
set_option maxRecDepth 100000 in
set_option maxHeartbeats 8000000 in
theorem law03_PacketRests (p : Pk) (a : Option Addr) (c : Nat) (s : ByteArray) (w : World) (hE : Env w) (hq : PkArg w p a c) : Calls Tryd.prog 8 #[.agg (pkV p a c), .string s] w fun e w' => e = .returned (.bool true) ∧ Below w.heap.size w w' := by
  have ht := hq.ty
  have ha := hq.row
  clear hq
  have HK := Lib.hid ((Keep.begin hE [(a, subCells p.subs)] (by intro r hr; simp at hr; subst hr; exact ha)).alloc' (pkV p a c) 27 w.heap.size rfl)
  have hG := fun w1 ha => law03_Great p a c w1 ha
  clear hE ha
  obtain ⟨g, hg⟩ : ∃ g, greatB p = g := ⟨_, rfl⟩
  rw [hg] at hG
  have HG := Lib.hid hG
  clear hG
  have hX0 := (HK.out.at 0 rfl).cells
  cases g
  · by_cases hs : s.size ≤ 1000
    · have hsm := small_of hg
      have hp := hsm.ok ht
      have hle := restP_le p
      have hge := restP_ge p
      have hR := fun w1 hE ha => packet_Rest p a c w1 hE hp ha
      obtain ⟨k0, k1, k2, k3, k4, k5, k6, k7, k8, k9, k10, k11, k12, k13, k14, k15, k16, k17, k18, k19, k20, k21, k22, k23⟩ := pk_at p a c
      by_cases h0 : 0 ≤ restP p
      · have hty := rest_types h0
        by_cases h3 : p.ty = 3
        · obtain ⟨r1, r2, r3⟩ := rests_pub hsm h3 h0 hs
          have hR1 := fun w1 hE (ha : CellsA w1 a (subCells p.subs)) => packet_Rest (payMore p s) a c w1 hE (payMore_ok hsm hp hs) ha
          rw [r1] at hR1
          have hpz := hp.payload
          have e3 : ((p.ty : Int) == 3) = true := by rw [h3]; rfl
          by_cases hq : p.qos = 0
          · have hR2 := fun w1 hE (ha : CellsA w1 a (subCells p.subs)) => packet_Rest (payQos p s) a c w1 hE (payQos_ok hsm hp hs) ha
            rw [r2 hq] at hR2
            have eq : ((p.qos : Int) == 0) = true := by rw [hq]; rfl
            have HR := Lib.hid hR
            have HR1 := Lib.hid hR1
            have HR2 := Lib.hid hR2
            clear hR hR1 hR2 r1 r2 r3 h3 hq hp hsm hg ht hty
            generalize restP p = n at *
            go_enter Tryd.func8, Tryd.ntmps8
            go_wp2_with (first
        | ((with_reducible show wpList _ _ _ (⟨some 7, _, _, _, _, _⟩ :: _) _ _); refine wpList_load_box rfl 27 _ rfl _ rfl 27 _ (HK.out.at 0 rfl) _ Tryd.underlying27 rfl (pk_size _ _ _) ?_)
        | ((with_reducible show wpList _ _ _ (⟨some 15, _, _, _, _, _⟩ :: _) _ _); refine wpList_load_box rfl 27 _ rfl _ rfl 27 _ (HK.out.at 0 rfl) _ Tryd.underlying27 rfl (pk_size _ _ _) ?_)
        | ((with_reducible show wpList _ _ _ (⟨some 17, _, _, _, _, _⟩ :: _) _ _); refine wpList_load_box rfl 27 _ rfl _ rfl 27 _ (HK.out.at 0 rfl) _ Tryd.underlying27 rfl (pk_size _ _ _) ?_)
        | (go_at_call 17; refine Calls.mono (HG.out _ (HK.out.rowAt 0 rfl)) ?_; rintro e w1 ⟨rfl, hb1⟩; replace HK := Lib.hid (HK.out.below hb1); clear hb1)
        | (go_at_call 20; have hE9 := HK.out.env; have hC9 := HK.out.rowAt 0 rfl; (with_reducible refine Calls.mono (HR.out _ hE9 hC9) ?_); rintro e w1 ⟨rfl, hb1⟩; clear hE9 hC9; replace HK := Lib.hid (HK.out.below hb1); clear hb1)
        | ((with_reducible show wpList _ _ _ (⟨some 6, .alloc 27, _, _, _, _⟩ :: _) _ _); obtain ⟨i0, z0, hi0, hz0, hs0, hc0⟩ := infoPkt; refine wpList_new rfl 27 rfl _ rfl rfl _ _ rfl rfl i0 z0 hi0 hz0 (pkV p a c) hs0 hc0 (pk_one _ _ _) rfl rfl ?_; replace HK := Lib.hid (HK.out.alloc (pkV p a c) 27); clear i0 z0 hi0 hz0 hs0 hc0; generalize hgw : World.alloc _ _ = w5 at HK ⊢; clear hgw; replace hX0 := (HK.out.at 0 rfl).cells; replace hF0 := (HK.out.at 0 rfl).frozen; replace hX1 := (HK.out.at 1 rfl).cells)
        | ((with_reducible show wpList _ _ _ (⟨some 31, _, _, _, _, _⟩ :: _) _ _); replace HK := Lib.hid (HK.out.set (i := 0) (cs := pkV (payMore p s) a c) rfl 6 (.string (p.payload ++ s)) rfl); generalize hgw : World.setCell _ _ _ = w6 at HK ⊢; clear hgw; refine wpList_load_box rfl 27 _ rfl _ rfl 27 _ (HK.out.at 0 rfl) _ Tryd.underlying27 rfl (pk_size _ _ _) ?_)
        | (go_at_call 20; have hE9 := HK.out.env; have hC9 := HK.out.rowAt 0 rfl; (with_reducible refine Calls.mono (HR1.out _ hE9 hC9) ?_); rintro e w1 ⟨rfl, hb1⟩; clear hE9 hC9; replace HK := Lib.hid (HK.out.below hb1); clear hb1; replace hX0 := (HK.out.at 0 rfl).cells; replace hF0 := (HK.out.at 0 rfl).frozen; replace hX1 := (HK.out.at 1 rfl).cells)
        | ((with_reducible show wpList _ _ _ (⟨some 43, _, _, _, _, _⟩ :: _) _ _); replace HK := Lib.hid (HK.out.set (i := 0) rfl 2 (.int .u8 2) rfl); replace HK := Lib.hid (HK.out.set (i := 0) (cs := pkV (payQos p s) a c) rfl 4 (.int .u16 1) rfl); generalize hgw : World.setCell _ _ _ = w7 at HK ⊢; clear hgw; refine wpList_load_box rfl 27 _ rfl _ rfl 27 _ (HK.out.at 0 rfl) _ Tryd.underlying27 rfl (pk_size _ _ _) ?_)
        | (go_at_call 20; have hE9 := HK.out.env; have hC9 := HK.out.rowAt 0 rfl; (with_reducible refine Calls.mono (HR2.out _ hE9 hC9) ?_); rintro e w1 ⟨rfl, hb1⟩; clear hE9 hC9; replace HK := Lib.hid (HK.out.below hb1); clear hb1)
        | (go_at_call 16; refine Calls.mono (law03_awake _ HK.out.env) ?_; rintro e w1 ⟨rfl, hb1⟩; replace HK := Lib.hid (HK.out.below hb1); clear hb1))
            go_ret
            exact ⟨rfl, HK.out.low⟩
          · have hR2 := fun w1 hE (ha : CellsA w1 a (subCells p.subs)) => packet_Rest (payNone p s) a c w1 hE (payNone_ok hsm hp hs) ha
            rw [r3 hq] at hR2
            have eq : ((p.qos : Int) == 0) = false := by rw [beq_eq_false_iff_ne]; omega
            have hn2 : 2 ≤ restP p := by
              have := (pub_parts h3 h0).2.2
              omega
            have HR := Lib.hid hR
            have HR1 := Lib.hid hR1
            have HR2 := Lib.hid hR2
            clear hR hR1 hR2 r1 r2 r3 h3 hq hp hsm hg ht hty
            generalize restP p = n at *
            go_enter Tryd.func8, Tryd.ntmps8
            go_wp2_with (first
        | ((with_reducible show wpList _ _ _ (⟨some 7, _, _, _, _, _⟩ :: _) _ _); refine wpList_load_box rfl 27 _ rfl _ rfl 27 _ (HK.out.at 0 rfl) _ Tryd.underlying27 rfl (pk_size _ _ _) ?_)
        | ((with_reducible show wpList _ _ _ (⟨some 15, _, _, _, _, _⟩ :: _) _ _); refine wpList_load_box rfl 27 _ rfl _ rfl 27 _ (HK.out.at 0 rfl) _ Tryd.underlying27 rfl (pk_size _ _ _) ?_)
        | ((with_reducible show wpList _ _ _ (⟨some 17, _, _, _, _, _⟩ :: _) _ _); refine wpList_load_box rfl 27 _ rfl _ rfl 27 _ (HK.out.at 0 rfl) _ Tryd.underlying27 rfl (pk_size _ _ _) ?_)
        | (go_at_call 17; refine Calls.mono (HG.out _ (HK.out.rowAt 0 rfl)) ?_; rintro e w1 ⟨rfl, hb1⟩; replace HK := Lib.hid (HK.out.below hb1); clear hb1)
        | (go_at_call 20; have hE9 := HK.out.env; have hC9 := HK.out.rowAt 0 rfl; (with_reducible refine Calls.mono (HR.out _ hE9 hC9) ?_); rintro e w1 ⟨rfl, hb1⟩; clear hE9 hC9; replace HK := Lib.hid (HK.out.below hb1); clear hb1)
        | ((with_reducible show wpList _ _ _ (⟨some 6, .alloc 27, _, _, _, _⟩ :: _) _ _); obtain ⟨i0, z0, hi0, hz0, hs0, hc0⟩ := infoPkt; refine wpList_new rfl 27 rfl _ rfl rfl _ _ rfl rfl i0 z0 hi0 hz0 (pkV p a c) hs0 hc0 (pk_one _ _ _) rfl rfl ?_; replace HK := Lib.hid (HK.out.alloc (pkV p a c) 27); clear i0 z0 hi0 hz0 hs0 hc0; generalize hgw : World.alloc _ _ = w5 at HK ⊢; clear hgw; replace hX0 := (HK.out.at 0 rfl).cells; replace hF0 := (HK.out.at 0 rfl).frozen; replace hX1 := (HK.out.at 1 rfl).cells)
        | ((with_reducible show wpList _ _ _ (⟨some 31, _, _, _, _, _⟩ :: _) _ _); replace HK := Lib.hid (HK.out.set (i := 0) (cs := pkV (payMore p s) a c) rfl 6 (.string (p.payload ++ s)) rfl); generalize hgw : World.setCell _ _ _ = w6 at HK ⊢; clear hgw; refine wpList_load_box rfl 27 _ rfl _ rfl 27 _ (HK.out.at 0 rfl) _ Tryd.underlying27 rfl (pk_size _ _ _) ?_)
        | (go_at_call 20; have hE9 := HK.out.env; have hC9 := HK.out.rowAt 0 rfl; (with_reducible refine Calls.mono (HR1.out _ hE9 hC9) ?_); rintro e w1 ⟨rfl, hb1⟩; clear hE9 hC9; replace HK := Lib.hid (HK.out.below hb1); clear hb1; replace hX0 := (HK.out.at 0 rfl).cells; replace hF0 := (HK.out.at 0 rfl).frozen; replace hX1 := (HK.out.at 1 rfl).cells)
        | ((with_reducible show wpList _ _ _ (⟨some 57, _, _, _, _, _⟩ :: _) _ _); replace HK := Lib.hid (HK.out.set (i := 0) rfl 2 (.int .u8 0) rfl); replace HK := Lib.hid (HK.out.set (i := 0) rfl 4 (.int .u16 0) rfl); replace HK := Lib.hid (HK.out.set (i := 0) (cs := pkV (payNone p s) a c) rfl 1 (.bool false) rfl); generalize hgw : World.setCell _ _ _ = w7 at HK ⊢; clear hgw; refine wpList_load_box rfl 27 _ rfl _ rfl 27 _ (HK.out.at 0 rfl) _ Tryd.underlying27 rfl (pk_size _ _ _) ?_)
        | (go_at_call 20; have hE9 := HK.out.env; have hC9 := HK.out.rowAt 0 rfl; (with_reducible refine Calls.mono (HR2.out _ hE9 hC9) ?_); rintro e w1 ⟨rfl, hb1⟩; clear hE9 hC9; replace HK := Lib.hid (HK.out.below hb1); clear hb1)
        | (go_at_call 16; refine Calls.mono (law03_awake _ HK.out.env) ?_; rintro e w1 ⟨rfl, hb1⟩; replace HK := Lib.hid (HK.out.below hb1); clear hb1))
            go_ret
            exact ⟨rfl, HK.out.low⟩
        · have e3 : ((p.ty : Int) == 3) = false := by rw [beq_eq_false_iff_ne]; omega
          have hpz := hp.pass
          by_cases h1 : p.ty = 1
          · obtain ⟨r1, r2⟩ := rests_con hsm h1 h0 hs
            have e1 : ((p.ty : Int) == 1) = true := by rw [h1]; rfl
            obtain ⟨bp, hbp⟩ : ∃ b, p.hasPass = b := ⟨_, rfl⟩
            obtain ⟨bu, hbu⟩ : ∃ b, p.hasUser = b := ⟨_, rfl⟩
            cases bp
            · cases bu
              · have HR := Lib.hid hR
                clear hR r1 r2 h3 h1 hp hsm hg ht hty
                generalize restP p = n at *
                go_enter Tryd.func8, Tryd.ntmps8
                go_wp2_with (first
        | ((with_reducible show wpList _ _ _ (⟨some 7, _, _, _, _, _⟩ :: _) _ _); refine wpList_load_box rfl 27 _ rfl _ rfl 27 _ (HK.out.at 0 rfl) _ Tryd.underlying27 rfl (pk_size _ _ _) ?_)
        | ((with_reducible show wpList _ _ _ (⟨some 15, _, _, _, _, _⟩ :: _) _ _); refine wpList_load_box rfl 27 _ rfl _ rfl 27 _ (HK.out.at 0 rfl) _ Tryd.underlying27 rfl (pk_size _ _ _) ?_)
        | ((with_reducible show wpList _ _ _ (⟨some 17, _, _, _, _, _⟩ :: _) _ _); refine wpList_load_box rfl 27 _ rfl _ rfl 27 _ (HK.out.at 0 rfl) _ Tryd.underlying27 rfl (pk_size _ _ _) ?_)
        | (go_at_call 17; refine Calls.mono (HG.out _ (HK.out.rowAt 0 rfl)) ?_; rintro e w1 ⟨rfl, hb1⟩; replace HK := Lib.hid (HK.out.below hb1); clear hb1)
        | (go_at_call 20; have hE9 := HK.out.env; have hC9 := HK.out.rowAt 0 rfl; (with_reducible refine Calls.mono (HR.out _ hE9 hC9) ?_); rintro e w1 ⟨rfl, hb1⟩; clear hE9 hC9; replace HK := Lib.hid (HK.out.below hb1); clear hb1)
        | ((with_reducible show wpList _ _ _ (⟨some 6, .alloc 27, _, _, _, _⟩ :: _) _ _); obtain ⟨i0, z0, hi0, hz0, hs0, hc0⟩ := infoPkt; refine wpList_new rfl 27 rfl _ rfl rfl _ _ rfl rfl i0 z0 hi0 hz0 (pkV p a c) hs0 hc0 (pk_one _ _ _) rfl rfl ?_; replace HK := Lib.hid (HK.out.alloc (pkV p a c) 27); clear i0 z0 hi0 hz0 hs0 hc0; generalize hgw : World.alloc _ _ = w5 at HK ⊢; clear hgw; replace hX0 := (HK.out.at 0 rfl).cells; replace hF0 := (HK.out.at 0 rfl).frozen; replace hX1 := (HK.out.at 1 rfl).cells)
        | (go_at_call 16; refine Calls.mono (law03_awake _ HK.out.env) ?_; rintro e w1 ⟨rfl, hb1⟩; replace HK := Lib.hid (HK.out.below hb1); clear hb1))
                go_ret
                exact ⟨rfl, HK.out.low⟩
              · have hR1 := fun w1 hE (ha : CellsA w1 a (subCells p.subs)) => packet_Rest (passNew p s) a c w1 hE (passNew_ok hsm hp hs) ha
                rw [r2 hbp hbu] at hR1
                have HR := Lib.hid hR
                have HR1 := Lib.hid hR1
                clear hR hR1 r1 r2 h3 h1 hp hsm hg ht hty
                generalize restP p = n at *
                go_enter Tryd.func8, Tryd.ntmps8
                go_wp2_with (first
        | ((with_reducible show wpList _ _ _ (⟨some 7, _, _, _, _, _⟩ :: _) _ _); refine wpList_load_box rfl 27 _ rfl _ rfl 27 _ (HK.out.at 0 rfl) _ Tryd.underlying27 rfl (pk_size _ _ _) ?_)
        | ((with_reducible show wpList _ _ _ (⟨some 15, _, _, _, _, _⟩ :: _) _ _); refine wpList_load_box rfl 27 _ rfl _ rfl 27 _ (HK.out.at 0 rfl) _ Tryd.underlying27 rfl (pk_size _ _ _) ?_)
        | ((with_reducible show wpList _ _ _ (⟨some 17, _, _, _, _, _⟩ :: _) _ _); refine wpList_load_box rfl 27 _ rfl _ rfl 27 _ (HK.out.at 0 rfl) _ Tryd.underlying27 rfl (pk_size _ _ _) ?_)
        | (go_at_call 17; refine Calls.mono (HG.out _ (HK.out.rowAt 0 rfl)) ?_; rintro e w1 ⟨rfl, hb1⟩; replace HK := Lib.hid (HK.out.below hb1); clear hb1)
        | (go_at_call 20; have hE9 := HK.out.env; have hC9 := HK.out.rowAt 0 rfl; (with_reducible refine Calls.mono (HR.out _ hE9 hC9) ?_); rintro e w1 ⟨rfl, hb1⟩; clear hE9 hC9; replace HK := Lib.hid (HK.out.below hb1); clear hb1)
        | ((with_reducible show wpList _ _ _ (⟨some 6, .alloc 27, _, _, _, _⟩ :: _) _ _); obtain ⟨i0, z0, hi0, hz0, hs0, hc0⟩ := infoPkt; refine wpList_new rfl 27 rfl _ rfl rfl _ _ rfl rfl i0 z0 hi0 hz0 (pkV p a c) hs0 hc0 (pk_one _ _ _) rfl rfl ?_; replace HK := Lib.hid (HK.out.alloc (pkV p a c) 27); clear i0 z0 hi0 hz0 hs0 hc0; generalize hgw : World.alloc _ _ = w5 at HK ⊢; clear hgw; replace hX0 := (HK.out.at 0 rfl).cells; replace hF0 := (HK.out.at 0 rfl).frozen; replace hX1 := (HK.out.at 1 rfl).cells)
        | ((with_reducible show wpList _ _ _ (⟨some 102, _, _, _, _, _⟩ :: _) _ _); replace HK := Lib.hid (HK.out.set (i := 0) rfl 17 (.bool true) rfl); replace HK := Lib.hid (HK.out.set (i := 0) (cs := pkV (passNew p s) a c) rfl 19 (.string s) rfl); generalize hgw : World.setCell _ _ _ = w6 at HK ⊢; clear hgw; refine wpList_load_box rfl 27 _ rfl _ rfl 27 _ (HK.out.at 0 rfl) _ Tryd.underlying27 rfl (pk_size _ _ _) ?_)
        | (go_at_call 20; have hE9 := HK.out.env; have hC9 := HK.out.rowAt 0 rfl; (with_reducible refine Calls.mono (HR1.out _ hE9 hC9) ?_); rintro e w1 ⟨rfl, hb1⟩; clear hE9 hC9; replace HK := Lib.hid (HK.out.below hb1); clear hb1)
        | (go_at_call 16; refine Calls.mono (law03_awake _ HK.out.env) ?_; rintro e w1 ⟨rfl, hb1⟩; replace HK := Lib.hid (HK.out.below hb1); clear hb1))
                go_ret
                exact ⟨rfl, HK.out.low⟩
            · have hR1 := fun w1 hE (ha : CellsA w1 a (subCells p.subs)) => packet_Rest (passMore p s) a c w1 hE (passMore_ok hsm hp hs) ha
              rw [r1 hbp] at hR1
              have HR := Lib.hid hR
              have HR1 := Lib.hid hR1
              clear hR hR1 r1 r2 h3 h1 hp hsm hg ht hty hbu
              generalize restP p = n at *
              go_enter Tryd.func8, Tryd.ntmps8
              go_wp2_with (first
        | ((with_reducible show wpList _ _ _ (⟨some 7, _, _, _, _, _⟩ :: _) _ _); refine wpList_load_box rfl 27 _ rfl _ rfl 27 _ (HK.out.at 0 rfl) _ Tryd.underlying27 rfl (pk_size _ _ _) ?_)
        | ((with_reducible show wpList _ _ _ (⟨some 15, _, _, _, _, _⟩ :: _) _ _); refine wpList_load_box rfl 27 _ rfl _ rfl 27 _ (HK.out.at 0 rfl) _ Tryd.underlying27 rfl (pk_size _ _ _) ?_)
        | ((with_reducible show wpList _ _ _ (⟨some 17, _, _, _, _, _⟩ :: _) _ _); refine wpList_load_box rfl 27 _ rfl _ rfl 27 _ (HK.out.at 0 rfl) _ Tryd.underlying27 rfl (pk_size _ _ _) ?_)
        | (go_at_call 17; refine Calls.mono (HG.out _ (HK.out.rowAt 0 rfl)) ?_; rintro e w1 ⟨rfl, hb1⟩; replace HK := Lib.hid (HK.out.below hb1); clear hb1)
        | (go_at_call 20; have hE9 := HK.out.env; have hC9 := HK.out.rowAt 0 rfl; (with_reducible refine Calls.mono (HR.out _ hE9 hC9) ?_); rintro e w1 ⟨rfl, hb1⟩; clear hE9 hC9; replace HK := Lib.hid (HK.out.below hb1); clear hb1)
        | ((with_reducible show wpList _ _ _ (⟨some 6, .alloc 27, _, _, _, _⟩ :: _) _ _); obtain ⟨i0, z0, hi0, hz0, hs0, hc0⟩ := infoPkt; refine wpList_new rfl 27 rfl _ rfl rfl _ _ rfl rfl i0 z0 hi0 hz0 (pkV p a c) hs0 hc0 (pk_one _ _ _) rfl rfl ?_; replace HK := Lib.hid (HK.out.alloc (pkV p a c) 27); clear i0 z0 hi0 hz0 hs0 hc0; generalize hgw : World.alloc _ _ = w5 at HK ⊢; clear hgw; replace hX0 := (HK.out.at 0 rfl).cells; replace hF0 := (HK.out.at 0 rfl).frozen; replace hX1 := (HK.out.at 1 rfl).cells)
        | ((with_reducible show wpList _ _ _ (⟨some 81, _, _, _, _, _⟩ :: _) _ _); replace HK := Lib.hid (HK.out.set (i := 0) (cs := pkV (passMore p s) a c) rfl 19 (.string (p.pass ++ s)) rfl); generalize hgw : World.setCell _ _ _ = w6 at HK ⊢; clear hgw; refine wpList_load_box rfl 27 _ rfl _ rfl 27 _ (HK.out.at 0 rfl) _ Tryd.underlying27 rfl (pk_size _ _ _) ?_)
        | (go_at_call 20; have hE9 := HK.out.env; have hC9 := HK.out.rowAt 0 rfl; (with_reducible refine Calls.mono (HR1.out _ hE9 hC9) ?_); rintro e w1 ⟨rfl, hb1⟩; clear hE9 hC9; replace HK := Lib.hid (HK.out.below hb1); clear hb1)
        | (go_at_call 16; refine Calls.mono (law03_awake _ HK.out.env) ?_; rintro e w1 ⟨rfl, hb1⟩; replace HK := Lib.hid (HK.out.below hb1); clear hb1))
              go_ret
              exact ⟨rfl, HK.out.low⟩
          · have e1 : ((p.ty : Int) == 1) = false := by rw [beq_eq_false_iff_ne]; omega
            have HR := Lib.hid hR
            clear hR h3 h1 hp hsm hg ht hty
            generalize restP p = n at *
            go_enter Tryd.func8, Tryd.ntmps8
            go_wp2_with (first
        | ((with_reducible show wpList _ _ _ (⟨some 7, _, _, _, _, _⟩ :: _) _ _); refine wpList_load_box rfl 27 _ rfl _ rfl 27 _ (HK.out.at 0 rfl) _ Tryd.underlying27 rfl (pk_size _ _ _) ?_)
        | ((with_reducible show wpList _ _ _ (⟨some 15, _, _, _, _, _⟩ :: _) _ _); refine wpList_load_box rfl 27 _ rfl _ rfl 27 _ (HK.out.at 0 rfl) _ Tryd.underlying27 rfl (pk_size _ _ _) ?_)
        | ((with_reducible show wpList _ _ _ (⟨some 17, _, _, _, _, _⟩ :: _) _ _); refine wpList_load_box rfl 27 _ rfl _ rfl 27 _ (HK.out.at 0 rfl) _ Tryd.underlying27 rfl (pk_size _ _ _) ?_)
        | (go_at_call 17; refine Calls.mono (HG.out _ (HK.out.rowAt 0 rfl)) ?_; rintro e w1 ⟨rfl, hb1⟩; replace HK := Lib.hid (HK.out.below hb1); clear hb1)
        | (go_at_call 20; have hE9 := HK.out.env; have hC9 := HK.out.rowAt 0 rfl; (with_reducible refine Calls.mono (HR.out _ hE9 hC9) ?_); rintro e w1 ⟨rfl, hb1⟩; clear hE9 hC9; replace HK := Lib.hid (HK.out.below hb1); clear hb1)
        | ((with_reducible show wpList _ _ _ (⟨some 6, .alloc 27, _, _, _, _⟩ :: _) _ _); obtain ⟨i0, z0, hi0, hz0, hs0, hc0⟩ := infoPkt; refine wpList_new rfl 27 rfl _ rfl rfl _ _ rfl rfl i0 z0 hi0 hz0 (pkV p a c) hs0 hc0 (pk_one _ _ _) rfl rfl ?_; replace HK := Lib.hid (HK.out.alloc (pkV p a c) 27); clear i0 z0 hi0 hz0 hs0 hc0; generalize hgw : World.alloc _ _ = w5 at HK ⊢; clear hgw; replace hX0 := (HK.out.at 0 rfl).cells; replace hF0 := (HK.out.at 0 rfl).frozen; replace hX1 := (HK.out.at 1 rfl).cells)
        | (go_at_call 16; refine Calls.mono (law03_awake _ HK.out.env) ?_; rintro e w1 ⟨rfl, hb1⟩; replace HK := Lib.hid (HK.out.below hb1); clear hb1))
            go_ret
            exact ⟨rfl, HK.out.low⟩
      · have HR := Lib.hid hR
        clear hR hp hsm hg ht
        generalize restP p = n at *
        go_enter Tryd.func8, Tryd.ntmps8
        go_wp2_with (first
        | ((with_reducible show wpList _ _ _ (⟨some 7, _, _, _, _, _⟩ :: _) _ _); refine wpList_load_box rfl 27 _ rfl _ rfl 27 _ (HK.out.at 0 rfl) _ Tryd.underlying27 rfl (pk_size _ _ _) ?_)
        | ((with_reducible show wpList _ _ _ (⟨some 15, _, _, _, _, _⟩ :: _) _ _); refine wpList_load_box rfl 27 _ rfl _ rfl 27 _ (HK.out.at 0 rfl) _ Tryd.underlying27 rfl (pk_size _ _ _) ?_)
        | ((with_reducible show wpList _ _ _ (⟨some 17, _, _, _, _, _⟩ :: _) _ _); refine wpList_load_box rfl 27 _ rfl _ rfl 27 _ (HK.out.at 0 rfl) _ Tryd.underlying27 rfl (pk_size _ _ _) ?_)
        | (go_at_call 17; refine Calls.mono (HG.out _ (HK.out.rowAt 0 rfl)) ?_; rintro e w1 ⟨rfl, hb1⟩; replace HK := Lib.hid (HK.out.below hb1); clear hb1)
        | (go_at_call 20; have hE9 := HK.out.env; have hC9 := HK.out.rowAt 0 rfl; (with_reducible refine Calls.mono (HR.out _ hE9 hC9) ?_); rintro e w1 ⟨rfl, hb1⟩; clear hE9 hC9; replace HK := Lib.hid (HK.out.below hb1); clear hb1)
        | ((with_reducible show wpList _ _ _ (⟨some 6, .alloc 27, _, _, _, _⟩ :: _) _ _); obtain ⟨i0, z0, hi0, hz0, hs0, hc0⟩ := infoPkt; refine wpList_new rfl 27 rfl _ rfl rfl _ _ rfl rfl i0 z0 hi0 hz0 (pkV p a c) hs0 hc0 (pk_one _ _ _) rfl rfl ?_; replace HK := Lib.hid (HK.out.alloc (pkV p a c) 27); clear i0 z0 hi0 hz0 hs0 hc0; generalize hgw : World.alloc _ _ = w5 at HK ⊢; clear hgw; replace hX0 := (HK.out.at 0 rfl).cells; replace hF0 := (HK.out.at 0 rfl).frozen; replace hX1 := (HK.out.at 1 rfl).cells)
        | (go_at_call 16; refine Calls.mono (law03_awake _ HK.out.env) ?_; rintro e w1 ⟨rfl, hb1⟩; replace HK := Lib.hid (HK.out.below hb1); clear hb1))
        go_ret
        exact ⟨rfl, HK.out.low⟩
    · clear hg ht
      go_enter Tryd.func8, Tryd.ntmps8
      go_wp2_with (first
        | ((with_reducible show wpList _ _ _ (⟨some 7, _, _, _, _, _⟩ :: _) _ _); refine wpList_load_box rfl 27 _ rfl _ rfl 27 _ (HK.out.at 0 rfl) _ Tryd.underlying27 rfl (pk_size _ _ _) ?_)
        | ((with_reducible show wpList _ _ _ (⟨some 15, _, _, _, _, _⟩ :: _) _ _); refine wpList_load_box rfl 27 _ rfl _ rfl 27 _ (HK.out.at 0 rfl) _ Tryd.underlying27 rfl (pk_size _ _ _) ?_)
        | ((with_reducible show wpList _ _ _ (⟨some 17, _, _, _, _, _⟩ :: _) _ _); refine wpList_load_box rfl 27 _ rfl _ rfl 27 _ (HK.out.at 0 rfl) _ Tryd.underlying27 rfl (pk_size _ _ _) ?_)
        | (go_at_call 17; refine Calls.mono (HG.out _ (HK.out.rowAt 0 rfl)) ?_; rintro e w1 ⟨rfl, hb1⟩; replace HK := Lib.hid (HK.out.below hb1); clear hb1)
        | (go_at_call 16; refine Calls.mono (law03_awake _ HK.out.env) ?_; rintro e w1 ⟨rfl, hb1⟩; replace HK := Lib.hid (HK.out.below hb1); clear hb1))
      go_ret
      exact ⟨rfl, HK.out.low⟩
  · clear hg ht
    go_enter Tryd.func8, Tryd.ntmps8
    go_wp2_with (first
        | ((with_reducible show wpList _ _ _ (⟨some 7, _, _, _, _, _⟩ :: _) _ _); refine wpList_load_box rfl 27 _ rfl _ rfl 27 _ (HK.out.at 0 rfl) _ Tryd.underlying27 rfl (pk_size _ _ _) ?_)
        | ((with_reducible show wpList _ _ _ (⟨some 15, _, _, _, _, _⟩ :: _) _ _); refine wpList_load_box rfl 27 _ rfl _ rfl 27 _ (HK.out.at 0 rfl) _ Tryd.underlying27 rfl (pk_size _ _ _) ?_)
        | ((with_reducible show wpList _ _ _ (⟨some 17, _, _, _, _, _⟩ :: _) _ _); refine wpList_load_box rfl 27 _ rfl _ rfl 27 _ (HK.out.at 0 rfl) _ Tryd.underlying27 rfl (pk_size _ _ _) ?_)
        | (go_at_call 17; refine Calls.mono (HG.out _ (HK.out.rowAt 0 rfl)) ?_; rintro e w1 ⟨rfl, hb1⟩; replace HK := Lib.hid (HK.out.below hb1); clear hb1)
        | (go_at_call 16; refine Calls.mono (law03_awake _ HK.out.env) ?_; rintro e w1 ⟨rfl, hb1⟩; replace HK := Lib.hid (HK.out.below hb1); clear hb1))
    go_ret
    exact ⟨rfl, HK.out.low⟩
end Go.Proofs.YtkphaihbdmjogaaDoor
