/- The walk of the reference's Rest: the rest of a packet that may be. Conditions: a machine's bounds; the packet's list in its cells; the decoder's tables lie as Go lays them. -/
import Derived.Test.YtfljdlaelanliaaDoorRefEnc
import Derived.Test.YtfljdlaelanliaaDoorShort
import Derived.Test.YtfljdlaelanliaaDoorJoinB
namespace Go.Proofs.YtfljdlaelanliaaDoor
open Go.RowKit
theorem wI (n : Int) (h : 0 ≤ n ∧ n ≤ 1000) : IntKind.i64.wrap n = n := by rw [IntKind.wrap_i64]; omega
theorem bB_nil : (⟨#[]⟩ : ByteArray) = bB [] := rfl
set_option maxRecDepth 100000 in
set_option maxHeartbeats 8000000 in
theorem encR_12 (p : Pk) (a : Option Addr) (c : Nat) (w : World) (hE : Env w) (_hp : PkOk p) (ha : CellsA w a (subCells p.subs)) (h0 : 0 ≤ restP p) (ht : p.ty = 12) : Calls Tryd.prog 61 #[.agg (pkV p a c)] w fun e w' => e = .returned (.string (bB (restB p))) ∧ Below w.heap.size w w' := by
  have FIN := Lib.hid (show ∀ (s : ByteArray) (w' : World), s = bB (restB p) → Below w.heap.size w w' → Ending.returned (.string s) = .returned (.string (bB (restB p))) ∧ Below w.heap.size w w' from by rintro s w' rfl h; exact ⟨rfl, h⟩)
  have HK := Lib.hid ((Keep.begin hE [(a, subCells p.subs)] (by intro r hr; simp at hr; subst hr; exact ha)).alloc' (pkV p a c) 27 w.heap.size rfl)
  have HX := Lib.hid (show (⟨#[]⟩ : ByteArray) = bB (restB p) by
    have zz := (zeros_iff p).1 (rest_bare h0)
    have hi := zz.zi (by omega)
    have hs := zz.zs (by omega) (by omega)
    have hc := zz.z9 (by omega)
    have hy := (zz.z3 (by omega)).2.2.2.2
    unfold restB otherB
    rw [hi, hs, hc, hy]
    simp [ht, e0_bl]
    rfl)
  obtain ⟨k0, k1, k2, k3, k4, k5, k6, k7, k8, k9, k10, k11, k12, k13, k14, k15, k16, k17, k18, k19, k20, k21, k22, k23⟩ := pk_at p a c
  replace k0 : (pkV p a c)[0]? = some (.int .u8 12) := by rw [k0, ht]; rfl
  clear hE ha _hp h0
  go_enter Tryd.func61, Tryd.ntmps61
  go_upto_region 1 with fail
  show Code.wp _ _ _ _ (w.alloc (.cells (pkV p a c) 27))
  generalize World.alloc w _ = w2 at HK ⊢
  have hX := (HK.out.at 0 rfl).cells
  go_wp2_with fail
  go_ret
  exact FIN.out _ _ HX.out HK.out.low
set_option maxRecDepth 100000 in
set_option maxHeartbeats 8000000 in
theorem encR_13 (p : Pk) (a : Option Addr) (c : Nat) (w : World) (hE : Env w) (_hp : PkOk p) (ha : CellsA w a (subCells p.subs)) (h0 : 0 ≤ restP p) (ht : p.ty = 13) : Calls Tryd.prog 61 #[.agg (pkV p a c)] w fun e w' => e = .returned (.string (bB (restB p))) ∧ Below w.heap.size w w' := by
  have FIN := Lib.hid (show ∀ (s : ByteArray) (w' : World), s = bB (restB p) → Below w.heap.size w w' → Ending.returned (.string s) = .returned (.string (bB (restB p))) ∧ Below w.heap.size w w' from by rintro s w' rfl h; exact ⟨rfl, h⟩)
  have HK := Lib.hid ((Keep.begin hE [(a, subCells p.subs)] (by intro r hr; simp at hr; subst hr; exact ha)).alloc' (pkV p a c) 27 w.heap.size rfl)
  have HX := Lib.hid (show (⟨#[]⟩ : ByteArray) = bB (restB p) by
    have zz := (zeros_iff p).1 (rest_bare h0)
    have hi := zz.zi (by omega)
    have hs := zz.zs (by omega) (by omega)
    have hc := zz.z9 (by omega)
    have hy := (zz.z3 (by omega)).2.2.2.2
    unfold restB otherB
    rw [hi, hs, hc, hy]
    simp [ht, e0_bl]
    rfl)
  obtain ⟨k0, k1, k2, k3, k4, k5, k6, k7, k8, k9, k10, k11, k12, k13, k14, k15, k16, k17, k18, k19, k20, k21, k22, k23⟩ := pk_at p a c
  replace k0 : (pkV p a c)[0]? = some (.int .u8 13) := by rw [k0, ht]; rfl
  clear hE ha _hp h0
  go_enter Tryd.func61, Tryd.ntmps61
  go_upto_region 1 with fail
  show Code.wp _ _ _ _ (w.alloc (.cells (pkV p a c) 27))
  generalize World.alloc w _ = w2 at HK ⊢
  have hX := (HK.out.at 0 rfl).cells
  go_wp2_with fail
  go_ret
  exact FIN.out _ _ HX.out HK.out.low
set_option maxRecDepth 100000 in
set_option maxHeartbeats 8000000 in
theorem encR_14 (p : Pk) (a : Option Addr) (c : Nat) (w : World) (hE : Env w) (_hp : PkOk p) (ha : CellsA w a (subCells p.subs)) (h0 : 0 ≤ restP p) (ht : p.ty = 14) : Calls Tryd.prog 61 #[.agg (pkV p a c)] w fun e w' => e = .returned (.string (bB (restB p))) ∧ Below w.heap.size w w' := by
  have FIN := Lib.hid (show ∀ (s : ByteArray) (w' : World), s = bB (restB p) → Below w.heap.size w w' → Ending.returned (.string s) = .returned (.string (bB (restB p))) ∧ Below w.heap.size w w' from by rintro s w' rfl h; exact ⟨rfl, h⟩)
  have HK := Lib.hid ((Keep.begin hE [(a, subCells p.subs)] (by intro r hr; simp at hr; subst hr; exact ha)).alloc' (pkV p a c) 27 w.heap.size rfl)
  have HX := Lib.hid (show (⟨#[]⟩ : ByteArray) = bB (restB p) by
    have zz := (zeros_iff p).1 (rest_bare h0)
    have hi := zz.zi (by omega)
    have hs := zz.zs (by omega) (by omega)
    have hc := zz.z9 (by omega)
    have hy := (zz.z3 (by omega)).2.2.2.2
    unfold restB otherB
    rw [hi, hs, hc, hy]
    simp [ht, e0_bl]
    rfl)
  obtain ⟨k0, k1, k2, k3, k4, k5, k6, k7, k8, k9, k10, k11, k12, k13, k14, k15, k16, k17, k18, k19, k20, k21, k22, k23⟩ := pk_at p a c
  replace k0 : (pkV p a c)[0]? = some (.int .u8 14) := by rw [k0, ht]; rfl
  clear hE ha _hp h0
  go_enter Tryd.func61, Tryd.ntmps61
  go_upto_region 1 with fail
  show Code.wp _ _ _ _ (w.alloc (.cells (pkV p a c) 27))
  generalize World.alloc w _ = w2 at HK ⊢
  have hX := (HK.out.at 0 rfl).cells
  go_wp2_with fail
  go_ret
  exact FIN.out _ _ HX.out HK.out.low
set_option maxRecDepth 100000 in
set_option maxHeartbeats 8000000 in
theorem encR_4 (p : Pk) (a : Option Addr) (c : Nat) (w : World) (hE : Env w) (hp : PkOk p) (ha : CellsA w a (subCells p.subs)) (h0 : 0 ≤ restP p) (ht : p.ty = 4) : Calls Tryd.prog 61 #[.agg (pkV p a c)] w fun e w' => e = .returned (.string (bB (restB p))) ∧ Below w.heap.size w w' := by
  have FIN := Lib.hid (show ∀ (s : ByteArray) (w' : World), s = bB (restB p) → Below w.heap.size w w' → Ending.returned (.string s) = .returned (.string (bB (restB p))) ∧ Below w.heap.size w w' from by rintro s w' rfl h; exact ⟨rfl, h⟩)
  have HK := Lib.hid ((Keep.begin hE [(a, subCells p.subs)] (by intro r hr; simp at hr; subst hr; exact ha)).alloc' (pkV p a c) 27 w.heap.size rfl)
  have hid := ids_parts (p := p) (by omega) (by omega) h0
  have HX := Lib.hid (show bB (wordB p.id) = bB (restB p) by
    have zz := (zeros_iff p).1 (rest_bare h0)
    have hs := zz.zs (by omega) (by omega)
    have hc := zz.z9 (by omega)
    have hy := (zz.z3 (by omega)).2.2.2.2
    unfold restB otherB
    rw [hs, hc, hy]
    simp [ht, hid, e0_bl])
  have H1 := Lib.hid (fun w1 hE => ref04_word p.id (by have := hp.id; omega) w1 hE)
  obtain ⟨k0, k1, k2, k3, k4, k5, k6, k7, k8, k9, k10, k11, k12, k13, k14, k15, k16, k17, k18, k19, k20, k21, k22, k23⟩ := pk_at p a c
  replace k0 : (pkV p a c)[0]? = some (.int .u8 4) := by rw [k0, ht]; rfl
  clear hE ha hp h0 hid
  go_enter Tryd.func61, Tryd.ntmps61
  go_upto_region 1 with fail
  show Code.wp _ _ _ _ (w.alloc (.cells (pkV p a c) 27))
  generalize World.alloc w _ = w2 at HK ⊢
  have hX := (HK.out.at 0 rfl).cells
  go_wp2_with (go_at_call 84; refine Calls.mono (H1.out _ HK.out.env) ?_; rintro e w1 ⟨rfl, hb1⟩; replace HK := Lib.hid (HK.out.below hb1); have hX := (HK.out.at 0 rfl).cells; clear hb1)
  go_ret
  exact FIN.out _ _ HX.out HK.out.low
set_option maxRecDepth 100000 in
set_option maxHeartbeats 8000000 in
theorem encR_5 (p : Pk) (a : Option Addr) (c : Nat) (w : World) (hE : Env w) (hp : PkOk p) (ha : CellsA w a (subCells p.subs)) (h0 : 0 ≤ restP p) (ht : p.ty = 5) : Calls Tryd.prog 61 #[.agg (pkV p a c)] w fun e w' => e = .returned (.string (bB (restB p))) ∧ Below w.heap.size w w' := by
  have FIN := Lib.hid (show ∀ (s : ByteArray) (w' : World), s = bB (restB p) → Below w.heap.size w w' → Ending.returned (.string s) = .returned (.string (bB (restB p))) ∧ Below w.heap.size w w' from by rintro s w' rfl h; exact ⟨rfl, h⟩)
  have HK := Lib.hid ((Keep.begin hE [(a, subCells p.subs)] (by intro r hr; simp at hr; subst hr; exact ha)).alloc' (pkV p a c) 27 w.heap.size rfl)
  have hid := ids_parts (p := p) (by omega) (by omega) h0
  have HX := Lib.hid (show bB (wordB p.id) = bB (restB p) by
    have zz := (zeros_iff p).1 (rest_bare h0)
    have hs := zz.zs (by omega) (by omega)
    have hc := zz.z9 (by omega)
    have hy := (zz.z3 (by omega)).2.2.2.2
    unfold restB otherB
    rw [hs, hc, hy]
    simp [ht, hid, e0_bl])
  have H1 := Lib.hid (fun w1 hE => ref04_word p.id (by have := hp.id; omega) w1 hE)
  obtain ⟨k0, k1, k2, k3, k4, k5, k6, k7, k8, k9, k10, k11, k12, k13, k14, k15, k16, k17, k18, k19, k20, k21, k22, k23⟩ := pk_at p a c
  replace k0 : (pkV p a c)[0]? = some (.int .u8 5) := by rw [k0, ht]; rfl
  clear hE ha hp h0 hid
  go_enter Tryd.func61, Tryd.ntmps61
  go_upto_region 1 with fail
  show Code.wp _ _ _ _ (w.alloc (.cells (pkV p a c) 27))
  generalize World.alloc w _ = w2 at HK ⊢
  have hX := (HK.out.at 0 rfl).cells
  go_wp2_with (go_at_call 84; refine Calls.mono (H1.out _ HK.out.env) ?_; rintro e w1 ⟨rfl, hb1⟩; replace HK := Lib.hid (HK.out.below hb1); have hX := (HK.out.at 0 rfl).cells; clear hb1)
  go_ret
  exact FIN.out _ _ HX.out HK.out.low
set_option maxRecDepth 100000 in
set_option maxHeartbeats 8000000 in
theorem encR_6 (p : Pk) (a : Option Addr) (c : Nat) (w : World) (hE : Env w) (hp : PkOk p) (ha : CellsA w a (subCells p.subs)) (h0 : 0 ≤ restP p) (ht : p.ty = 6) : Calls Tryd.prog 61 #[.agg (pkV p a c)] w fun e w' => e = .returned (.string (bB (restB p))) ∧ Below w.heap.size w w' := by
  have FIN := Lib.hid (show ∀ (s : ByteArray) (w' : World), s = bB (restB p) → Below w.heap.size w w' → Ending.returned (.string s) = .returned (.string (bB (restB p))) ∧ Below w.heap.size w w' from by rintro s w' rfl h; exact ⟨rfl, h⟩)
  have HK := Lib.hid ((Keep.begin hE [(a, subCells p.subs)] (by intro r hr; simp at hr; subst hr; exact ha)).alloc' (pkV p a c) 27 w.heap.size rfl)
  have hid := ids_parts (p := p) (by omega) (by omega) h0
  have HX := Lib.hid (show bB (wordB p.id) = bB (restB p) by
    have zz := (zeros_iff p).1 (rest_bare h0)
    have hs := zz.zs (by omega) (by omega)
    have hc := zz.z9 (by omega)
    have hy := (zz.z3 (by omega)).2.2.2.2
    unfold restB otherB
    rw [hs, hc, hy]
    simp [ht, hid, e0_bl])
  have H1 := Lib.hid (fun w1 hE => ref04_word p.id (by have := hp.id; omega) w1 hE)
  obtain ⟨k0, k1, k2, k3, k4, k5, k6, k7, k8, k9, k10, k11, k12, k13, k14, k15, k16, k17, k18, k19, k20, k21, k22, k23⟩ := pk_at p a c
  replace k0 : (pkV p a c)[0]? = some (.int .u8 6) := by rw [k0, ht]; rfl
  clear hE ha hp h0 hid
  go_enter Tryd.func61, Tryd.ntmps61
  go_upto_region 1 with fail
  show Code.wp _ _ _ _ (w.alloc (.cells (pkV p a c) 27))
  generalize World.alloc w _ = w2 at HK ⊢
  have hX := (HK.out.at 0 rfl).cells
  go_wp2_with (go_at_call 84; refine Calls.mono (H1.out _ HK.out.env) ?_; rintro e w1 ⟨rfl, hb1⟩; replace HK := Lib.hid (HK.out.below hb1); have hX := (HK.out.at 0 rfl).cells; clear hb1)
  go_ret
  exact FIN.out _ _ HX.out HK.out.low
set_option maxRecDepth 100000 in
set_option maxHeartbeats 8000000 in
theorem encR_7 (p : Pk) (a : Option Addr) (c : Nat) (w : World) (hE : Env w) (hp : PkOk p) (ha : CellsA w a (subCells p.subs)) (h0 : 0 ≤ restP p) (ht : p.ty = 7) : Calls Tryd.prog 61 #[.agg (pkV p a c)] w fun e w' => e = .returned (.string (bB (restB p))) ∧ Below w.heap.size w w' := by
  have FIN := Lib.hid (show ∀ (s : ByteArray) (w' : World), s = bB (restB p) → Below w.heap.size w w' → Ending.returned (.string s) = .returned (.string (bB (restB p))) ∧ Below w.heap.size w w' from by rintro s w' rfl h; exact ⟨rfl, h⟩)
  have HK := Lib.hid ((Keep.begin hE [(a, subCells p.subs)] (by intro r hr; simp at hr; subst hr; exact ha)).alloc' (pkV p a c) 27 w.heap.size rfl)
  have hid := ids_parts (p := p) (by omega) (by omega) h0
  have HX := Lib.hid (show bB (wordB p.id) = bB (restB p) by
    have zz := (zeros_iff p).1 (rest_bare h0)
    have hs := zz.zs (by omega) (by omega)
    have hc := zz.z9 (by omega)
    have hy := (zz.z3 (by omega)).2.2.2.2
    unfold restB otherB
    rw [hs, hc, hy]
    simp [ht, hid, e0_bl])
  have H1 := Lib.hid (fun w1 hE => ref04_word p.id (by have := hp.id; omega) w1 hE)
  obtain ⟨k0, k1, k2, k3, k4, k5, k6, k7, k8, k9, k10, k11, k12, k13, k14, k15, k16, k17, k18, k19, k20, k21, k22, k23⟩ := pk_at p a c
  replace k0 : (pkV p a c)[0]? = some (.int .u8 7) := by rw [k0, ht]; rfl
  clear hE ha hp h0 hid
  go_enter Tryd.func61, Tryd.ntmps61
  go_upto_region 1 with fail
  show Code.wp _ _ _ _ (w.alloc (.cells (pkV p a c) 27))
  generalize World.alloc w _ = w2 at HK ⊢
  have hX := (HK.out.at 0 rfl).cells
  go_wp2_with (go_at_call 84; refine Calls.mono (H1.out _ HK.out.env) ?_; rintro e w1 ⟨rfl, hb1⟩; replace HK := Lib.hid (HK.out.below hb1); have hX := (HK.out.at 0 rfl).cells; clear hb1)
  go_ret
  exact FIN.out _ _ HX.out HK.out.low
set_option maxRecDepth 100000 in
set_option maxHeartbeats 8000000 in
theorem encR_11 (p : Pk) (a : Option Addr) (c : Nat) (w : World) (hE : Env w) (hp : PkOk p) (ha : CellsA w a (subCells p.subs)) (h0 : 0 ≤ restP p) (ht : p.ty = 11) : Calls Tryd.prog 61 #[.agg (pkV p a c)] w fun e w' => e = .returned (.string (bB (restB p))) ∧ Below w.heap.size w w' := by
  have FIN := Lib.hid (show ∀ (s : ByteArray) (w' : World), s = bB (restB p) → Below w.heap.size w w' → Ending.returned (.string s) = .returned (.string (bB (restB p))) ∧ Below w.heap.size w w' from by rintro s w' rfl h; exact ⟨rfl, h⟩)
  have HK := Lib.hid ((Keep.begin hE [(a, subCells p.subs)] (by intro r hr; simp at hr; subst hr; exact ha)).alloc' (pkV p a c) 27 w.heap.size rfl)
  have hid := ids_parts (p := p) (by omega) (by omega) h0
  have HX := Lib.hid (show bB (wordB p.id) = bB (restB p) by
    have zz := (zeros_iff p).1 (rest_bare h0)
    have hs := zz.zs (by omega) (by omega)
    have hc := zz.z9 (by omega)
    have hy := (zz.z3 (by omega)).2.2.2.2
    unfold restB otherB
    rw [hs, hc, hy]
    simp [ht, hid, e0_bl])
  have H1 := Lib.hid (fun w1 hE => ref04_word p.id (by have := hp.id; omega) w1 hE)
  obtain ⟨k0, k1, k2, k3, k4, k5, k6, k7, k8, k9, k10, k11, k12, k13, k14, k15, k16, k17, k18, k19, k20, k21, k22, k23⟩ := pk_at p a c
  replace k0 : (pkV p a c)[0]? = some (.int .u8 11) := by rw [k0, ht]; rfl
  clear hE ha hp h0 hid
  go_enter Tryd.func61, Tryd.ntmps61
  go_upto_region 1 with fail
  show Code.wp _ _ _ _ (w.alloc (.cells (pkV p a c) 27))
  generalize World.alloc w _ = w2 at HK ⊢
  have hX := (HK.out.at 0 rfl).cells
  go_wp2_with (go_at_call 84; refine Calls.mono (H1.out _ HK.out.env) ?_; rintro e w1 ⟨rfl, hb1⟩; replace HK := Lib.hid (HK.out.below hb1); have hX := (HK.out.at 0 rfl).cells; clear hb1)
  go_ret
  exact FIN.out _ _ HX.out HK.out.low
set_option maxRecDepth 100000 in
set_option maxHeartbeats 8000000 in
theorem encR_9 (p : Pk) (a : Option Addr) (c : Nat) (w : World) (hE : Env w) (hp : PkOk p) (ha : CellsA w a (subCells p.subs)) (h0 : 0 ≤ restP p) (ht : p.ty = 9) : Calls Tryd.prog 61 #[.agg (pkV p a c)] w fun e w' => e = .returned (.string (bB (restB p))) ∧ Below w.heap.size w w' := by
  have FIN := Lib.hid (show ∀ (s : ByteArray) (w' : World), s = bB (restB p) → Below w.heap.size w w' → Ending.returned (.string s) = .returned (.string (bB (restB p))) ∧ Below w.heap.size w w' from by rintro s w' rfl h; exact ⟨rfl, h⟩)
  have HK := Lib.hid ((Keep.begin hE [(a, subCells p.subs)] (by intro r hr; simp at hr; subst hr; exact ha)).alloc' (pkV p a c) 27 w.heap.size rfl)
  have hid := ids_parts (p := p) (by omega) (by omega) h0
  have HX := Lib.hid (show bB (wordB p.id) ++ p.codes = bB (restB p) by
    have zz := (zeros_iff p).1 (rest_bare h0)
    have hs := zz.zs (by omega) (by omega)
    have hy := (zz.z3 (by omega)).2.2.2.2
    unfold restB otherB
    rw [hs, hy]
    simp [ht, hid, e0_bl]
    rw [bB_two]
    congr 1)
  have H1 := Lib.hid (fun w1 hE => ref04_word p.id (by have := hp.id; omega) w1 hE)
  have hcs := hp.codes
  have hsz : ¬ 9223372036854775807 < (bB (wordB p.id)).size + p.codes.size := by
    have : (bB (wordB p.id)).size = 2 := rfl
    omega
  generalize bB (wordB p.id) = D at *
  obtain ⟨k0, k1, k2, k3, k4, k5, k6, k7, k8, k9, k10, k11, k12, k13, k14, k15, k16, k17, k18, k19, k20, k21, k22, k23⟩ := pk_at p a c
  replace k0 : (pkV p a c)[0]? = some (.int .u8 9) := by rw [k0, ht]; rfl
  clear hE ha hp h0 hid
  go_enter Tryd.func61, Tryd.ntmps61
  go_upto_region 1 with fail
  show Code.wp _ _ _ _ (w.alloc (.cells (pkV p a c) 27))
  generalize World.alloc w _ = w2 at HK ⊢
  have hX := (HK.out.at 0 rfl).cells
  go_upto_region 30 with fail
  clear hX
  refine wp_region_noPanic ?_
  refine wp_region_held_drew (S := fun w' => Keep w [(w.heap.size, pkV p a c, 27)] [(a, subCells p.subs)] w') (by kernel_rfl) ?_ (fun hHeld => ?_)
  · (first | exact HK.out | exact HK.out.drew | exact HK.out.drewN _)
  replace HK := Lib.hid hHeld
  refine wt (i := 0) (oi := ⟨some 145, _, _, _, _, _⟩) (v := ?_) rfl ?_ ?_
  rotate_left
  · (intro w hSw; (try dsimp only at hSw); have hX0 := (Keep.at hSw 0 rfl).cells; go_simp; try with_reducible rfl)
  try simp only [Act.put, pa, p0, p1]
  refine wt (i := 1) (oi := ⟨some 146, _, _, _, _, _⟩) (v := ?_) rfl ?_ ?_
  rotate_left
  · (intro w hSw; (try dsimp only at hSw); have hX0 := (Keep.at hSw 0 rfl).cells; go_simp; try with_reducible rfl)
  try simp only [Act.put, pa, p0, p1]
  refine wt (i := 3) (oi := ⟨some 148, _, _, _, _, _⟩) (v := ?_) rfl ?_ ?_
  rotate_left
  · (intro w hSw; (try dsimp only at hSw); have hX0 := (Keep.at hSw 0 rfl).cells; go_simp; try with_reducible rfl)
  try simp only [Act.put, pa, p0, p1]
  refine wt (i := 4) (oi := ⟨some 149, _, _, _, _, _⟩) (v := ?_) rfl ?_ ?_
  rotate_left
  · (intro w hSw; (try dsimp only at hSw); have hX0 := (Keep.at hSw 0 rfl).cells; go_simp; try with_reducible rfl)
  try simp only [Act.put, pa, p0, p1]
  refine wpAnyH_ready (rs := [2]) (by kernel_rfl) (by simp) ?_
  refine AllReadyH.cons (o := ⟨some 147, _, _, _, _, _⟩) rfl (fun K hK => ?_) AllReadyH.nil
  go_simp
  (go_at_call 84; refine Calls.mono (H1.out _ HK.out.env) ?_; rintro e w9 ⟨rfl, hb1⟩; replace HK := Lib.hid (HK.out.below hb1); clear hb1; go_simp)
  refine hK.out _ _ ?_ (fun hHeld => ?_)
  · (first | exact HK.out | exact HK.out.drew | exact HK.out.drewN _)
  clear hK K hHeld
  have hHeld := HK.out
  try simp only [Act.put, pa, p0, p1]
  refine wt (i := 5) (oi := ⟨some 150, _, _, _, _, _⟩) (v := ?_) rfl ?_ ?_
  rotate_left
  · (intro w hSw; (try dsimp only at hSw); have hX0 := (Keep.at hSw 0 rfl).cells; go_simp; try with_reducible rfl)
  try simp only [Act.put, pa, p0, p1]
  refine wt (i := 6) (oi := ⟨some 3, _, _, _, _, _⟩) (v := ?_) rfl ?_ ?_
  rotate_left
  · (intro w hSw; (try dsimp only at hSw); have hX0 := (Keep.at hSw 0 rfl).cells; go_simp; try with_reducible rfl)
  try simp only [Act.put, pa, p0, p1]
  refine wpAnyH_done (by kernel_rfl) ?_ _
  refine NoPanic.normal ?_
  go_wp2_with fail
  go_ret
  exact FIN.out _ _ HX.out HK.out.low
set_option maxRecDepth 100000 in
set_option maxHeartbeats 8000000 in
theorem encR_2 (p : Pk) (a : Option Addr) (c : Nat) (w : World) (hE : Env w) (hp : PkOk p) (ha : CellsA w a (subCells p.subs)) (_h0 : 0 ≤ restP p) (ht : p.ty = 2) : Calls Tryd.prog 61 #[.agg (pkV p a c)] w fun e w' => e = .returned (.string (bB (restB p))) ∧ Below w.heap.size w w' := by
  have FIN := Lib.hid (show ∀ (s : ByteArray) (w' : World), s = bB (restB p) → Below w.heap.size w w' → Ending.returned (.string s) = .returned (.string (bB (restB p))) ∧ Below w.heap.size w w' from by rintro s w' rfl h; exact ⟨rfl, h⟩)
  have HK := Lib.hid ((Keep.begin hE [(a, subCells p.subs)] (by intro r hr; simp at hr; subst hr; exact ha)).alloc' (pkV p a c) 27 w.heap.size rfl)
  have hcd := hp.code
  have hwc : IntKind.i64.wrap (p.code : Int) = (p.code : Int) := wrapI64 _ hcd
  have hb1 : bitN p.present 1 < 256 := by unfold bitN; split <;> omega
  have HX := Lib.hid (show bB [byteN (bitN p.present 1)] ++ bB [byteN p.code] = bB (restB p) by
    unfold restB
    rw [if_neg (by omega), if_pos ht]
    exact (bB_two [_] [_]).symm)
  have H0 := Lib.hid (fun w1 => ref04_yes' p.present 1 1 rfl w1)
  have H1 := Lib.hid (fun w1 hE => ref04_one (bitN p.present 1) hb1 w1 hE)
  have H2 := Lib.hid (fun w1 hE => ref04_one p.code hcd w1 hE)
  have hsz : ¬ 9223372036854775807 < (bB [byteN (bitN p.present 1)]).size + (bB [byteN p.code]).size := by
    have e1 : (bB [byteN (bitN p.present 1)]).size = 1 := rfl
    have e2 : (bB [byteN p.code]).size = 1 := rfl
    omega
  generalize bB [byteN (bitN p.present 1)] = D1 at *
  generalize bB [byteN p.code] = D2 at *
  generalize bitN p.present 1 = x1 at *
  obtain ⟨k0, k1, k2, k3, k4, k5, k6, k7, k8, k9, k10, k11, k12, k13, k14, k15, k16, k17, k18, k19, k20, k21, k22, k23⟩ := pk_at p a c
  replace k0 : (pkV p a c)[0]? = some (.int .u8 2) := by rw [k0, ht]; rfl
  clear hE ha hp _h0
  go_enter Tryd.func61, Tryd.ntmps61
  go_upto_region 1 with fail
  show Code.wp _ _ _ _ (w.alloc (.cells (pkV p a c) 27))
  generalize World.alloc w _ = w2 at HK ⊢
  have hX := (HK.out.at 0 rfl).cells
  go_upto_region 14 with fail
  clear hX
  refine wp_region_noPanic ?_
  refine wp_region_held_drew (S := fun w' => Keep w [(w.heap.size, pkV p a c, 27)] [(a, subCells p.subs)] w') (by kernel_rfl) ?_ (fun hHeld => ?_)
  · (first | exact HK.out | exact HK.out.drew | exact HK.out.drewN _)
  replace HK := Lib.hid hHeld
  refine wt (i := 0) (oi := ⟨some 82, _, _, _, _, _⟩) (v := ?_) rfl ?_ ?_
  rotate_left
  · (intro w hSw; (try dsimp only at hSw); have hX0 := (Keep.at hSw 0 rfl).cells; go_simp; try with_reducible rfl)
  try simp only [Act.put, pa, p0, p1]
  refine wt (i := 1) (oi := ⟨some 83, _, _, _, _, _⟩) (v := ?_) rfl ?_ ?_
  rotate_left
  · (intro w hSw; (try dsimp only at hSw); have hX0 := (Keep.at hSw 0 rfl).cells; go_simp; try with_reducible rfl)
  try simp only [Act.put, pa, p0, p1]
  refine wt (i := 4) (oi := ⟨some 86, _, _, _, _, _⟩) (v := ?_) rfl ?_ ?_
  rotate_left
  · (intro w hSw; (try dsimp only at hSw); have hX0 := (Keep.at hSw 0 rfl).cells; go_simp; try with_reducible rfl)
  try simp only [Act.put, pa, p0, p1]
  refine wt (i := 5) (oi := ⟨some 87, _, _, _, _, _⟩) (v := ?_) rfl ?_ ?_
  rotate_left
  · (intro w hSw; (try dsimp only at hSw); have hX0 := (Keep.at hSw 0 rfl).cells; go_simp; try with_reducible rfl)
  try simp only [Act.put, pa, p0, p1]
  refine wt (i := 6) (oi := ⟨some 88, _, _, _, _, _⟩) (v := ?_) rfl ?_ ?_
  rotate_left
  · (intro w hSw; (try dsimp only at hSw); have hX0 := (Keep.at hSw 0 rfl).cells; go_simp; try with_reducible rfl)
  try simp only [Act.put, pa, p0, p1]
  refine wpAnyH_ready (rs := [2]) (by kernel_rfl) (by simp) ?_
  refine AllReadyH.cons (o := ⟨some 84, _, _, _, _, _⟩) rfl (fun K hK => ?_) AllReadyH.nil
  go_simp
  (go_at_call 82; refine Calls.mono (H0.out _) ?_; rintro e w9 ⟨rfl, hb1⟩; replace HK := Lib.hid (HK.out.below hb1); clear hb1; go_simp)
  refine hK.out _ _ ?_ (fun hHeld => ?_)
  · (first | exact HK.out | exact HK.out.drew | exact HK.out.drewN _)
  clear hK K hHeld
  have hHeld := HK.out
  try simp only [Act.put, pa, p0, p1]
  refine wpAnyH_ready (rs := [3]) (by kernel_rfl) (by simp) ?_
  refine AllReadyH.cons (o := ⟨some 85, _, _, _, _, _⟩) rfl (fun K hK => ?_) AllReadyH.nil
  go_simp
  (go_at_call 63; refine Calls.mono (H1.out _ HK.out.env) ?_; rintro e w9 ⟨rfl, hb1⟩; replace HK := Lib.hid (HK.out.below hb1); clear hb1; go_simp)
  refine hK.out _ _ ?_ (fun hHeld => ?_)
  · (first | exact HK.out | exact HK.out.drew | exact HK.out.drewN _)
  clear hK K hHeld
  have hHeld := HK.out
  try simp only [Act.put, pa, p0, p1]
  refine wpAnyH_ready (rs := [7]) (by kernel_rfl) (by simp) ?_
  refine AllReadyH.cons (o := ⟨some 89, _, _, _, _, _⟩) rfl (fun K hK => ?_) AllReadyH.nil
  go_simp
  (go_at_call 63; refine Calls.mono (H2.out _ HK.out.env) ?_; rintro e w9 ⟨rfl, hb1⟩; replace HK := Lib.hid (HK.out.below hb1); clear hb1; go_simp)
  refine hK.out _ _ ?_ (fun hHeld => ?_)
  · (first | exact HK.out | exact HK.out.drew | exact HK.out.drewN _)
  clear hK K hHeld
  have hHeld := HK.out
  try simp only [Act.put, pa, p0, p1]
  refine wt (i := 8) (oi := ⟨some 90, _, _, _, _, _⟩) (v := ?_) rfl ?_ ?_
  rotate_left
  · (intro w hSw; (try dsimp only at hSw); have hX0 := (Keep.at hSw 0 rfl).cells; go_simp; try with_reducible rfl)
  try simp only [Act.put, pa, p0, p1]
  refine wt (i := 9) (oi := ⟨some 3, _, _, _, _, _⟩) (v := ?_) rfl ?_ ?_
  rotate_left
  · (intro w hSw; (try dsimp only at hSw); have hX0 := (Keep.at hSw 0 rfl).cells; go_simp; try with_reducible rfl)
  try simp only [Act.put, pa, p0, p1]
  refine wpAnyH_done (by kernel_rfl) ?_ _
  refine NoPanic.normal ?_
  go_wp2_with fail
  go_ret
  exact FIN.out _ _ HX.out HK.out.low
set_option maxRecDepth 100000 in
set_option maxHeartbeats 8000000 in
theorem encR_3 (p : Pk) (a : Option Addr) (c : Nat) (w : World) (hE : Env w) (hp : PkOk p) (ha : CellsA w a (subCells p.subs)) (h0 : 0 ≤ restP p) (ht : p.ty = 3) : Calls Tryd.prog 61 #[.agg (pkV p a c)] w fun e w' => e = .returned (.string (bB (restB p))) ∧ Below w.heap.size w w' := by
  have FIN := Lib.hid (show ∀ (s : ByteArray) (w' : World), s = bB (restB p) → Below w.heap.size w w' → Ending.returned (.string s) = .returned (.string (bB (restB p))) ∧ Below w.heap.size w w' from by rintro s w' rfl h; exact ⟨rfl, h⟩)
  have HK := Lib.hid ((Keep.begin hE [(a, subCells p.subs)] (by intro r hr; simp at hr; subst hr; exact ha)).alloc' (pkV p a c) 27 w.heap.size rfl)
  obtain ⟨hn, hq2, hid⟩ := pub_parts ht h0
  have htp := name_len hn
  rw [blen] at htp
  have hpl := hp.payload
  have zz := (zeros_iff p).1 (rest_bare h0)
  have hs := zz.zs (by omega) (by omega)
  have hc := zz.z9 (by omega)
  have HX := Lib.hid (show bB (dataB p.topic) ++ (if p.qos = 0 then ⟨#[]⟩ else bB (wordB p.id)) ++ p.payload = bB (restB p) by
    unfold restB otherB
    rw [hs, hc]
    rcases hid with ⟨q0, i0, _⟩ | ⟨q0, i0, _⟩
    · rw [if_pos q0]
      simp [ht, i0, e0_bl]
      rw [bB_two]
      have : bB (dataB p.topic) ++ (⟨#[]⟩ : ByteArray) = bB (dataB p.topic) := by apply bl_inj; unfold bl; simp
      rw [this]; rfl
    · rw [if_neg (by omega)]
      have i1 : ¬ p.id = 0 := by omega
      simp [ht, i1, e0_bl]
      rw [bB_two, bB_two, ByteArray.append_assoc]; rfl)
  have H1 := Lib.hid (fun w1 hE => ref04_data p.topic htp w1 hE)
  have H2 := Lib.hid (fun w1 hE => ref04_word p.id (by have := hp.id; omega) w1 hE)
  have hd : (bB (dataB p.topic)).size ≤ 65537 := by
    have : (bB (dataB p.topic)).size = (dataB p.topic).length := rfl
    rw [this, dataB_len]; omega
  have hd2 : (bB (wordB p.id)).size ≤ 2 := Nat.le_refl _
  generalize bB (dataB p.topic) = D1 at *
  generalize bB (wordB p.id) = D2 at *
  have e1 : ¬ 9223372036854775807 < D1.size + D2.size := by omega
  have e2 : ¬ 9223372036854775807 < D1.size + D2.size + p.payload.size := by omega
  have e3 : ¬ 9223372036854775807 < D1.size + p.payload.size := by omega
  obtain ⟨k0, k1, k2, k3, k4, k5, k6, k7, k8, k9, k10, k11, k12, k13, k14, k15, k16, k17, k18, k19, k20, k21, k22, k23⟩ := pk_at p a c
  replace k0 : (pkV p a c)[0]? = some (.int .u8 3) := by rw [k0, ht]; rfl
  clear hE ha hp h0 hid hn zz hs hc
  by_cases hq : p.qos = 0
  · have q0 : decide (0 < p.qos) = false := by rw [hq]; rfl
    rw [if_pos hq] at HX
    clear hq
    go_enter Tryd.func61, Tryd.ntmps61
    go_upto_region 1 with fail
    show Code.wp _ _ _ _ (w.alloc (.cells (pkV p a c) 27))
    generalize World.alloc w _ = w2 at HK ⊢
    have hX := (HK.out.at 0 rfl).cells
    go_wp2_with (go_at_call 83; refine Calls.mono (H1.out _ HK.out.env) ?_; rintro e w1 ⟨rfl, hb1⟩; replace HK := Lib.hid (HK.out.below hb1); have hX := (HK.out.at 0 rfl).cells; clear hb1)
    go_ret
    exact FIN.out _ _ (by rw [← HX.out]; congr 1; apply bl_inj; unfold bl; simp) HK.out.low
  · have q0 : decide (0 < p.qos) = true := by rw [decide_eq_true_eq]; omega
    rw [if_neg hq] at HX
    clear hq
    go_enter Tryd.func61, Tryd.ntmps61
    go_upto_region 1 with fail
    show Code.wp _ _ _ _ (w.alloc (.cells (pkV p a c) 27))
    generalize World.alloc w _ = w2 at HK ⊢
    have hX := (HK.out.at 0 rfl).cells
    go_wp2_with (first
      | (go_at_call 83; refine Calls.mono (H1.out _ HK.out.env) ?_; rintro e w1 ⟨rfl, hb1⟩; replace HK := Lib.hid (HK.out.below hb1); have hX := (HK.out.at 0 rfl).cells; clear hb1)
      | (go_at_call 84; refine Calls.mono (H2.out _ HK.out.env) ?_; rintro e w1 ⟨rfl, hb1⟩; replace HK := Lib.hid (HK.out.below hb1); have hX := (HK.out.at 0 rfl).cells; clear hb1))
    go_ret
    exact FIN.out _ _ HX.out HK.out.low
set_option maxRecDepth 100000 in
set_option maxHeartbeats 8000000 in
theorem encR_8 (p : Pk) (a : Option Addr) (c : Nat) (w : World) (hE : Env w) (hp : PkOk p) (ha : CellsA w a (subCells p.subs)) (h0 : 0 ≤ restP p) (ht : p.ty = 8) : Calls Tryd.prog 61 #[.agg (pkV p a c)] w fun e w' => e = .returned (.string (bB (restB p))) ∧ Below w.heap.size w w' := by
  have FIN := Lib.hid (show ∀ (s : ByteArray) (w' : World), s = bB (restB p) → Below w.heap.size w w' → Ending.returned (.string s) = .returned (.string (bB (restB p))) ∧ Below w.heap.size w w' from by rintro s w' rfl h; exact ⟨rfl, h⟩)
  have HK := Lib.hid ((Keep.begin hE [(a, subCells p.subs)] (by intro r hr; simp at hr; subst hr; exact ha)).alloc' (pkV p a c) 27 w.heap.size rfl)
  have hid := ids_parts (p := p) (by omega) (by omega) h0
  obtain ⟨_, _, hall, hlen⟩ := subs_parts (p := p) (by omega) h0
  have hmx : restP p ≤ 268435455 := by unfold restP restOf; split <;> omega
  have HX := Lib.hid (show bB (wordB p.id ++ p.subs.flatMap (subB 8)) = bB (restB p) by
    have zz := (zeros_iff p).1 (rest_bare h0)
    have hc := zz.z9 (by omega)
    have hy := (zz.z3 (by omega)).2.2.2.2
    unfold restB otherB
    rw [hc, hy]
    simp [ht, hid, e0_bl])
  have H1 := Lib.hid (fun w1 hE => ref04_word p.id (by have := hp.id; omega) w1 hE)
  have HS := Lib.hid (show ∀ x ∈ p.subs, x.1.size ≤ 65535 ∧ x.2 < 256 from fun x hx => by
    have h5 := List.all_eq_true.1 hall x hx
    unfold subOk at h5
    simp only [Bool.and_eq_true, decide_eq_true_eq] at h5
    have h6 := filter_len h5.1
    unfold fB at h6
    rw [blen] at h6
    exact ⟨h6, (hp.each x hx).2⟩)
  have hfew := hp.few
  have HLE := Lib.hid (show ∀ k, ((p.subs.take k).flatMap (subB 8)).length ≤ 268435455 from fun k => by
    have e1 := subsB_len 8 p.subs
    have e2 : ((p.subs.take k).flatMap (subB 8)).length ≤ (p.subs.flatMap (subB 8)).length := by
      conv => rhs; rw [← List.take_append_drop k p.subs, List.flatMap_append, List.length_append]
      omega
    have e3 : subsLen (moreN p) p.subs = subsLen (if (8 : Nat) = 8 then 1 else 0) p.subs := by unfold moreN; rw [ht]; rfl
    rw [hlen] at hmx
    omega)
  obtain ⟨k0, k1, k2, k3, k4, k5, k6, k7, k8, k9, k10, k11, k12, k13, k14, k15, k16, k17, k18, k19, k20, k21, k22, k23⟩ := pk_at p a c
  replace k0 : (pkV p a c)[0]? = some (.int .u8 8) := by rw [k0, ht]; rfl
  clear hE ha hp h0 hid hall hlen hmx
  go_enter Tryd.func61, Tryd.ntmps61
  go_upto_region 1 with fail
  show Code.wp _ _ _ _ (w.alloc (.cells (pkV p a c) 27))
  generalize World.alloc w _ = w2 at HK ⊢
  have hX := (HK.out.at 0 rfl).cells
  go_wp2_with (go_at_call 84; refine Calls.mono (H1.out _ HK.out.env) ?_; rintro e w1 ⟨rfl, hb1⟩; replace HK := Lib.hid (HK.out.below hb1); have hX := (HK.out.at 0 rfl).cells; clear hb1)
  clear hX
  go_loopw [3, 5] (fun s i wr => ∃ k : Nat, k ≤ p.subs.length ∧ i = .int .i64 (k : Int) ∧ s = .string (bB (wordB p.id ++ (p.subs.take k).flatMap (subB 8))) ∧ Hid (Keep w [(w.heap.size, pkV p a c, 27)] [(a, subCells p.subs)] wr)) (fun _ i _ => p.subs.length - (intOf i).toNat)
  case atStart => exact ⟨0, by omega, rfl, rfl, HK⟩
  case round =>
    clear HK
    obtain ⟨k, hk, rfl, rfl, HK⟩ := hrel
    have hX := (HK.out.at 0 rfl).cells
    by_cases hlt : k < p.subs.length
    · obtain ⟨x, hx⟩ : ∃ x, p.subs[k]? = some x := ⟨_, List.getElem?_eq_getElem hlt⟩
      obtain ⟨b, o, ha1, hc1, hc2⟩ := (HK.out.rowAt 0 rfl).sub hx
      subst ha1
      have hbl := World.block_lt_of_cell? _ _ hc2
      dsimp only at hbl
      obtain ⟨hx1, hx2⟩ := HS.out x (List.mem_of_getElem? hx)
      have HD := Lib.hid (fun w1 hE => ref04_data x.1 hx1 w1 hE)
      have HO := Lib.hid (fun w1 hE => ref04_one x.2 hx2 w1 hE)
      have hle := HLE.out k
      have HN := Lib.hid (show bB (wordB p.id ++ (p.subs.take (k + 1)).flatMap (subB 8)) = bB (wordB p.id ++ (p.subs.take k).flatMap (subB 8)) ++ bB (dataB x.1) ++ bB [byteN x.2] by
        have e : wordB p.id ++ (p.subs.take (k + 1)).flatMap (subB 8) = (wordB p.id ++ (p.subs.take k).flatMap (subB 8)) ++ subB 8 x := by
          rw [List.take_add_one, hx, List.flatMap_append, ← List.append_assoc]
          simp
        rw [e, bB_two]
        unfold subB
        rw [if_pos rfl, bB_two (dataB x.1), ByteArray.append_assoc])
      have s1 : (bB (wordB p.id ++ (p.subs.take k).flatMap (subB 8))).size ≤ 268435457 := by
        have e1 : (bB (wordB p.id ++ (p.subs.take k).flatMap (subB 8))).size = (wordB p.id ++ (p.subs.take k).flatMap (subB 8)).length := rfl
        have e2 : (wordB p.id).length = 2 := rfl
        rw [e1, List.length_append]; omega
      have s2 : (bB (dataB x.1)).size ≤ 65537 := by
        have : (bB (dataB x.1)).size = (dataB x.1).length := rfl
        rw [this, dataB_len]; omega
      have s3 : (bB [byteN x.2]).size = 1 := rfl
      generalize bB (wordB p.id ++ (p.subs.take k).flatMap (subB 8)) = D1 at *
      generalize bB (dataB x.1) = D2 at *
      generalize bB [byteN x.2] = D3 at *
      have e1 : ¬ 9223372036854775807 < D1.size + D2.size := by omega
      have e2 : ¬ 9223372036854775807 < D1.size + D2.size + D3.size := by omega
      clear hx hle
      go_wp2_with (first
        | (go_at_call 83; refine Calls.mono (HD.out _ HK.out.env) ?_; rintro e w1 ⟨rfl, hb1⟩; have hc3 := (hb1.cell (p := ⟨b, o + k * 2 + 1, none⟩) hbl).trans hc2; replace HK := Lib.hid (HK.out.below hb1); have hX := (HK.out.at 0 rfl).cells; clear hb1)
        | (go_at_call 63; refine Calls.mono (HO.out _ HK.out.env) ?_; rintro e w1 ⟨rfl, hb1⟩; replace HK := Lib.hid (HK.out.below hb1); have hX := (HK.out.at 0 rfl).cells; clear hb1))
      go_roundw
      case rel => exact ⟨k + 1, by omega, by first | rfl | go_num, by rw [HN.out], HK⟩
      case measure => simp [intOf]; omega
    · have hk2 : k = p.subs.length := by omega
      subst hk2
      have hq := HX.out
      rw [List.take_length, hq]
      go_wp2_with fail
      go_ret
      exact FIN.out _ _ rfl HK.out.low
set_option maxRecDepth 100000 in
set_option maxHeartbeats 8000000 in
theorem encR_10 (p : Pk) (a : Option Addr) (c : Nat) (w : World) (hE : Env w) (hp : PkOk p) (ha : CellsA w a (subCells p.subs)) (h0 : 0 ≤ restP p) (ht : p.ty = 10) : Calls Tryd.prog 61 #[.agg (pkV p a c)] w fun e w' => e = .returned (.string (bB (restB p))) ∧ Below w.heap.size w w' := by
  have FIN := Lib.hid (show ∀ (s : ByteArray) (w' : World), s = bB (restB p) → Below w.heap.size w w' → Ending.returned (.string s) = .returned (.string (bB (restB p))) ∧ Below w.heap.size w w' from by rintro s w' rfl h; exact ⟨rfl, h⟩)
  have HK := Lib.hid ((Keep.begin hE [(a, subCells p.subs)] (by intro r hr; simp at hr; subst hr; exact ha)).alloc' (pkV p a c) 27 w.heap.size rfl)
  have hid := ids_parts (p := p) (by omega) (by omega) h0
  obtain ⟨_, _, hall, hlen⟩ := subs_parts (p := p) (by omega) h0
  have hmx : restP p ≤ 268435455 := by unfold restP restOf; split <;> omega
  have HX := Lib.hid (show bB (wordB p.id ++ p.subs.flatMap (subB 10)) = bB (restB p) by
    have zz := (zeros_iff p).1 (rest_bare h0)
    have hc := zz.z9 (by omega)
    have hy := (zz.z3 (by omega)).2.2.2.2
    unfold restB otherB
    rw [hc, hy]
    simp [ht, hid, e0_bl])
  have H1 := Lib.hid (fun w1 hE => ref04_word p.id (by have := hp.id; omega) w1 hE)
  have HS := Lib.hid (show ∀ x ∈ p.subs, x.1.size ≤ 65535 ∧ x.2 < 256 from fun x hx => by
    have h5 := List.all_eq_true.1 hall x hx
    unfold subOk at h5
    simp only [Bool.and_eq_true, decide_eq_true_eq] at h5
    have h6 := filter_len h5.1
    unfold fB at h6
    rw [blen] at h6
    exact ⟨h6, (hp.each x hx).2⟩)
  have hfew := hp.few
  have HLE := Lib.hid (show ∀ k, ((p.subs.take k).flatMap (subB 10)).length ≤ 268435455 from fun k => by
    have e1 := subsB_len 10 p.subs
    have e2 : ((p.subs.take k).flatMap (subB 10)).length ≤ (p.subs.flatMap (subB 10)).length := by
      conv => rhs; rw [← List.take_append_drop k p.subs, List.flatMap_append, List.length_append]
      omega
    have e3 : subsLen (moreN p) p.subs = subsLen (if (10 : Nat) = 8 then 1 else 0) p.subs := by unfold moreN; rw [ht]; rfl
    rw [hlen] at hmx
    omega)
  obtain ⟨k0, k1, k2, k3, k4, k5, k6, k7, k8, k9, k10, k11, k12, k13, k14, k15, k16, k17, k18, k19, k20, k21, k22, k23⟩ := pk_at p a c
  replace k0 : (pkV p a c)[0]? = some (.int .u8 10) := by rw [k0, ht]; rfl
  clear hE ha hp h0 hid hall hlen hmx
  go_enter Tryd.func61, Tryd.ntmps61
  go_upto_region 1 with fail
  show Code.wp _ _ _ _ (w.alloc (.cells (pkV p a c) 27))
  generalize World.alloc w _ = w2 at HK ⊢
  have hX := (HK.out.at 0 rfl).cells
  go_wp2_with (go_at_call 84; refine Calls.mono (H1.out _ HK.out.env) ?_; rintro e w1 ⟨rfl, hb1⟩; replace HK := Lib.hid (HK.out.below hb1); have hX := (HK.out.at 0 rfl).cells; clear hb1)
  clear hX
  go_loopw [3, 5] (fun s i wr => ∃ k : Nat, k ≤ p.subs.length ∧ i = .int .i64 (k : Int) ∧ s = .string (bB (wordB p.id ++ (p.subs.take k).flatMap (subB 10))) ∧ Hid (Keep w [(w.heap.size, pkV p a c, 27)] [(a, subCells p.subs)] wr)) (fun _ i _ => p.subs.length - (intOf i).toNat)
  case atStart => exact ⟨0, by omega, rfl, rfl, HK⟩
  case round =>
    clear HK
    obtain ⟨k, hk, rfl, rfl, HK⟩ := hrel
    have hX := (HK.out.at 0 rfl).cells
    by_cases hlt : k < p.subs.length
    · obtain ⟨x, hx⟩ : ∃ x, p.subs[k]? = some x := ⟨_, List.getElem?_eq_getElem hlt⟩
      obtain ⟨b, o, ha1, hc1, hc2⟩ := (HK.out.rowAt 0 rfl).sub hx
      subst ha1
      have hbl := World.block_lt_of_cell? _ _ hc2
      dsimp only at hbl
      obtain ⟨hx1, hx2⟩ := HS.out x (List.mem_of_getElem? hx)
      have HD := Lib.hid (fun w1 hE => ref04_data x.1 hx1 w1 hE)
      have HO := Lib.hid (fun w1 hE => ref04_one x.2 hx2 w1 hE)
      have hle := HLE.out k
      have HN := Lib.hid (show bB (wordB p.id ++ (p.subs.take (k + 1)).flatMap (subB 10)) = bB (wordB p.id ++ (p.subs.take k).flatMap (subB 10)) ++ bB (dataB x.1) by
        have e : wordB p.id ++ (p.subs.take (k + 1)).flatMap (subB 10) = (wordB p.id ++ (p.subs.take k).flatMap (subB 10)) ++ subB 10 x := by
          rw [List.take_add_one, hx, List.flatMap_append, ← List.append_assoc]
          simp
        rw [e, bB_two]
        unfold subB
        rw [if_neg (by decide), List.append_nil])
      have s1 : (bB (wordB p.id ++ (p.subs.take k).flatMap (subB 10))).size ≤ 268435457 := by
        have e1 : (bB (wordB p.id ++ (p.subs.take k).flatMap (subB 10))).size = (wordB p.id ++ (p.subs.take k).flatMap (subB 10)).length := rfl
        have e2 : (wordB p.id).length = 2 := rfl
        rw [e1, List.length_append]; omega
      have s2 : (bB (dataB x.1)).size ≤ 65537 := by
        have : (bB (dataB x.1)).size = (dataB x.1).length := rfl
        rw [this, dataB_len]; omega
      have s3 : (bB [byteN x.2]).size = 1 := rfl
      generalize bB (wordB p.id ++ (p.subs.take k).flatMap (subB 10)) = D1 at *
      generalize bB (dataB x.1) = D2 at *
      generalize bB [byteN x.2] = D3 at *
      have e1 : ¬ 9223372036854775807 < D1.size + D2.size := by omega
      have e2 : ¬ 9223372036854775807 < D1.size + D2.size + D3.size := by omega
      clear hx hle
      go_wp2_with (first
        | (go_at_call 83; refine Calls.mono (HD.out _ HK.out.env) ?_; rintro e w1 ⟨rfl, hb1⟩; have hc3 := (hb1.cell (p := ⟨b, o + k * 2 + 1, none⟩) hbl).trans hc2; replace HK := Lib.hid (HK.out.below hb1); have hX := (HK.out.at 0 rfl).cells; clear hb1))
      go_roundw
      case rel => exact ⟨k + 1, by omega, by first | rfl | go_num, by rw [HN.out], HK⟩
      case measure => simp [intOf]; omega
    · have hk2 : k = p.subs.length := by omega
      subst hk2
      have hq := HX.out
      rw [List.take_length, hq]
      go_wp2_with fail
      go_ret
      exact FIN.out _ _ rfl HK.out.low
set_option maxRecDepth 100000 in
set_option maxHeartbeats 8000000 in
theorem encR_1000 (p : Pk) (a : Option Addr) (c : Nat) (w : World) (hE : Env w) (hp : PkOk p) (ha : CellsA w a (subCells p.subs)) (h0 : 0 ≤ restP p) (ht : p.ty = 1) (hw : p.hasWill = false) (hu : p.hasUser = false) (hs : p.hasPass = false) : Calls Tryd.prog 61 #[.agg (pkV p a c)] w fun e w' => e = .returned (.string (bB (restB p))) ∧ Below w.heap.size w w' := by
  have FIN := Lib.hid (show ∀ (s : ByteArray) (w' : World), s = bB (restB p) → Below w.heap.size w w' → Ending.returned (.string s) = .returned (.string (bB (restB p))) ∧ Below w.heap.size w w' from by rintro s w' rfl h; exact ⟨rfl, h⟩)
  have HK := Lib.hid ((Keep.begin hE [(a, subCells p.subs)] (by intro r hr; simp at hr; subst hr; exact ha)).alloc' (pkV p a c) 27 w.heap.size rfl)
  obtain ⟨hc, _⟩ := con_parts ht h0
  obtain ⟨hl, hcl, hwo, huo, hso, hv, hz⟩ := con_fields hc
  have hcz := valid_some hcl
  rw [blen] at hcz
  have huz := valid_some hv
  rw [blen] at huz
  have hkp := hp.keep
  have hq2 : p.wqos ≤ 2 := by
    unfold willOk at hwo
    rw [hw] at hwo
    simp at hwo
    first | exact hwo.2 | (have := hwo.2.2.1; omega)
  have hcf := (flags_con p.hasUser p.hasPass p.wret p.hasWill p.clean p.wqos hq2 (conFlags p) rfl).1
  have HX := Lib.hid (show bB (dataB mqtt) ++ bB [byteN 4] ++ bB [byteN (conFlags p)] ++ bB (wordB p.keep) ++ bB (dataB p.client) = bB (restB p) by
    unfold restB connectB
    rw [if_pos ht, hw, hu, hs, hl]
    simp only [if_false, Bool.false_eq_true, List.append_nil]
    have e1 : [byteN 4, byteN (conFlags p)] = [byteN 4] ++ [byteN (conFlags p)] := rfl
    rw [e1]
    simp only [bB_two, ByteArray.append_assoc])
  have hwc : IntKind.i64.wrap (p.wqos : Int) = (p.wqos : Int) := wrapI64 _ (by omega)
  have hcn : conFlags p = bitN false 128 + bitN false 64 + bitN p.wret 32 + 8 * p.wqos + bitN false 4 + bitN p.clean 2 := by unfold conFlags; rw [hw, hu, hs]
  have Y1 := Lib.hid (fun w1 => ref04_yes' false 128 128 rfl w1)
  have Y2 := Lib.hid (fun w1 => ref04_yes' false 64 64 rfl w1)
  have Y3 := Lib.hid (fun w1 => ref04_yes' p.wret 32 32 rfl w1)
  have Y4 := Lib.hid (fun w1 => ref04_yes' false 4 4 rfl w1)
  have Y5 := Lib.hid (fun w1 => ref04_yes' p.clean 2 2 rfl w1)
  have b1 : bitN false 128 ≤ 128 := by decide
  have b2 : bitN false 64 ≤ 64 := by decide
  have b3 : bitN p.wret 32 ≤ 32 := by unfold bitN; split <;> omega
  have b4 : bitN false 4 ≤ 4 := by decide
  have b5 : bitN p.clean 2 ≤ 2 := by unfold bitN; split <;> omega
  have CM := Lib.hid (fun w1 hE => ref04_data mqtt (by decide) w1 hE)
  have CV := Lib.hid (fun w1 hE => ref04_one' 4 4 rfl (by decide) w1 hE)
  have CF := Lib.hid (fun w1 hE z hz => ref04_one' z (conFlags p) hz hcf w1 hE)
  have CQ := Lib.hid (fun w1 hE => ref04_word p.keep (by omega) w1 hE)
  have CC := Lib.hid (fun w1 hE => ref04_data p.client hcz w1 hE)
  have zM : (bB (dataB mqtt)).size ≤ 65537 := by
    have e : (bB (dataB mqtt)).size = (dataB mqtt).length := rfl
    have := (show mqtt.size ≤ 65535 by decide)
    rw [e, dataB_len]; omega
  have zV : (bB [byteN 4]).size ≤ 65537 := by
    have e : (bB [byteN 4]).size = 1 := rfl
    omega
  have zF : (bB [byteN (conFlags p)]).size ≤ 65537 := by
    have e : (bB [byteN (conFlags p)]).size = 1 := rfl
    omega
  have zQ : (bB (wordB p.keep)).size ≤ 65537 := by
    have e : (bB (wordB p.keep)).size = 2 := rfl
    omega
  have zC : (bB (dataB p.client)).size ≤ 65537 := by
    have e : (bB (dataB p.client)).size = (dataB p.client).length := rfl
    have := hcz
    rw [e, dataB_len]; omega
  generalize bB (dataB mqtt) = DM at *
  generalize bB [byteN 4] = DV at *
  generalize bB [byteN (conFlags p)] = DF at *
  generalize bB (wordB p.keep) = DQ at *
  generalize bB (dataB p.client) = DC at *
  generalize conFlags p = cf at *
  generalize bitN false 128 = x1 at *
  generalize bitN false 64 = x2 at *
  generalize bitN p.wret 32 = x3 at *
  generalize bitN false 4 = x4 at *
  generalize bitN p.clean 2 = x5 at *
  have g1 : ¬ 9223372036854775807 < DM.size + DV.size := by omega
  have g2 : ¬ 9223372036854775807 < DM.size + DV.size + DF.size := by omega
  have g3 : ¬ 9223372036854775807 < DM.size + DV.size + DF.size + DQ.size := by omega
  have g4 : ¬ 9223372036854775807 < DM.size + DV.size + DF.size + DQ.size + DC.size := by omega
  obtain ⟨k0, k1, k2, k3, k4, k5, k6, k7, k8, k9, k10, k11, k12, k13, k14, k15, k16, k17, k18, k19, k20, k21, k22, k23⟩ := pk_at p a c
  replace k0 : (pkV p a c)[0]? = some (.int .u8 1) := by rw [k0, ht]; rfl
  rw [hw] at k11
  rw [hu] at k16
  rw [hs] at k17
  clear hE ha hp h0 hc hl hcl hwo huo hso hv hcz huz hz hw hu hs
  go_enter Tryd.func61, Tryd.ntmps61
  go_upto_region 1 with fail
  show Code.wp _ _ _ _ (w.alloc (.cells (pkV p a c) 27))
  generalize World.alloc w _ = w2 at HK ⊢
  have hX := (HK.out.at 0 rfl).cells
  go_upto_region 5 with fail
  clear hX
  refine wp_region_noPanic ?_
  refine wp_region_held_drew (S := fun w' => Keep w [(w.heap.size, pkV p a c, 27)] [(a, subCells p.subs)] w') (by kernel_rfl) ?_ (fun hHeld => ?_)
  · (first | exact HK.out | exact HK.out.drew | exact HK.out.drewN _)
  replace HK := Lib.hid hHeld
  refine wt (i := 0) (oi := ⟨some 13, _, _, _, _, _⟩) (v := ?_) rfl ?_ ?_
  rotate_left
  · (intro w hSw; (try dsimp only at hSw); have hX0 := (Keep.at hSw 0 rfl).cells; go_simp; try with_reducible rfl)
  try simp only [Act.put, pa, p0, p1]
  refine wt (i := 1) (oi := ⟨some 14, _, _, _, _, _⟩) (v := ?_) rfl ?_ ?_
  rotate_left
  · (intro w hSw; (try dsimp only at hSw); have hX0 := (Keep.at hSw 0 rfl).cells; go_simp; try with_reducible rfl)
  try simp only [Act.put, pa, p0, p1]
  refine wt (i := 3) (oi := ⟨some 16, _, _, _, _, _⟩) (v := ?_) rfl ?_ ?_
  rotate_left
  · (intro w hSw; (try dsimp only at hSw); have hX0 := (Keep.at hSw 0 rfl).cells; go_simp; try with_reducible rfl)
  try simp only [Act.put, pa, p0, p1]
  refine wt (i := 4) (oi := ⟨some 17, _, _, _, _, _⟩) (v := ?_) rfl ?_ ?_
  rotate_left
  · (intro w hSw; (try dsimp only at hSw); have hX0 := (Keep.at hSw 0 rfl).cells; go_simp; try with_reducible rfl)
  try simp only [Act.put, pa, p0, p1]
  refine wt (i := 7) (oi := ⟨some 20, _, _, _, _, _⟩) (v := ?_) rfl ?_ ?_
  rotate_left
  · (intro w hSw; (try dsimp only at hSw); have hX0 := (Keep.at hSw 0 rfl).cells; go_simp; try with_reducible rfl)
  try simp only [Act.put, pa, p0, p1]
  refine wt (i := 8) (oi := ⟨some 21, _, _, _, _, _⟩) (v := ?_) rfl ?_ ?_
  rotate_left
  · (intro w hSw; (try dsimp only at hSw); have hX0 := (Keep.at hSw 0 rfl).cells; go_simp; try with_reducible rfl)
  try simp only [Act.put, pa, p0, p1]
  refine wt (i := 9) (oi := ⟨some 22, _, _, _, _, _⟩) (v := ?_) rfl ?_ ?_
  rotate_left
  · (intro w hSw; (try dsimp only at hSw); have hX0 := (Keep.at hSw 0 rfl).cells; go_simp; try with_reducible rfl)
  try simp only [Act.put, pa, p0, p1]
  refine wt (i := 12) (oi := ⟨some 25, _, _, _, _, _⟩) (v := ?_) rfl ?_ ?_
  rotate_left
  · (intro w hSw; (try dsimp only at hSw); have hX0 := (Keep.at hSw 0 rfl).cells; go_simp; try with_reducible rfl)
  try simp only [Act.put, pa, p0, p1]
  refine wt (i := 13) (oi := ⟨some 26, _, _, _, _, _⟩) (v := ?_) rfl ?_ ?_
  rotate_left
  · (intro w hSw; (try dsimp only at hSw); have hX0 := (Keep.at hSw 0 rfl).cells; go_simp; try with_reducible rfl)
  try simp only [Act.put, pa, p0, p1]
  refine wt (i := 14) (oi := ⟨some 27, _, _, _, _, _⟩) (v := ?_) rfl ?_ ?_
  rotate_left
  · (intro w hSw; (try dsimp only at hSw); have hX0 := (Keep.at hSw 0 rfl).cells; go_simp; try with_reducible rfl)
  try simp only [Act.put, pa, p0, p1]
  refine wt (i := 15) (oi := ⟨some 28, _, _, _, _, _⟩) (v := ?_) rfl ?_ ?_
  rotate_left
  · (intro w hSw; (try dsimp only at hSw); have hX0 := (Keep.at hSw 0 rfl).cells; go_simp; try with_reducible rfl)
  try simp only [Act.put, pa, p0, p1]
  refine wt (i := 16) (oi := ⟨some 29, _, _, _, _, _⟩) (v := ?_) rfl ?_ ?_
  rotate_left
  · (intro w hSw; (try dsimp only at hSw); have hX0 := (Keep.at hSw 0 rfl).cells; go_simp; try with_reducible rfl)
  try simp only [Act.put, pa, p0, p1]
  refine wt (i := 18) (oi := ⟨some 31, _, _, _, _, _⟩) (v := ?_) rfl ?_ ?_
  rotate_left
  · (intro w hSw; (try dsimp only at hSw); have hX0 := (Keep.at hSw 0 rfl).cells; go_simp; try with_reducible rfl)
  try simp only [Act.put, pa, p0, p1]
  refine wt (i := 19) (oi := ⟨some 32, _, _, _, _, _⟩) (v := ?_) rfl ?_ ?_
  rotate_left
  · (intro w hSw; (try dsimp only at hSw); have hX0 := (Keep.at hSw 0 rfl).cells; go_simp; try with_reducible rfl)
  try simp only [Act.put, pa, p0, p1]
  refine wt (i := 22) (oi := ⟨some 35, _, _, _, _, _⟩) (v := ?_) rfl ?_ ?_
  rotate_left
  · (intro w hSw; (try dsimp only at hSw); have hX0 := (Keep.at hSw 0 rfl).cells; go_simp; try with_reducible rfl)
  try simp only [Act.put, pa, p0, p1]
  refine wt (i := 23) (oi := ⟨some 36, _, _, _, _, _⟩) (v := ?_) rfl ?_ ?_
  rotate_left
  · (intro w hSw; (try dsimp only at hSw); have hX0 := (Keep.at hSw 0 rfl).cells; go_simp; try with_reducible rfl)
  try simp only [Act.put, pa, p0, p1]
  refine wpAnyH_ready (rs := [2]) (by kernel_rfl) (by simp) ?_
  refine AllReadyH.cons (o := ⟨some 15, _, _, _, _, _⟩) rfl (fun K hK => ?_) AllReadyH.nil
  go_simp
  (go_at_call 82; refine Calls.mono (Y1.out _) ?_; rintro e w9 ⟨rfl, hb1⟩; replace HK := Lib.hid (HK.out.below hb1); clear hb1; go_simp)
  refine hK.out _ _ ?_ (fun hHeld => ?_)
  · (first | exact HK.out | exact HK.out.drew | exact HK.out.drewN _)
  clear hK K hHeld
  have hHeld := HK.out
  try simp only [Act.put, pa, p0, p1]
  refine wpAnyH_ready (rs := [5]) (by kernel_rfl) (by simp) ?_
  refine AllReadyH.cons (o := ⟨some 18, _, _, _, _, _⟩) rfl (fun K hK => ?_) AllReadyH.nil
  go_simp
  (go_at_call 82; refine Calls.mono (Y2.out _) ?_; rintro e w9 ⟨rfl, hb1⟩; replace HK := Lib.hid (HK.out.below hb1); clear hb1; go_simp)
  refine hK.out _ _ ?_ (fun hHeld => ?_)
  · (first | exact HK.out | exact HK.out.drew | exact HK.out.drewN _)
  clear hK K hHeld
  have hHeld := HK.out
  try simp only [Act.put, pa, p0, p1]
  refine wt (i := 6) (oi := ⟨some 19, _, _, _, _, _⟩) (v := ?_) rfl ?_ ?_
  rotate_left
  · (intro w hSw; (try dsimp only at hSw); have hX0 := (Keep.at hSw 0 rfl).cells; go_simp; try with_reducible rfl)
  try simp only [Act.put, pa, p0, p1]
  refine wpAnyH_ready (rs := [10]) (by kernel_rfl) (by simp) ?_
  refine AllReadyH.cons (o := ⟨some 23, _, _, _, _, _⟩) rfl (fun K hK => ?_) AllReadyH.nil
  go_simp
  (go_at_call 82; refine Calls.mono (Y3.out _) ?_; rintro e w9 ⟨rfl, hb1⟩; replace HK := Lib.hid (HK.out.below hb1); clear hb1; go_simp)
  refine hK.out _ _ ?_ (fun hHeld => ?_)
  · (first | exact HK.out | exact HK.out.drew | exact HK.out.drewN _)
  clear hK K hHeld
  have hHeld := HK.out
  try simp only [Act.put, pa, p0, p1]
  refine wt (i := 11) (oi := ⟨some 24, _, _, _, _, _⟩) (v := ?_) rfl ?_ ?_
  rotate_left
  · (intro w hSw; (try dsimp only at hSw); have hX0 := (Keep.at hSw 0 rfl).cells; go_simp; try with_reducible rfl)
  try simp only [Act.put, pa, p0, p1]
  refine wt (i := 17) (oi := ⟨some 30, _, _, _, _, _⟩) (v := ?_) rfl ?_ ?_
  rotate_left
  · (intro w hSw; (try dsimp only at hSw); have hX0 := (Keep.at hSw 0 rfl).cells; go_simp; try with_reducible rfl)
  try simp only [Act.put, pa, p0, p1]
  refine wpAnyH_ready (rs := [20]) (by kernel_rfl) (by simp) ?_
  refine AllReadyH.cons (o := ⟨some 33, _, _, _, _, _⟩) rfl (fun K hK => ?_) AllReadyH.nil
  go_simp
  (go_at_call 82; refine Calls.mono (Y4.out _) ?_; rintro e w9 ⟨rfl, hb1⟩; replace HK := Lib.hid (HK.out.below hb1); clear hb1; go_simp)
  refine hK.out _ _ ?_ (fun hHeld => ?_)
  · (first | exact HK.out | exact HK.out.drew | exact HK.out.drewN _)
  clear hK K hHeld
  have hHeld := HK.out
  try simp only [Act.put, pa, p0, p1]
  refine wt (i := 21) (oi := ⟨some 34, _, _, _, _, _⟩) (v := ?_) rfl ?_ ?_
  rotate_left
  · (intro w hSw; (try dsimp only at hSw); have hX0 := (Keep.at hSw 0 rfl).cells; go_simp; try with_reducible rfl)
  try simp only [Act.put, pa, p0, p1]
  refine wpAnyH_ready (rs := [24]) (by kernel_rfl) (by simp) ?_
  refine AllReadyH.cons (o := ⟨some 37, _, _, _, _, _⟩) rfl (fun K hK => ?_) AllReadyH.nil
  go_simp
  (go_at_call 82; refine Calls.mono (Y5.out _) ?_; rintro e w9 ⟨rfl, hb1⟩; replace HK := Lib.hid (HK.out.below hb1); clear hb1; go_simp)
  refine hK.out _ _ ?_ (fun hHeld => ?_)
  · (first | exact HK.out | exact HK.out.drew | exact HK.out.drewN _)
  clear hK K hHeld
  have hHeld := HK.out
  try simp only [Act.put, pa, p0, p1]
  refine wt (i := 25) (oi := ⟨some 38, _, _, _, _, _⟩) (v := ?_) rfl ?_ ?_
  rotate_left
  · (intro w hSw; (try dsimp only at hSw); have hX0 := (Keep.at hSw 0 rfl).cells; go_simp; try with_reducible rfl)
  try simp only [Act.put, pa, p0, p1]
  refine wt (i := 26) (oi := ⟨some 4, _, _, _, _, _⟩) (v := ?_) rfl ?_ ?_
  rotate_left
  · (intro w hSw; (try dsimp only at hSw); have hX0 := (Keep.at hSw 0 rfl).cells; go_simp; try with_reducible rfl)
  try simp only [Act.put, pa, p0, p1]
  refine wpAnyH_done (by kernel_rfl) ?_ _
  refine NoPanic.normal ?_
  have hX := (HK.out.at 0 rfl).cells
  go_upto_region 6 with fail
  clear hX
  refine wp_region_noPanic ?_
  refine wp_region_held_drew (S := fun w' => Keep w [(w.heap.size, pkV p a c, 27)] [(a, subCells p.subs)] w') (by kernel_rfl) ?_ (fun hHeld => ?_)
  · (first | exact HK.out | exact HK.out.drew | exact HK.out.drewN _)
  replace HK := Lib.hid hHeld
  refine wt (i := 3) (oi := ⟨some 42, _, _, _, _, _⟩) (v := ?_) rfl ?_ ?_
  rotate_left
  · (intro w hSw; (try dsimp only at hSw); have hX0 := (Keep.at hSw 0 rfl).cells; go_simp; try with_reducible rfl)
  try simp only [Act.put, pa, p0, p1]
  refine wt (i := 6) (oi := ⟨some 45, _, _, _, _, _⟩) (v := ?_) rfl ?_ ?_
  rotate_left
  · (intro w hSw; (try dsimp only at hSw); have hX0 := (Keep.at hSw 0 rfl).cells; go_simp; try with_reducible rfl)
  try simp only [Act.put, pa, p0, p1]
  refine wt (i := 7) (oi := ⟨some 46, _, _, _, _, _⟩) (v := ?_) rfl ?_ ?_
  rotate_left
  · (intro w hSw; (try dsimp only at hSw); have hX0 := (Keep.at hSw 0 rfl).cells; go_simp; try with_reducible rfl)
  try simp only [Act.put, pa, p0, p1]
  refine wt (i := 10) (oi := ⟨some 49, _, _, _, _, _⟩) (v := ?_) rfl ?_ ?_
  rotate_left
  · (intro w hSw; (try dsimp only at hSw); have hX0 := (Keep.at hSw 0 rfl).cells; go_simp; try with_reducible rfl)
  try simp only [Act.put, pa, p0, p1]
  refine wt (i := 11) (oi := ⟨some 50, _, _, _, _, _⟩) (v := ?_) rfl ?_ ?_
  rotate_left
  · (intro w hSw; (try dsimp only at hSw); have hX0 := (Keep.at hSw 0 rfl).cells; go_simp; try with_reducible rfl)
  try simp only [Act.put, pa, p0, p1]
  refine wpAnyH_ready (rs := [0]) (by kernel_rfl) (by simp) ?_
  refine AllReadyH.cons (o := ⟨some 39, _, _, _, _, _⟩) rfl (fun K hK => ?_) AllReadyH.nil
  go_simp
  (go_at_call 83; refine Calls.mono (CM.out _ HK.out.env) ?_; rintro e w9 ⟨rfl, hb1⟩; replace HK := Lib.hid (HK.out.below hb1); clear hb1; go_simp)
  refine hK.out _ _ ?_ (fun hHeld => ?_)
  · (first | exact HK.out | exact HK.out.drew | exact HK.out.drewN _)
  clear hK K hHeld
  have hHeld := HK.out
  try simp only [Act.put, pa, p0, p1]
  refine wpAnyH_ready (rs := [1]) (by kernel_rfl) (by simp) ?_
  refine AllReadyH.cons (o := ⟨some 40, _, _, _, _, _⟩) rfl (fun K hK => ?_) AllReadyH.nil
  go_simp
  (go_at_call 63; refine Calls.mono (CV.out _ HK.out.env) ?_; rintro e w9 ⟨rfl, hb1⟩; replace HK := Lib.hid (HK.out.below hb1); clear hb1; go_simp)
  refine hK.out _ _ ?_ (fun hHeld => ?_)
  · (first | exact HK.out | exact HK.out.drew | exact HK.out.drewN _)
  clear hK K hHeld
  have hHeld := HK.out
  try simp only [Act.put, pa, p0, p1]
  refine wt (i := 2) (oi := ⟨some 41, _, _, _, _, _⟩) (v := ?_) rfl ?_ ?_
  rotate_left
  · (intro w hSw; (try dsimp only at hSw); have hX0 := (Keep.at hSw 0 rfl).cells; go_simp; try with_reducible rfl)
  try simp only [Act.put, pa, p0, p1]
  refine wpAnyH_ready (rs := [4]) (by kernel_rfl) (by simp) ?_
  refine AllReadyH.cons (o := ⟨some 43, _, _, _, _, _⟩) rfl (fun K hK => ?_) AllReadyH.nil
  go_simp
  (go_at_call 63; refine Calls.mono (CF.out _ HK.out.env _ (by rw [hcn]; simp (disch := omega) only [wI]; push_cast; rfl)) ?_; rintro e w9 ⟨rfl, hb1⟩; replace HK := Lib.hid (HK.out.below hb1); clear hb1; go_simp)
  refine hK.out _ _ ?_ (fun hHeld => ?_)
  · (first | exact HK.out | exact HK.out.drew | exact HK.out.drewN _)
  clear hK K hHeld
  have hHeld := HK.out
  try simp only [Act.put, pa, p0, p1]
  refine wt (i := 5) (oi := ⟨some 44, _, _, _, _, _⟩) (v := ?_) rfl ?_ ?_
  rotate_left
  · (intro w hSw; (try dsimp only at hSw); have hX0 := (Keep.at hSw 0 rfl).cells; go_simp; try with_reducible rfl)
  try simp only [Act.put, pa, p0, p1]
  refine wpAnyH_ready (rs := [8]) (by kernel_rfl) (by simp) ?_
  refine AllReadyH.cons (o := ⟨some 47, _, _, _, _, _⟩) rfl (fun K hK => ?_) AllReadyH.nil
  go_simp
  (go_at_call 84; refine Calls.mono (CQ.out _ HK.out.env) ?_; rintro e w9 ⟨rfl, hb1⟩; replace HK := Lib.hid (HK.out.below hb1); clear hb1; go_simp)
  refine hK.out _ _ ?_ (fun hHeld => ?_)
  · (first | exact HK.out | exact HK.out.drew | exact HK.out.drewN _)
  clear hK K hHeld
  have hHeld := HK.out
  try simp only [Act.put, pa, p0, p1]
  refine wt (i := 9) (oi := ⟨some 48, _, _, _, _, _⟩) (v := ?_) rfl ?_ ?_
  rotate_left
  · (intro w hSw; (try dsimp only at hSw); have hX0 := (Keep.at hSw 0 rfl).cells; go_simp; try with_reducible rfl)
  try simp only [Act.put, pa, p0, p1]
  refine wpAnyH_ready (rs := [12]) (by kernel_rfl) (by simp) ?_
  refine AllReadyH.cons (o := ⟨some 51, _, _, _, _, _⟩) rfl (fun K hK => ?_) AllReadyH.nil
  go_simp
  (go_at_call 83; refine Calls.mono (CC.out _ HK.out.env) ?_; rintro e w9 ⟨rfl, hb1⟩; replace HK := Lib.hid (HK.out.below hb1); clear hb1; go_simp)
  refine hK.out _ _ ?_ (fun hHeld => ?_)
  · (first | exact HK.out | exact HK.out.drew | exact HK.out.drewN _)
  clear hK K hHeld
  have hHeld := HK.out
  try simp only [Act.put, pa, p0, p1]
  refine wt (i := 13) (oi := ⟨some 52, _, _, _, _, _⟩) (v := ?_) rfl ?_ ?_
  rotate_left
  · (intro w hSw; (try dsimp only at hSw); have hX0 := (Keep.at hSw 0 rfl).cells; go_simp; try with_reducible rfl)
  try simp only [Act.put, pa, p0, p1]
  refine wt (i := 14) (oi := ⟨some 3, _, _, _, _, _⟩) (v := ?_) rfl ?_ ?_
  rotate_left
  · (intro w hSw; (try dsimp only at hSw); have hX0 := (Keep.at hSw 0 rfl).cells; go_simp; try with_reducible rfl)
  try simp only [Act.put, pa, p0, p1]
  refine wpAnyH_done (by kernel_rfl) ?_ _
  refine NoPanic.normal ?_
  have hX := (HK.out.at 0 rfl).cells
  go_wp2_with fail
  go_ret
  exact FIN.out _ _ HX.out HK.out.low
set_option maxRecDepth 100000 in
set_option maxHeartbeats 8000000 in
theorem encR_1001 (p : Pk) (a : Option Addr) (c : Nat) (w : World) (hE : Env w) (hp : PkOk p) (ha : CellsA w a (subCells p.subs)) (h0 : 0 ≤ restP p) (ht : p.ty = 1) (hw : p.hasWill = false) (hu : p.hasUser = false) (hs : p.hasPass = true) : Calls Tryd.prog 61 #[.agg (pkV p a c)] w fun e w' => e = .returned (.string (bB (restB p))) ∧ Below w.heap.size w w' := by
  have FIN := Lib.hid (show ∀ (s : ByteArray) (w' : World), s = bB (restB p) → Below w.heap.size w w' → Ending.returned (.string s) = .returned (.string (bB (restB p))) ∧ Below w.heap.size w w' from by rintro s w' rfl h; exact ⟨rfl, h⟩)
  have HK := Lib.hid ((Keep.begin hE [(a, subCells p.subs)] (by intro r hr; simp at hr; subst hr; exact ha)).alloc' (pkV p a c) 27 w.heap.size rfl)
  obtain ⟨hc, _⟩ := con_parts ht h0
  obtain ⟨hl, hcl, hwo, huo, hso, hv, hz⟩ := con_fields hc
  have hcz := valid_some hcl
  rw [blen] at hcz
  have huz := valid_some hv
  rw [blen] at huz
  have hkp := hp.keep
  have hq2 : p.wqos ≤ 2 := by
    unfold willOk at hwo
    rw [hw] at hwo
    simp at hwo
    first | exact hwo.2 | (have := hwo.2.2.1; omega)
  have hcf := (flags_con p.hasUser p.hasPass p.wret p.hasWill p.clean p.wqos hq2 (conFlags p) rfl).1
  have HX := Lib.hid (show bB (dataB mqtt) ++ bB [byteN 4] ++ bB [byteN (conFlags p)] ++ bB (wordB p.keep) ++ bB (dataB p.client) ++ bB (dataB p.pass) = bB (restB p) by
    unfold restB connectB
    rw [if_pos ht, hw, hu, hs, hl]
    simp only [if_true, if_false, Bool.false_eq_true, List.append_nil]
    have e1 : [byteN 4, byteN (conFlags p)] = [byteN 4] ++ [byteN (conFlags p)] := rfl
    rw [e1]
    simp only [bB_two, ByteArray.append_assoc])
  have hwc : IntKind.i64.wrap (p.wqos : Int) = (p.wqos : Int) := wrapI64 _ (by omega)
  have hcn : conFlags p = bitN false 128 + bitN true 64 + bitN p.wret 32 + 8 * p.wqos + bitN false 4 + bitN p.clean 2 := by unfold conFlags; rw [hw, hu, hs]
  have Y1 := Lib.hid (fun w1 => ref04_yes' false 128 128 rfl w1)
  have Y2 := Lib.hid (fun w1 => ref04_yes' true 64 64 rfl w1)
  have Y3 := Lib.hid (fun w1 => ref04_yes' p.wret 32 32 rfl w1)
  have Y4 := Lib.hid (fun w1 => ref04_yes' false 4 4 rfl w1)
  have Y5 := Lib.hid (fun w1 => ref04_yes' p.clean 2 2 rfl w1)
  have b1 : bitN false 128 ≤ 128 := by decide
  have b2 : bitN true 64 ≤ 64 := by decide
  have b3 : bitN p.wret 32 ≤ 32 := by unfold bitN; split <;> omega
  have b4 : bitN false 4 ≤ 4 := by decide
  have b5 : bitN p.clean 2 ≤ 2 := by unfold bitN; split <;> omega
  have CM := Lib.hid (fun w1 hE => ref04_data mqtt (by decide) w1 hE)
  have CV := Lib.hid (fun w1 hE => ref04_one' 4 4 rfl (by decide) w1 hE)
  have CF := Lib.hid (fun w1 hE z hz => ref04_one' z (conFlags p) hz hcf w1 hE)
  have CQ := Lib.hid (fun w1 hE => ref04_word p.keep (by omega) w1 hE)
  have CC := Lib.hid (fun w1 hE => ref04_data p.client hcz w1 hE)
  have CS := Lib.hid (fun w1 hE => ref04_data p.pass hz w1 hE)
  have zM : (bB (dataB mqtt)).size ≤ 65537 := by
    have e : (bB (dataB mqtt)).size = (dataB mqtt).length := rfl
    have := (show mqtt.size ≤ 65535 by decide)
    rw [e, dataB_len]; omega
  have zV : (bB [byteN 4]).size ≤ 65537 := by
    have e : (bB [byteN 4]).size = 1 := rfl
    omega
  have zF : (bB [byteN (conFlags p)]).size ≤ 65537 := by
    have e : (bB [byteN (conFlags p)]).size = 1 := rfl
    omega
  have zQ : (bB (wordB p.keep)).size ≤ 65537 := by
    have e : (bB (wordB p.keep)).size = 2 := rfl
    omega
  have zC : (bB (dataB p.client)).size ≤ 65537 := by
    have e : (bB (dataB p.client)).size = (dataB p.client).length := rfl
    have := hcz
    rw [e, dataB_len]; omega
  have zS : (bB (dataB p.pass)).size ≤ 65537 := by
    have e : (bB (dataB p.pass)).size = (dataB p.pass).length := rfl
    have := hz
    rw [e, dataB_len]; omega
  generalize bB (dataB mqtt) = DM at *
  generalize bB [byteN 4] = DV at *
  generalize bB [byteN (conFlags p)] = DF at *
  generalize bB (wordB p.keep) = DQ at *
  generalize bB (dataB p.client) = DC at *
  generalize bB (dataB p.pass) = DS at *
  generalize conFlags p = cf at *
  generalize bitN false 128 = x1 at *
  generalize bitN true 64 = x2 at *
  generalize bitN p.wret 32 = x3 at *
  generalize bitN false 4 = x4 at *
  generalize bitN p.clean 2 = x5 at *
  have g1 : ¬ 9223372036854775807 < DM.size + DV.size := by omega
  have g2 : ¬ 9223372036854775807 < DM.size + DV.size + DF.size := by omega
  have g3 : ¬ 9223372036854775807 < DM.size + DV.size + DF.size + DQ.size := by omega
  have g4 : ¬ 9223372036854775807 < DM.size + DV.size + DF.size + DQ.size + DC.size := by omega
  have g5 : ¬ 9223372036854775807 < DM.size + DV.size + DF.size + DQ.size + DC.size + DS.size := by omega
  obtain ⟨k0, k1, k2, k3, k4, k5, k6, k7, k8, k9, k10, k11, k12, k13, k14, k15, k16, k17, k18, k19, k20, k21, k22, k23⟩ := pk_at p a c
  replace k0 : (pkV p a c)[0]? = some (.int .u8 1) := by rw [k0, ht]; rfl
  rw [hw] at k11
  rw [hu] at k16
  rw [hs] at k17
  clear hE ha hp h0 hc hl hcl hwo huo hso hv hcz huz hz hw hu hs
  go_enter Tryd.func61, Tryd.ntmps61
  go_upto_region 1 with fail
  show Code.wp _ _ _ _ (w.alloc (.cells (pkV p a c) 27))
  generalize World.alloc w _ = w2 at HK ⊢
  have hX := (HK.out.at 0 rfl).cells
  go_upto_region 5 with fail
  clear hX
  refine wp_region_noPanic ?_
  refine wp_region_held_drew (S := fun w' => Keep w [(w.heap.size, pkV p a c, 27)] [(a, subCells p.subs)] w') (by kernel_rfl) ?_ (fun hHeld => ?_)
  · (first | exact HK.out | exact HK.out.drew | exact HK.out.drewN _)
  replace HK := Lib.hid hHeld
  refine wt (i := 0) (oi := ⟨some 13, _, _, _, _, _⟩) (v := ?_) rfl ?_ ?_
  rotate_left
  · (intro w hSw; (try dsimp only at hSw); have hX0 := (Keep.at hSw 0 rfl).cells; go_simp; try with_reducible rfl)
  try simp only [Act.put, pa, p0, p1]
  refine wt (i := 1) (oi := ⟨some 14, _, _, _, _, _⟩) (v := ?_) rfl ?_ ?_
  rotate_left
  · (intro w hSw; (try dsimp only at hSw); have hX0 := (Keep.at hSw 0 rfl).cells; go_simp; try with_reducible rfl)
  try simp only [Act.put, pa, p0, p1]
  refine wt (i := 3) (oi := ⟨some 16, _, _, _, _, _⟩) (v := ?_) rfl ?_ ?_
  rotate_left
  · (intro w hSw; (try dsimp only at hSw); have hX0 := (Keep.at hSw 0 rfl).cells; go_simp; try with_reducible rfl)
  try simp only [Act.put, pa, p0, p1]
  refine wt (i := 4) (oi := ⟨some 17, _, _, _, _, _⟩) (v := ?_) rfl ?_ ?_
  rotate_left
  · (intro w hSw; (try dsimp only at hSw); have hX0 := (Keep.at hSw 0 rfl).cells; go_simp; try with_reducible rfl)
  try simp only [Act.put, pa, p0, p1]
  refine wt (i := 7) (oi := ⟨some 20, _, _, _, _, _⟩) (v := ?_) rfl ?_ ?_
  rotate_left
  · (intro w hSw; (try dsimp only at hSw); have hX0 := (Keep.at hSw 0 rfl).cells; go_simp; try with_reducible rfl)
  try simp only [Act.put, pa, p0, p1]
  refine wt (i := 8) (oi := ⟨some 21, _, _, _, _, _⟩) (v := ?_) rfl ?_ ?_
  rotate_left
  · (intro w hSw; (try dsimp only at hSw); have hX0 := (Keep.at hSw 0 rfl).cells; go_simp; try with_reducible rfl)
  try simp only [Act.put, pa, p0, p1]
  refine wt (i := 9) (oi := ⟨some 22, _, _, _, _, _⟩) (v := ?_) rfl ?_ ?_
  rotate_left
  · (intro w hSw; (try dsimp only at hSw); have hX0 := (Keep.at hSw 0 rfl).cells; go_simp; try with_reducible rfl)
  try simp only [Act.put, pa, p0, p1]
  refine wt (i := 12) (oi := ⟨some 25, _, _, _, _, _⟩) (v := ?_) rfl ?_ ?_
  rotate_left
  · (intro w hSw; (try dsimp only at hSw); have hX0 := (Keep.at hSw 0 rfl).cells; go_simp; try with_reducible rfl)
  try simp only [Act.put, pa, p0, p1]
  refine wt (i := 13) (oi := ⟨some 26, _, _, _, _, _⟩) (v := ?_) rfl ?_ ?_
  rotate_left
  · (intro w hSw; (try dsimp only at hSw); have hX0 := (Keep.at hSw 0 rfl).cells; go_simp; try with_reducible rfl)
  try simp only [Act.put, pa, p0, p1]
  refine wt (i := 14) (oi := ⟨some 27, _, _, _, _, _⟩) (v := ?_) rfl ?_ ?_
  rotate_left
  · (intro w hSw; (try dsimp only at hSw); have hX0 := (Keep.at hSw 0 rfl).cells; go_simp; try with_reducible rfl)
  try simp only [Act.put, pa, p0, p1]
  refine wt (i := 15) (oi := ⟨some 28, _, _, _, _, _⟩) (v := ?_) rfl ?_ ?_
  rotate_left
  · (intro w hSw; (try dsimp only at hSw); have hX0 := (Keep.at hSw 0 rfl).cells; go_simp; try with_reducible rfl)
  try simp only [Act.put, pa, p0, p1]
  refine wt (i := 16) (oi := ⟨some 29, _, _, _, _, _⟩) (v := ?_) rfl ?_ ?_
  rotate_left
  · (intro w hSw; (try dsimp only at hSw); have hX0 := (Keep.at hSw 0 rfl).cells; go_simp; try with_reducible rfl)
  try simp only [Act.put, pa, p0, p1]
  refine wt (i := 18) (oi := ⟨some 31, _, _, _, _, _⟩) (v := ?_) rfl ?_ ?_
  rotate_left
  · (intro w hSw; (try dsimp only at hSw); have hX0 := (Keep.at hSw 0 rfl).cells; go_simp; try with_reducible rfl)
  try simp only [Act.put, pa, p0, p1]
  refine wt (i := 19) (oi := ⟨some 32, _, _, _, _, _⟩) (v := ?_) rfl ?_ ?_
  rotate_left
  · (intro w hSw; (try dsimp only at hSw); have hX0 := (Keep.at hSw 0 rfl).cells; go_simp; try with_reducible rfl)
  try simp only [Act.put, pa, p0, p1]
  refine wt (i := 22) (oi := ⟨some 35, _, _, _, _, _⟩) (v := ?_) rfl ?_ ?_
  rotate_left
  · (intro w hSw; (try dsimp only at hSw); have hX0 := (Keep.at hSw 0 rfl).cells; go_simp; try with_reducible rfl)
  try simp only [Act.put, pa, p0, p1]
  refine wt (i := 23) (oi := ⟨some 36, _, _, _, _, _⟩) (v := ?_) rfl ?_ ?_
  rotate_left
  · (intro w hSw; (try dsimp only at hSw); have hX0 := (Keep.at hSw 0 rfl).cells; go_simp; try with_reducible rfl)
  try simp only [Act.put, pa, p0, p1]
  refine wpAnyH_ready (rs := [2]) (by kernel_rfl) (by simp) ?_
  refine AllReadyH.cons (o := ⟨some 15, _, _, _, _, _⟩) rfl (fun K hK => ?_) AllReadyH.nil
  go_simp
  (go_at_call 82; refine Calls.mono (Y1.out _) ?_; rintro e w9 ⟨rfl, hb1⟩; replace HK := Lib.hid (HK.out.below hb1); clear hb1; go_simp)
  refine hK.out _ _ ?_ (fun hHeld => ?_)
  · (first | exact HK.out | exact HK.out.drew | exact HK.out.drewN _)
  clear hK K hHeld
  have hHeld := HK.out
  try simp only [Act.put, pa, p0, p1]
  refine wpAnyH_ready (rs := [5]) (by kernel_rfl) (by simp) ?_
  refine AllReadyH.cons (o := ⟨some 18, _, _, _, _, _⟩) rfl (fun K hK => ?_) AllReadyH.nil
  go_simp
  (go_at_call 82; refine Calls.mono (Y2.out _) ?_; rintro e w9 ⟨rfl, hb1⟩; replace HK := Lib.hid (HK.out.below hb1); clear hb1; go_simp)
  refine hK.out _ _ ?_ (fun hHeld => ?_)
  · (first | exact HK.out | exact HK.out.drew | exact HK.out.drewN _)
  clear hK K hHeld
  have hHeld := HK.out
  try simp only [Act.put, pa, p0, p1]
  refine wt (i := 6) (oi := ⟨some 19, _, _, _, _, _⟩) (v := ?_) rfl ?_ ?_
  rotate_left
  · (intro w hSw; (try dsimp only at hSw); have hX0 := (Keep.at hSw 0 rfl).cells; go_simp; try with_reducible rfl)
  try simp only [Act.put, pa, p0, p1]
  refine wpAnyH_ready (rs := [10]) (by kernel_rfl) (by simp) ?_
  refine AllReadyH.cons (o := ⟨some 23, _, _, _, _, _⟩) rfl (fun K hK => ?_) AllReadyH.nil
  go_simp
  (go_at_call 82; refine Calls.mono (Y3.out _) ?_; rintro e w9 ⟨rfl, hb1⟩; replace HK := Lib.hid (HK.out.below hb1); clear hb1; go_simp)
  refine hK.out _ _ ?_ (fun hHeld => ?_)
  · (first | exact HK.out | exact HK.out.drew | exact HK.out.drewN _)
  clear hK K hHeld
  have hHeld := HK.out
  try simp only [Act.put, pa, p0, p1]
  refine wt (i := 11) (oi := ⟨some 24, _, _, _, _, _⟩) (v := ?_) rfl ?_ ?_
  rotate_left
  · (intro w hSw; (try dsimp only at hSw); have hX0 := (Keep.at hSw 0 rfl).cells; go_simp; try with_reducible rfl)
  try simp only [Act.put, pa, p0, p1]
  refine wt (i := 17) (oi := ⟨some 30, _, _, _, _, _⟩) (v := ?_) rfl ?_ ?_
  rotate_left
  · (intro w hSw; (try dsimp only at hSw); have hX0 := (Keep.at hSw 0 rfl).cells; go_simp; try with_reducible rfl)
  try simp only [Act.put, pa, p0, p1]
  refine wpAnyH_ready (rs := [20]) (by kernel_rfl) (by simp) ?_
  refine AllReadyH.cons (o := ⟨some 33, _, _, _, _, _⟩) rfl (fun K hK => ?_) AllReadyH.nil
  go_simp
  (go_at_call 82; refine Calls.mono (Y4.out _) ?_; rintro e w9 ⟨rfl, hb1⟩; replace HK := Lib.hid (HK.out.below hb1); clear hb1; go_simp)
  refine hK.out _ _ ?_ (fun hHeld => ?_)
  · (first | exact HK.out | exact HK.out.drew | exact HK.out.drewN _)
  clear hK K hHeld
  have hHeld := HK.out
  try simp only [Act.put, pa, p0, p1]
  refine wt (i := 21) (oi := ⟨some 34, _, _, _, _, _⟩) (v := ?_) rfl ?_ ?_
  rotate_left
  · (intro w hSw; (try dsimp only at hSw); have hX0 := (Keep.at hSw 0 rfl).cells; go_simp; try with_reducible rfl)
  try simp only [Act.put, pa, p0, p1]
  refine wpAnyH_ready (rs := [24]) (by kernel_rfl) (by simp) ?_
  refine AllReadyH.cons (o := ⟨some 37, _, _, _, _, _⟩) rfl (fun K hK => ?_) AllReadyH.nil
  go_simp
  (go_at_call 82; refine Calls.mono (Y5.out _) ?_; rintro e w9 ⟨rfl, hb1⟩; replace HK := Lib.hid (HK.out.below hb1); clear hb1; go_simp)
  refine hK.out _ _ ?_ (fun hHeld => ?_)
  · (first | exact HK.out | exact HK.out.drew | exact HK.out.drewN _)
  clear hK K hHeld
  have hHeld := HK.out
  try simp only [Act.put, pa, p0, p1]
  refine wt (i := 25) (oi := ⟨some 38, _, _, _, _, _⟩) (v := ?_) rfl ?_ ?_
  rotate_left
  · (intro w hSw; (try dsimp only at hSw); have hX0 := (Keep.at hSw 0 rfl).cells; go_simp; try with_reducible rfl)
  try simp only [Act.put, pa, p0, p1]
  refine wt (i := 26) (oi := ⟨some 4, _, _, _, _, _⟩) (v := ?_) rfl ?_ ?_
  rotate_left
  · (intro w hSw; (try dsimp only at hSw); have hX0 := (Keep.at hSw 0 rfl).cells; go_simp; try with_reducible rfl)
  try simp only [Act.put, pa, p0, p1]
  refine wpAnyH_done (by kernel_rfl) ?_ _
  refine NoPanic.normal ?_
  have hX := (HK.out.at 0 rfl).cells
  go_upto_region 6 with fail
  clear hX
  refine wp_region_noPanic ?_
  refine wp_region_held_drew (S := fun w' => Keep w [(w.heap.size, pkV p a c, 27)] [(a, subCells p.subs)] w') (by kernel_rfl) ?_ (fun hHeld => ?_)
  · (first | exact HK.out | exact HK.out.drew | exact HK.out.drewN _)
  replace HK := Lib.hid hHeld
  refine wt (i := 3) (oi := ⟨some 42, _, _, _, _, _⟩) (v := ?_) rfl ?_ ?_
  rotate_left
  · (intro w hSw; (try dsimp only at hSw); have hX0 := (Keep.at hSw 0 rfl).cells; go_simp; try with_reducible rfl)
  try simp only [Act.put, pa, p0, p1]
  refine wt (i := 6) (oi := ⟨some 45, _, _, _, _, _⟩) (v := ?_) rfl ?_ ?_
  rotate_left
  · (intro w hSw; (try dsimp only at hSw); have hX0 := (Keep.at hSw 0 rfl).cells; go_simp; try with_reducible rfl)
  try simp only [Act.put, pa, p0, p1]
  refine wt (i := 7) (oi := ⟨some 46, _, _, _, _, _⟩) (v := ?_) rfl ?_ ?_
  rotate_left
  · (intro w hSw; (try dsimp only at hSw); have hX0 := (Keep.at hSw 0 rfl).cells; go_simp; try with_reducible rfl)
  try simp only [Act.put, pa, p0, p1]
  refine wt (i := 10) (oi := ⟨some 49, _, _, _, _, _⟩) (v := ?_) rfl ?_ ?_
  rotate_left
  · (intro w hSw; (try dsimp only at hSw); have hX0 := (Keep.at hSw 0 rfl).cells; go_simp; try with_reducible rfl)
  try simp only [Act.put, pa, p0, p1]
  refine wt (i := 11) (oi := ⟨some 50, _, _, _, _, _⟩) (v := ?_) rfl ?_ ?_
  rotate_left
  · (intro w hSw; (try dsimp only at hSw); have hX0 := (Keep.at hSw 0 rfl).cells; go_simp; try with_reducible rfl)
  try simp only [Act.put, pa, p0, p1]
  refine wpAnyH_ready (rs := [0]) (by kernel_rfl) (by simp) ?_
  refine AllReadyH.cons (o := ⟨some 39, _, _, _, _, _⟩) rfl (fun K hK => ?_) AllReadyH.nil
  go_simp
  (go_at_call 83; refine Calls.mono (CM.out _ HK.out.env) ?_; rintro e w9 ⟨rfl, hb1⟩; replace HK := Lib.hid (HK.out.below hb1); clear hb1; go_simp)
  refine hK.out _ _ ?_ (fun hHeld => ?_)
  · (first | exact HK.out | exact HK.out.drew | exact HK.out.drewN _)
  clear hK K hHeld
  have hHeld := HK.out
  try simp only [Act.put, pa, p0, p1]
  refine wpAnyH_ready (rs := [1]) (by kernel_rfl) (by simp) ?_
  refine AllReadyH.cons (o := ⟨some 40, _, _, _, _, _⟩) rfl (fun K hK => ?_) AllReadyH.nil
  go_simp
  (go_at_call 63; refine Calls.mono (CV.out _ HK.out.env) ?_; rintro e w9 ⟨rfl, hb1⟩; replace HK := Lib.hid (HK.out.below hb1); clear hb1; go_simp)
  refine hK.out _ _ ?_ (fun hHeld => ?_)
  · (first | exact HK.out | exact HK.out.drew | exact HK.out.drewN _)
  clear hK K hHeld
  have hHeld := HK.out
  try simp only [Act.put, pa, p0, p1]
  refine wt (i := 2) (oi := ⟨some 41, _, _, _, _, _⟩) (v := ?_) rfl ?_ ?_
  rotate_left
  · (intro w hSw; (try dsimp only at hSw); have hX0 := (Keep.at hSw 0 rfl).cells; go_simp; try with_reducible rfl)
  try simp only [Act.put, pa, p0, p1]
  refine wpAnyH_ready (rs := [4]) (by kernel_rfl) (by simp) ?_
  refine AllReadyH.cons (o := ⟨some 43, _, _, _, _, _⟩) rfl (fun K hK => ?_) AllReadyH.nil
  go_simp
  (go_at_call 63; refine Calls.mono (CF.out _ HK.out.env _ (by rw [hcn]; simp (disch := omega) only [wI]; push_cast; rfl)) ?_; rintro e w9 ⟨rfl, hb1⟩; replace HK := Lib.hid (HK.out.below hb1); clear hb1; go_simp)
  refine hK.out _ _ ?_ (fun hHeld => ?_)
  · (first | exact HK.out | exact HK.out.drew | exact HK.out.drewN _)
  clear hK K hHeld
  have hHeld := HK.out
  try simp only [Act.put, pa, p0, p1]
  refine wt (i := 5) (oi := ⟨some 44, _, _, _, _, _⟩) (v := ?_) rfl ?_ ?_
  rotate_left
  · (intro w hSw; (try dsimp only at hSw); have hX0 := (Keep.at hSw 0 rfl).cells; go_simp; try with_reducible rfl)
  try simp only [Act.put, pa, p0, p1]
  refine wpAnyH_ready (rs := [8]) (by kernel_rfl) (by simp) ?_
  refine AllReadyH.cons (o := ⟨some 47, _, _, _, _, _⟩) rfl (fun K hK => ?_) AllReadyH.nil
  go_simp
  (go_at_call 84; refine Calls.mono (CQ.out _ HK.out.env) ?_; rintro e w9 ⟨rfl, hb1⟩; replace HK := Lib.hid (HK.out.below hb1); clear hb1; go_simp)
  refine hK.out _ _ ?_ (fun hHeld => ?_)
  · (first | exact HK.out | exact HK.out.drew | exact HK.out.drewN _)
  clear hK K hHeld
  have hHeld := HK.out
  try simp only [Act.put, pa, p0, p1]
  refine wt (i := 9) (oi := ⟨some 48, _, _, _, _, _⟩) (v := ?_) rfl ?_ ?_
  rotate_left
  · (intro w hSw; (try dsimp only at hSw); have hX0 := (Keep.at hSw 0 rfl).cells; go_simp; try with_reducible rfl)
  try simp only [Act.put, pa, p0, p1]
  refine wpAnyH_ready (rs := [12]) (by kernel_rfl) (by simp) ?_
  refine AllReadyH.cons (o := ⟨some 51, _, _, _, _, _⟩) rfl (fun K hK => ?_) AllReadyH.nil
  go_simp
  (go_at_call 83; refine Calls.mono (CC.out _ HK.out.env) ?_; rintro e w9 ⟨rfl, hb1⟩; replace HK := Lib.hid (HK.out.below hb1); clear hb1; go_simp)
  refine hK.out _ _ ?_ (fun hHeld => ?_)
  · (first | exact HK.out | exact HK.out.drew | exact HK.out.drewN _)
  clear hK K hHeld
  have hHeld := HK.out
  try simp only [Act.put, pa, p0, p1]
  refine wt (i := 13) (oi := ⟨some 52, _, _, _, _, _⟩) (v := ?_) rfl ?_ ?_
  rotate_left
  · (intro w hSw; (try dsimp only at hSw); have hX0 := (Keep.at hSw 0 rfl).cells; go_simp; try with_reducible rfl)
  try simp only [Act.put, pa, p0, p1]
  refine wt (i := 14) (oi := ⟨some 3, _, _, _, _, _⟩) (v := ?_) rfl ?_ ?_
  rotate_left
  · (intro w hSw; (try dsimp only at hSw); have hX0 := (Keep.at hSw 0 rfl).cells; go_simp; try with_reducible rfl)
  try simp only [Act.put, pa, p0, p1]
  refine wpAnyH_done (by kernel_rfl) ?_ _
  refine NoPanic.normal ?_
  have hX := (HK.out.at 0 rfl).cells
  go_wp2_with (go_at_call 83; (with_reducible refine Calls.mono (CS.out _ HK.out.env) ?_); rintro e w1 ⟨rfl, hb1⟩; replace HK := Lib.hid (HK.out.below hb1); have hX := (HK.out.at 0 rfl).cells; clear hb1)
  go_ret
  exact FIN.out _ _ HX.out HK.out.low
set_option maxRecDepth 100000 in
set_option maxHeartbeats 8000000 in
theorem encR_1010 (p : Pk) (a : Option Addr) (c : Nat) (w : World) (hE : Env w) (hp : PkOk p) (ha : CellsA w a (subCells p.subs)) (h0 : 0 ≤ restP p) (ht : p.ty = 1) (hw : p.hasWill = false) (hu : p.hasUser = true) (hs : p.hasPass = false) : Calls Tryd.prog 61 #[.agg (pkV p a c)] w fun e w' => e = .returned (.string (bB (restB p))) ∧ Below w.heap.size w w' := by
  have FIN := Lib.hid (show ∀ (s : ByteArray) (w' : World), s = bB (restB p) → Below w.heap.size w w' → Ending.returned (.string s) = .returned (.string (bB (restB p))) ∧ Below w.heap.size w w' from by rintro s w' rfl h; exact ⟨rfl, h⟩)
  have HK := Lib.hid ((Keep.begin hE [(a, subCells p.subs)] (by intro r hr; simp at hr; subst hr; exact ha)).alloc' (pkV p a c) 27 w.heap.size rfl)
  obtain ⟨hc, _⟩ := con_parts ht h0
  obtain ⟨hl, hcl, hwo, huo, hso, hv, hz⟩ := con_fields hc
  have hcz := valid_some hcl
  rw [blen] at hcz
  have huz := valid_some hv
  rw [blen] at huz
  have hkp := hp.keep
  have hq2 : p.wqos ≤ 2 := by
    unfold willOk at hwo
    rw [hw] at hwo
    simp at hwo
    first | exact hwo.2 | (have := hwo.2.2.1; omega)
  have hcf := (flags_con p.hasUser p.hasPass p.wret p.hasWill p.clean p.wqos hq2 (conFlags p) rfl).1
  have HX := Lib.hid (show bB (dataB mqtt) ++ bB [byteN 4] ++ bB [byteN (conFlags p)] ++ bB (wordB p.keep) ++ bB (dataB p.client) ++ bB (dataB p.user) = bB (restB p) by
    unfold restB connectB
    rw [if_pos ht, hw, hu, hs, hl]
    simp only [if_true, if_false, Bool.false_eq_true, List.append_nil]
    have e1 : [byteN 4, byteN (conFlags p)] = [byteN 4] ++ [byteN (conFlags p)] := rfl
    rw [e1]
    simp only [bB_two, ByteArray.append_assoc])
  have hwc : IntKind.i64.wrap (p.wqos : Int) = (p.wqos : Int) := wrapI64 _ (by omega)
  have hcn : conFlags p = bitN true 128 + bitN false 64 + bitN p.wret 32 + 8 * p.wqos + bitN false 4 + bitN p.clean 2 := by unfold conFlags; rw [hw, hu, hs]
  have Y1 := Lib.hid (fun w1 => ref04_yes' true 128 128 rfl w1)
  have Y2 := Lib.hid (fun w1 => ref04_yes' false 64 64 rfl w1)
  have Y3 := Lib.hid (fun w1 => ref04_yes' p.wret 32 32 rfl w1)
  have Y4 := Lib.hid (fun w1 => ref04_yes' false 4 4 rfl w1)
  have Y5 := Lib.hid (fun w1 => ref04_yes' p.clean 2 2 rfl w1)
  have b1 : bitN true 128 ≤ 128 := by decide
  have b2 : bitN false 64 ≤ 64 := by decide
  have b3 : bitN p.wret 32 ≤ 32 := by unfold bitN; split <;> omega
  have b4 : bitN false 4 ≤ 4 := by decide
  have b5 : bitN p.clean 2 ≤ 2 := by unfold bitN; split <;> omega
  have CM := Lib.hid (fun w1 hE => ref04_data mqtt (by decide) w1 hE)
  have CV := Lib.hid (fun w1 hE => ref04_one' 4 4 rfl (by decide) w1 hE)
  have CF := Lib.hid (fun w1 hE z hz => ref04_one' z (conFlags p) hz hcf w1 hE)
  have CQ := Lib.hid (fun w1 hE => ref04_word p.keep (by omega) w1 hE)
  have CC := Lib.hid (fun w1 hE => ref04_data p.client hcz w1 hE)
  have CU := Lib.hid (fun w1 hE => ref04_data p.user huz w1 hE)
  have zM : (bB (dataB mqtt)).size ≤ 65537 := by
    have e : (bB (dataB mqtt)).size = (dataB mqtt).length := rfl
    have := (show mqtt.size ≤ 65535 by decide)
    rw [e, dataB_len]; omega
  have zV : (bB [byteN 4]).size ≤ 65537 := by
    have e : (bB [byteN 4]).size = 1 := rfl
    omega
  have zF : (bB [byteN (conFlags p)]).size ≤ 65537 := by
    have e : (bB [byteN (conFlags p)]).size = 1 := rfl
    omega
  have zQ : (bB (wordB p.keep)).size ≤ 65537 := by
    have e : (bB (wordB p.keep)).size = 2 := rfl
    omega
  have zC : (bB (dataB p.client)).size ≤ 65537 := by
    have e : (bB (dataB p.client)).size = (dataB p.client).length := rfl
    have := hcz
    rw [e, dataB_len]; omega
  have zU : (bB (dataB p.user)).size ≤ 65537 := by
    have e : (bB (dataB p.user)).size = (dataB p.user).length := rfl
    have := huz
    rw [e, dataB_len]; omega
  generalize bB (dataB mqtt) = DM at *
  generalize bB [byteN 4] = DV at *
  generalize bB [byteN (conFlags p)] = DF at *
  generalize bB (wordB p.keep) = DQ at *
  generalize bB (dataB p.client) = DC at *
  generalize bB (dataB p.user) = DU at *
  generalize conFlags p = cf at *
  generalize bitN true 128 = x1 at *
  generalize bitN false 64 = x2 at *
  generalize bitN p.wret 32 = x3 at *
  generalize bitN false 4 = x4 at *
  generalize bitN p.clean 2 = x5 at *
  have g1 : ¬ 9223372036854775807 < DM.size + DV.size := by omega
  have g2 : ¬ 9223372036854775807 < DM.size + DV.size + DF.size := by omega
  have g3 : ¬ 9223372036854775807 < DM.size + DV.size + DF.size + DQ.size := by omega
  have g4 : ¬ 9223372036854775807 < DM.size + DV.size + DF.size + DQ.size + DC.size := by omega
  have g5 : ¬ 9223372036854775807 < DM.size + DV.size + DF.size + DQ.size + DC.size + DU.size := by omega
  obtain ⟨k0, k1, k2, k3, k4, k5, k6, k7, k8, k9, k10, k11, k12, k13, k14, k15, k16, k17, k18, k19, k20, k21, k22, k23⟩ := pk_at p a c
  replace k0 : (pkV p a c)[0]? = some (.int .u8 1) := by rw [k0, ht]; rfl
  rw [hw] at k11
  rw [hu] at k16
  rw [hs] at k17
  clear hE ha hp h0 hc hl hcl hwo huo hso hv hcz huz hz hw hu hs
  go_enter Tryd.func61, Tryd.ntmps61
  go_upto_region 1 with fail
  show Code.wp _ _ _ _ (w.alloc (.cells (pkV p a c) 27))
  generalize World.alloc w _ = w2 at HK ⊢
  have hX := (HK.out.at 0 rfl).cells
  go_upto_region 5 with fail
  clear hX
  refine wp_region_noPanic ?_
  refine wp_region_held_drew (S := fun w' => Keep w [(w.heap.size, pkV p a c, 27)] [(a, subCells p.subs)] w') (by kernel_rfl) ?_ (fun hHeld => ?_)
  · (first | exact HK.out | exact HK.out.drew | exact HK.out.drewN _)
  replace HK := Lib.hid hHeld
  refine wt (i := 0) (oi := ⟨some 13, _, _, _, _, _⟩) (v := ?_) rfl ?_ ?_
  rotate_left
  · (intro w hSw; (try dsimp only at hSw); have hX0 := (Keep.at hSw 0 rfl).cells; go_simp; try with_reducible rfl)
  try simp only [Act.put, pa, p0, p1]
  refine wt (i := 1) (oi := ⟨some 14, _, _, _, _, _⟩) (v := ?_) rfl ?_ ?_
  rotate_left
  · (intro w hSw; (try dsimp only at hSw); have hX0 := (Keep.at hSw 0 rfl).cells; go_simp; try with_reducible rfl)
  try simp only [Act.put, pa, p0, p1]
  refine wt (i := 3) (oi := ⟨some 16, _, _, _, _, _⟩) (v := ?_) rfl ?_ ?_
  rotate_left
  · (intro w hSw; (try dsimp only at hSw); have hX0 := (Keep.at hSw 0 rfl).cells; go_simp; try with_reducible rfl)
  try simp only [Act.put, pa, p0, p1]
  refine wt (i := 4) (oi := ⟨some 17, _, _, _, _, _⟩) (v := ?_) rfl ?_ ?_
  rotate_left
  · (intro w hSw; (try dsimp only at hSw); have hX0 := (Keep.at hSw 0 rfl).cells; go_simp; try with_reducible rfl)
  try simp only [Act.put, pa, p0, p1]
  refine wt (i := 7) (oi := ⟨some 20, _, _, _, _, _⟩) (v := ?_) rfl ?_ ?_
  rotate_left
  · (intro w hSw; (try dsimp only at hSw); have hX0 := (Keep.at hSw 0 rfl).cells; go_simp; try with_reducible rfl)
  try simp only [Act.put, pa, p0, p1]
  refine wt (i := 8) (oi := ⟨some 21, _, _, _, _, _⟩) (v := ?_) rfl ?_ ?_
  rotate_left
  · (intro w hSw; (try dsimp only at hSw); have hX0 := (Keep.at hSw 0 rfl).cells; go_simp; try with_reducible rfl)
  try simp only [Act.put, pa, p0, p1]
  refine wt (i := 9) (oi := ⟨some 22, _, _, _, _, _⟩) (v := ?_) rfl ?_ ?_
  rotate_left
  · (intro w hSw; (try dsimp only at hSw); have hX0 := (Keep.at hSw 0 rfl).cells; go_simp; try with_reducible rfl)
  try simp only [Act.put, pa, p0, p1]
  refine wt (i := 12) (oi := ⟨some 25, _, _, _, _, _⟩) (v := ?_) rfl ?_ ?_
  rotate_left
  · (intro w hSw; (try dsimp only at hSw); have hX0 := (Keep.at hSw 0 rfl).cells; go_simp; try with_reducible rfl)
  try simp only [Act.put, pa, p0, p1]
  refine wt (i := 13) (oi := ⟨some 26, _, _, _, _, _⟩) (v := ?_) rfl ?_ ?_
  rotate_left
  · (intro w hSw; (try dsimp only at hSw); have hX0 := (Keep.at hSw 0 rfl).cells; go_simp; try with_reducible rfl)
  try simp only [Act.put, pa, p0, p1]
  refine wt (i := 14) (oi := ⟨some 27, _, _, _, _, _⟩) (v := ?_) rfl ?_ ?_
  rotate_left
  · (intro w hSw; (try dsimp only at hSw); have hX0 := (Keep.at hSw 0 rfl).cells; go_simp; try with_reducible rfl)
  try simp only [Act.put, pa, p0, p1]
  refine wt (i := 15) (oi := ⟨some 28, _, _, _, _, _⟩) (v := ?_) rfl ?_ ?_
  rotate_left
  · (intro w hSw; (try dsimp only at hSw); have hX0 := (Keep.at hSw 0 rfl).cells; go_simp; try with_reducible rfl)
  try simp only [Act.put, pa, p0, p1]
  refine wt (i := 16) (oi := ⟨some 29, _, _, _, _, _⟩) (v := ?_) rfl ?_ ?_
  rotate_left
  · (intro w hSw; (try dsimp only at hSw); have hX0 := (Keep.at hSw 0 rfl).cells; go_simp; try with_reducible rfl)
  try simp only [Act.put, pa, p0, p1]
  refine wt (i := 18) (oi := ⟨some 31, _, _, _, _, _⟩) (v := ?_) rfl ?_ ?_
  rotate_left
  · (intro w hSw; (try dsimp only at hSw); have hX0 := (Keep.at hSw 0 rfl).cells; go_simp; try with_reducible rfl)
  try simp only [Act.put, pa, p0, p1]
  refine wt (i := 19) (oi := ⟨some 32, _, _, _, _, _⟩) (v := ?_) rfl ?_ ?_
  rotate_left
  · (intro w hSw; (try dsimp only at hSw); have hX0 := (Keep.at hSw 0 rfl).cells; go_simp; try with_reducible rfl)
  try simp only [Act.put, pa, p0, p1]
  refine wt (i := 22) (oi := ⟨some 35, _, _, _, _, _⟩) (v := ?_) rfl ?_ ?_
  rotate_left
  · (intro w hSw; (try dsimp only at hSw); have hX0 := (Keep.at hSw 0 rfl).cells; go_simp; try with_reducible rfl)
  try simp only [Act.put, pa, p0, p1]
  refine wt (i := 23) (oi := ⟨some 36, _, _, _, _, _⟩) (v := ?_) rfl ?_ ?_
  rotate_left
  · (intro w hSw; (try dsimp only at hSw); have hX0 := (Keep.at hSw 0 rfl).cells; go_simp; try with_reducible rfl)
  try simp only [Act.put, pa, p0, p1]
  refine wpAnyH_ready (rs := [2]) (by kernel_rfl) (by simp) ?_
  refine AllReadyH.cons (o := ⟨some 15, _, _, _, _, _⟩) rfl (fun K hK => ?_) AllReadyH.nil
  go_simp
  (go_at_call 82; refine Calls.mono (Y1.out _) ?_; rintro e w9 ⟨rfl, hb1⟩; replace HK := Lib.hid (HK.out.below hb1); clear hb1; go_simp)
  refine hK.out _ _ ?_ (fun hHeld => ?_)
  · (first | exact HK.out | exact HK.out.drew | exact HK.out.drewN _)
  clear hK K hHeld
  have hHeld := HK.out
  try simp only [Act.put, pa, p0, p1]
  refine wpAnyH_ready (rs := [5]) (by kernel_rfl) (by simp) ?_
  refine AllReadyH.cons (o := ⟨some 18, _, _, _, _, _⟩) rfl (fun K hK => ?_) AllReadyH.nil
  go_simp
  (go_at_call 82; refine Calls.mono (Y2.out _) ?_; rintro e w9 ⟨rfl, hb1⟩; replace HK := Lib.hid (HK.out.below hb1); clear hb1; go_simp)
  refine hK.out _ _ ?_ (fun hHeld => ?_)
  · (first | exact HK.out | exact HK.out.drew | exact HK.out.drewN _)
  clear hK K hHeld
  have hHeld := HK.out
  try simp only [Act.put, pa, p0, p1]
  refine wt (i := 6) (oi := ⟨some 19, _, _, _, _, _⟩) (v := ?_) rfl ?_ ?_
  rotate_left
  · (intro w hSw; (try dsimp only at hSw); have hX0 := (Keep.at hSw 0 rfl).cells; go_simp; try with_reducible rfl)
  try simp only [Act.put, pa, p0, p1]
  refine wpAnyH_ready (rs := [10]) (by kernel_rfl) (by simp) ?_
  refine AllReadyH.cons (o := ⟨some 23, _, _, _, _, _⟩) rfl (fun K hK => ?_) AllReadyH.nil
  go_simp
  (go_at_call 82; refine Calls.mono (Y3.out _) ?_; rintro e w9 ⟨rfl, hb1⟩; replace HK := Lib.hid (HK.out.below hb1); clear hb1; go_simp)
  refine hK.out _ _ ?_ (fun hHeld => ?_)
  · (first | exact HK.out | exact HK.out.drew | exact HK.out.drewN _)
  clear hK K hHeld
  have hHeld := HK.out
  try simp only [Act.put, pa, p0, p1]
  refine wt (i := 11) (oi := ⟨some 24, _, _, _, _, _⟩) (v := ?_) rfl ?_ ?_
  rotate_left
  · (intro w hSw; (try dsimp only at hSw); have hX0 := (Keep.at hSw 0 rfl).cells; go_simp; try with_reducible rfl)
  try simp only [Act.put, pa, p0, p1]
  refine wt (i := 17) (oi := ⟨some 30, _, _, _, _, _⟩) (v := ?_) rfl ?_ ?_
  rotate_left
  · (intro w hSw; (try dsimp only at hSw); have hX0 := (Keep.at hSw 0 rfl).cells; go_simp; try with_reducible rfl)
  try simp only [Act.put, pa, p0, p1]
  refine wpAnyH_ready (rs := [20]) (by kernel_rfl) (by simp) ?_
  refine AllReadyH.cons (o := ⟨some 33, _, _, _, _, _⟩) rfl (fun K hK => ?_) AllReadyH.nil
  go_simp
  (go_at_call 82; refine Calls.mono (Y4.out _) ?_; rintro e w9 ⟨rfl, hb1⟩; replace HK := Lib.hid (HK.out.below hb1); clear hb1; go_simp)
  refine hK.out _ _ ?_ (fun hHeld => ?_)
  · (first | exact HK.out | exact HK.out.drew | exact HK.out.drewN _)
  clear hK K hHeld
  have hHeld := HK.out
  try simp only [Act.put, pa, p0, p1]
  refine wt (i := 21) (oi := ⟨some 34, _, _, _, _, _⟩) (v := ?_) rfl ?_ ?_
  rotate_left
  · (intro w hSw; (try dsimp only at hSw); have hX0 := (Keep.at hSw 0 rfl).cells; go_simp; try with_reducible rfl)
  try simp only [Act.put, pa, p0, p1]
  refine wpAnyH_ready (rs := [24]) (by kernel_rfl) (by simp) ?_
  refine AllReadyH.cons (o := ⟨some 37, _, _, _, _, _⟩) rfl (fun K hK => ?_) AllReadyH.nil
  go_simp
  (go_at_call 82; refine Calls.mono (Y5.out _) ?_; rintro e w9 ⟨rfl, hb1⟩; replace HK := Lib.hid (HK.out.below hb1); clear hb1; go_simp)
  refine hK.out _ _ ?_ (fun hHeld => ?_)
  · (first | exact HK.out | exact HK.out.drew | exact HK.out.drewN _)
  clear hK K hHeld
  have hHeld := HK.out
  try simp only [Act.put, pa, p0, p1]
  refine wt (i := 25) (oi := ⟨some 38, _, _, _, _, _⟩) (v := ?_) rfl ?_ ?_
  rotate_left
  · (intro w hSw; (try dsimp only at hSw); have hX0 := (Keep.at hSw 0 rfl).cells; go_simp; try with_reducible rfl)
  try simp only [Act.put, pa, p0, p1]
  refine wt (i := 26) (oi := ⟨some 4, _, _, _, _, _⟩) (v := ?_) rfl ?_ ?_
  rotate_left
  · (intro w hSw; (try dsimp only at hSw); have hX0 := (Keep.at hSw 0 rfl).cells; go_simp; try with_reducible rfl)
  try simp only [Act.put, pa, p0, p1]
  refine wpAnyH_done (by kernel_rfl) ?_ _
  refine NoPanic.normal ?_
  have hX := (HK.out.at 0 rfl).cells
  go_upto_region 6 with fail
  clear hX
  refine wp_region_noPanic ?_
  refine wp_region_held_drew (S := fun w' => Keep w [(w.heap.size, pkV p a c, 27)] [(a, subCells p.subs)] w') (by kernel_rfl) ?_ (fun hHeld => ?_)
  · (first | exact HK.out | exact HK.out.drew | exact HK.out.drewN _)
  replace HK := Lib.hid hHeld
  refine wt (i := 3) (oi := ⟨some 42, _, _, _, _, _⟩) (v := ?_) rfl ?_ ?_
  rotate_left
  · (intro w hSw; (try dsimp only at hSw); have hX0 := (Keep.at hSw 0 rfl).cells; go_simp; try with_reducible rfl)
  try simp only [Act.put, pa, p0, p1]
  refine wt (i := 6) (oi := ⟨some 45, _, _, _, _, _⟩) (v := ?_) rfl ?_ ?_
  rotate_left
  · (intro w hSw; (try dsimp only at hSw); have hX0 := (Keep.at hSw 0 rfl).cells; go_simp; try with_reducible rfl)
  try simp only [Act.put, pa, p0, p1]
  refine wt (i := 7) (oi := ⟨some 46, _, _, _, _, _⟩) (v := ?_) rfl ?_ ?_
  rotate_left
  · (intro w hSw; (try dsimp only at hSw); have hX0 := (Keep.at hSw 0 rfl).cells; go_simp; try with_reducible rfl)
  try simp only [Act.put, pa, p0, p1]
  refine wt (i := 10) (oi := ⟨some 49, _, _, _, _, _⟩) (v := ?_) rfl ?_ ?_
  rotate_left
  · (intro w hSw; (try dsimp only at hSw); have hX0 := (Keep.at hSw 0 rfl).cells; go_simp; try with_reducible rfl)
  try simp only [Act.put, pa, p0, p1]
  refine wt (i := 11) (oi := ⟨some 50, _, _, _, _, _⟩) (v := ?_) rfl ?_ ?_
  rotate_left
  · (intro w hSw; (try dsimp only at hSw); have hX0 := (Keep.at hSw 0 rfl).cells; go_simp; try with_reducible rfl)
  try simp only [Act.put, pa, p0, p1]
  refine wpAnyH_ready (rs := [0]) (by kernel_rfl) (by simp) ?_
  refine AllReadyH.cons (o := ⟨some 39, _, _, _, _, _⟩) rfl (fun K hK => ?_) AllReadyH.nil
  go_simp
  (go_at_call 83; refine Calls.mono (CM.out _ HK.out.env) ?_; rintro e w9 ⟨rfl, hb1⟩; replace HK := Lib.hid (HK.out.below hb1); clear hb1; go_simp)
  refine hK.out _ _ ?_ (fun hHeld => ?_)
  · (first | exact HK.out | exact HK.out.drew | exact HK.out.drewN _)
  clear hK K hHeld
  have hHeld := HK.out
  try simp only [Act.put, pa, p0, p1]
  refine wpAnyH_ready (rs := [1]) (by kernel_rfl) (by simp) ?_
  refine AllReadyH.cons (o := ⟨some 40, _, _, _, _, _⟩) rfl (fun K hK => ?_) AllReadyH.nil
  go_simp
  (go_at_call 63; refine Calls.mono (CV.out _ HK.out.env) ?_; rintro e w9 ⟨rfl, hb1⟩; replace HK := Lib.hid (HK.out.below hb1); clear hb1; go_simp)
  refine hK.out _ _ ?_ (fun hHeld => ?_)
  · (first | exact HK.out | exact HK.out.drew | exact HK.out.drewN _)
  clear hK K hHeld
  have hHeld := HK.out
  try simp only [Act.put, pa, p0, p1]
  refine wt (i := 2) (oi := ⟨some 41, _, _, _, _, _⟩) (v := ?_) rfl ?_ ?_
  rotate_left
  · (intro w hSw; (try dsimp only at hSw); have hX0 := (Keep.at hSw 0 rfl).cells; go_simp; try with_reducible rfl)
  try simp only [Act.put, pa, p0, p1]
  refine wpAnyH_ready (rs := [4]) (by kernel_rfl) (by simp) ?_
  refine AllReadyH.cons (o := ⟨some 43, _, _, _, _, _⟩) rfl (fun K hK => ?_) AllReadyH.nil
  go_simp
  (go_at_call 63; refine Calls.mono (CF.out _ HK.out.env _ (by rw [hcn]; simp (disch := omega) only [wI]; push_cast; rfl)) ?_; rintro e w9 ⟨rfl, hb1⟩; replace HK := Lib.hid (HK.out.below hb1); clear hb1; go_simp)
  refine hK.out _ _ ?_ (fun hHeld => ?_)
  · (first | exact HK.out | exact HK.out.drew | exact HK.out.drewN _)
  clear hK K hHeld
  have hHeld := HK.out
  try simp only [Act.put, pa, p0, p1]
  refine wt (i := 5) (oi := ⟨some 44, _, _, _, _, _⟩) (v := ?_) rfl ?_ ?_
  rotate_left
  · (intro w hSw; (try dsimp only at hSw); have hX0 := (Keep.at hSw 0 rfl).cells; go_simp; try with_reducible rfl)
  try simp only [Act.put, pa, p0, p1]
  refine wpAnyH_ready (rs := [8]) (by kernel_rfl) (by simp) ?_
  refine AllReadyH.cons (o := ⟨some 47, _, _, _, _, _⟩) rfl (fun K hK => ?_) AllReadyH.nil
  go_simp
  (go_at_call 84; refine Calls.mono (CQ.out _ HK.out.env) ?_; rintro e w9 ⟨rfl, hb1⟩; replace HK := Lib.hid (HK.out.below hb1); clear hb1; go_simp)
  refine hK.out _ _ ?_ (fun hHeld => ?_)
  · (first | exact HK.out | exact HK.out.drew | exact HK.out.drewN _)
  clear hK K hHeld
  have hHeld := HK.out
  try simp only [Act.put, pa, p0, p1]
  refine wt (i := 9) (oi := ⟨some 48, _, _, _, _, _⟩) (v := ?_) rfl ?_ ?_
  rotate_left
  · (intro w hSw; (try dsimp only at hSw); have hX0 := (Keep.at hSw 0 rfl).cells; go_simp; try with_reducible rfl)
  try simp only [Act.put, pa, p0, p1]
  refine wpAnyH_ready (rs := [12]) (by kernel_rfl) (by simp) ?_
  refine AllReadyH.cons (o := ⟨some 51, _, _, _, _, _⟩) rfl (fun K hK => ?_) AllReadyH.nil
  go_simp
  (go_at_call 83; refine Calls.mono (CC.out _ HK.out.env) ?_; rintro e w9 ⟨rfl, hb1⟩; replace HK := Lib.hid (HK.out.below hb1); clear hb1; go_simp)
  refine hK.out _ _ ?_ (fun hHeld => ?_)
  · (first | exact HK.out | exact HK.out.drew | exact HK.out.drewN _)
  clear hK K hHeld
  have hHeld := HK.out
  try simp only [Act.put, pa, p0, p1]
  refine wt (i := 13) (oi := ⟨some 52, _, _, _, _, _⟩) (v := ?_) rfl ?_ ?_
  rotate_left
  · (intro w hSw; (try dsimp only at hSw); have hX0 := (Keep.at hSw 0 rfl).cells; go_simp; try with_reducible rfl)
  try simp only [Act.put, pa, p0, p1]
  refine wt (i := 14) (oi := ⟨some 3, _, _, _, _, _⟩) (v := ?_) rfl ?_ ?_
  rotate_left
  · (intro w hSw; (try dsimp only at hSw); have hX0 := (Keep.at hSw 0 rfl).cells; go_simp; try with_reducible rfl)
  try simp only [Act.put, pa, p0, p1]
  refine wpAnyH_done (by kernel_rfl) ?_ _
  refine NoPanic.normal ?_
  have hX := (HK.out.at 0 rfl).cells
  go_wp2_with (go_at_call 83; (with_reducible refine Calls.mono (CU.out _ HK.out.env) ?_); rintro e w1 ⟨rfl, hb1⟩; replace HK := Lib.hid (HK.out.below hb1); have hX := (HK.out.at 0 rfl).cells; clear hb1)
  go_ret
  exact FIN.out _ _ HX.out HK.out.low
set_option maxRecDepth 100000 in
set_option maxHeartbeats 8000000 in
theorem encR_1011 (p : Pk) (a : Option Addr) (c : Nat) (w : World) (hE : Env w) (hp : PkOk p) (ha : CellsA w a (subCells p.subs)) (h0 : 0 ≤ restP p) (ht : p.ty = 1) (hw : p.hasWill = false) (hu : p.hasUser = true) (hs : p.hasPass = true) : Calls Tryd.prog 61 #[.agg (pkV p a c)] w fun e w' => e = .returned (.string (bB (restB p))) ∧ Below w.heap.size w w' := by
  have FIN := Lib.hid (show ∀ (s : ByteArray) (w' : World), s = bB (restB p) → Below w.heap.size w w' → Ending.returned (.string s) = .returned (.string (bB (restB p))) ∧ Below w.heap.size w w' from by rintro s w' rfl h; exact ⟨rfl, h⟩)
  have HK := Lib.hid ((Keep.begin hE [(a, subCells p.subs)] (by intro r hr; simp at hr; subst hr; exact ha)).alloc' (pkV p a c) 27 w.heap.size rfl)
  obtain ⟨hc, _⟩ := con_parts ht h0
  obtain ⟨hl, hcl, hwo, huo, hso, hv, hz⟩ := con_fields hc
  have hcz := valid_some hcl
  rw [blen] at hcz
  have huz := valid_some hv
  rw [blen] at huz
  have hkp := hp.keep
  have hq2 : p.wqos ≤ 2 := by
    unfold willOk at hwo
    rw [hw] at hwo
    simp at hwo
    first | exact hwo.2 | (have := hwo.2.2.1; omega)
  have hcf := (flags_con p.hasUser p.hasPass p.wret p.hasWill p.clean p.wqos hq2 (conFlags p) rfl).1
  have HX := Lib.hid (show bB (dataB mqtt) ++ bB [byteN 4] ++ bB [byteN (conFlags p)] ++ bB (wordB p.keep) ++ bB (dataB p.client) ++ bB (dataB p.user) ++ bB (dataB p.pass) = bB (restB p) by
    unfold restB connectB
    rw [if_pos ht, hw, hu, hs, hl]
    simp only [if_true, if_false, Bool.false_eq_true, List.append_nil]
    have e1 : [byteN 4, byteN (conFlags p)] = [byteN 4] ++ [byteN (conFlags p)] := rfl
    rw [e1]
    simp only [bB_two, ByteArray.append_assoc])
  have hwc : IntKind.i64.wrap (p.wqos : Int) = (p.wqos : Int) := wrapI64 _ (by omega)
  have hcn : conFlags p = bitN true 128 + bitN true 64 + bitN p.wret 32 + 8 * p.wqos + bitN false 4 + bitN p.clean 2 := by unfold conFlags; rw [hw, hu, hs]
  have Y1 := Lib.hid (fun w1 => ref04_yes' true 128 128 rfl w1)
  have Y2 := Lib.hid (fun w1 => ref04_yes' true 64 64 rfl w1)
  have Y3 := Lib.hid (fun w1 => ref04_yes' p.wret 32 32 rfl w1)
  have Y4 := Lib.hid (fun w1 => ref04_yes' false 4 4 rfl w1)
  have Y5 := Lib.hid (fun w1 => ref04_yes' p.clean 2 2 rfl w1)
  have b1 : bitN true 128 ≤ 128 := by decide
  have b2 : bitN true 64 ≤ 64 := by decide
  have b3 : bitN p.wret 32 ≤ 32 := by unfold bitN; split <;> omega
  have b4 : bitN false 4 ≤ 4 := by decide
  have b5 : bitN p.clean 2 ≤ 2 := by unfold bitN; split <;> omega
  have CM := Lib.hid (fun w1 hE => ref04_data mqtt (by decide) w1 hE)
  have CV := Lib.hid (fun w1 hE => ref04_one' 4 4 rfl (by decide) w1 hE)
  have CF := Lib.hid (fun w1 hE z hz => ref04_one' z (conFlags p) hz hcf w1 hE)
  have CQ := Lib.hid (fun w1 hE => ref04_word p.keep (by omega) w1 hE)
  have CC := Lib.hid (fun w1 hE => ref04_data p.client hcz w1 hE)
  have CU := Lib.hid (fun w1 hE => ref04_data p.user huz w1 hE)
  have CS := Lib.hid (fun w1 hE => ref04_data p.pass hz w1 hE)
  have zM : (bB (dataB mqtt)).size ≤ 65537 := by
    have e : (bB (dataB mqtt)).size = (dataB mqtt).length := rfl
    have := (show mqtt.size ≤ 65535 by decide)
    rw [e, dataB_len]; omega
  have zV : (bB [byteN 4]).size ≤ 65537 := by
    have e : (bB [byteN 4]).size = 1 := rfl
    omega
  have zF : (bB [byteN (conFlags p)]).size ≤ 65537 := by
    have e : (bB [byteN (conFlags p)]).size = 1 := rfl
    omega
  have zQ : (bB (wordB p.keep)).size ≤ 65537 := by
    have e : (bB (wordB p.keep)).size = 2 := rfl
    omega
  have zC : (bB (dataB p.client)).size ≤ 65537 := by
    have e : (bB (dataB p.client)).size = (dataB p.client).length := rfl
    have := hcz
    rw [e, dataB_len]; omega
  have zU : (bB (dataB p.user)).size ≤ 65537 := by
    have e : (bB (dataB p.user)).size = (dataB p.user).length := rfl
    have := huz
    rw [e, dataB_len]; omega
  have zS : (bB (dataB p.pass)).size ≤ 65537 := by
    have e : (bB (dataB p.pass)).size = (dataB p.pass).length := rfl
    have := hz
    rw [e, dataB_len]; omega
  generalize bB (dataB mqtt) = DM at *
  generalize bB [byteN 4] = DV at *
  generalize bB [byteN (conFlags p)] = DF at *
  generalize bB (wordB p.keep) = DQ at *
  generalize bB (dataB p.client) = DC at *
  generalize bB (dataB p.user) = DU at *
  generalize bB (dataB p.pass) = DS at *
  generalize conFlags p = cf at *
  generalize bitN true 128 = x1 at *
  generalize bitN true 64 = x2 at *
  generalize bitN p.wret 32 = x3 at *
  generalize bitN false 4 = x4 at *
  generalize bitN p.clean 2 = x5 at *
  have g1 : ¬ 9223372036854775807 < DM.size + DV.size := by omega
  have g2 : ¬ 9223372036854775807 < DM.size + DV.size + DF.size := by omega
  have g3 : ¬ 9223372036854775807 < DM.size + DV.size + DF.size + DQ.size := by omega
  have g4 : ¬ 9223372036854775807 < DM.size + DV.size + DF.size + DQ.size + DC.size := by omega
  have g5 : ¬ 9223372036854775807 < DM.size + DV.size + DF.size + DQ.size + DC.size + DU.size := by omega
  have g6 : ¬ 9223372036854775807 < DM.size + DV.size + DF.size + DQ.size + DC.size + DU.size + DS.size := by omega
  obtain ⟨k0, k1, k2, k3, k4, k5, k6, k7, k8, k9, k10, k11, k12, k13, k14, k15, k16, k17, k18, k19, k20, k21, k22, k23⟩ := pk_at p a c
  replace k0 : (pkV p a c)[0]? = some (.int .u8 1) := by rw [k0, ht]; rfl
  rw [hw] at k11
  rw [hu] at k16
  rw [hs] at k17
  clear hE ha hp h0 hc hl hcl hwo huo hso hv hcz huz hz hw hu hs
  go_enter Tryd.func61, Tryd.ntmps61
  go_upto_region 1 with fail
  show Code.wp _ _ _ _ (w.alloc (.cells (pkV p a c) 27))
  generalize World.alloc w _ = w2 at HK ⊢
  have hX := (HK.out.at 0 rfl).cells
  go_upto_region 5 with fail
  clear hX
  refine wp_region_noPanic ?_
  refine wp_region_held_drew (S := fun w' => Keep w [(w.heap.size, pkV p a c, 27)] [(a, subCells p.subs)] w') (by kernel_rfl) ?_ (fun hHeld => ?_)
  · (first | exact HK.out | exact HK.out.drew | exact HK.out.drewN _)
  replace HK := Lib.hid hHeld
  refine wt (i := 0) (oi := ⟨some 13, _, _, _, _, _⟩) (v := ?_) rfl ?_ ?_
  rotate_left
  · (intro w hSw; (try dsimp only at hSw); have hX0 := (Keep.at hSw 0 rfl).cells; go_simp; try with_reducible rfl)
  try simp only [Act.put, pa, p0, p1]
  refine wt (i := 1) (oi := ⟨some 14, _, _, _, _, _⟩) (v := ?_) rfl ?_ ?_
  rotate_left
  · (intro w hSw; (try dsimp only at hSw); have hX0 := (Keep.at hSw 0 rfl).cells; go_simp; try with_reducible rfl)
  try simp only [Act.put, pa, p0, p1]
  refine wt (i := 3) (oi := ⟨some 16, _, _, _, _, _⟩) (v := ?_) rfl ?_ ?_
  rotate_left
  · (intro w hSw; (try dsimp only at hSw); have hX0 := (Keep.at hSw 0 rfl).cells; go_simp; try with_reducible rfl)
  try simp only [Act.put, pa, p0, p1]
  refine wt (i := 4) (oi := ⟨some 17, _, _, _, _, _⟩) (v := ?_) rfl ?_ ?_
  rotate_left
  · (intro w hSw; (try dsimp only at hSw); have hX0 := (Keep.at hSw 0 rfl).cells; go_simp; try with_reducible rfl)
  try simp only [Act.put, pa, p0, p1]
  refine wt (i := 7) (oi := ⟨some 20, _, _, _, _, _⟩) (v := ?_) rfl ?_ ?_
  rotate_left
  · (intro w hSw; (try dsimp only at hSw); have hX0 := (Keep.at hSw 0 rfl).cells; go_simp; try with_reducible rfl)
  try simp only [Act.put, pa, p0, p1]
  refine wt (i := 8) (oi := ⟨some 21, _, _, _, _, _⟩) (v := ?_) rfl ?_ ?_
  rotate_left
  · (intro w hSw; (try dsimp only at hSw); have hX0 := (Keep.at hSw 0 rfl).cells; go_simp; try with_reducible rfl)
  try simp only [Act.put, pa, p0, p1]
  refine wt (i := 9) (oi := ⟨some 22, _, _, _, _, _⟩) (v := ?_) rfl ?_ ?_
  rotate_left
  · (intro w hSw; (try dsimp only at hSw); have hX0 := (Keep.at hSw 0 rfl).cells; go_simp; try with_reducible rfl)
  try simp only [Act.put, pa, p0, p1]
  refine wt (i := 12) (oi := ⟨some 25, _, _, _, _, _⟩) (v := ?_) rfl ?_ ?_
  rotate_left
  · (intro w hSw; (try dsimp only at hSw); have hX0 := (Keep.at hSw 0 rfl).cells; go_simp; try with_reducible rfl)
  try simp only [Act.put, pa, p0, p1]
  refine wt (i := 13) (oi := ⟨some 26, _, _, _, _, _⟩) (v := ?_) rfl ?_ ?_
  rotate_left
  · (intro w hSw; (try dsimp only at hSw); have hX0 := (Keep.at hSw 0 rfl).cells; go_simp; try with_reducible rfl)
  try simp only [Act.put, pa, p0, p1]
  refine wt (i := 14) (oi := ⟨some 27, _, _, _, _, _⟩) (v := ?_) rfl ?_ ?_
  rotate_left
  · (intro w hSw; (try dsimp only at hSw); have hX0 := (Keep.at hSw 0 rfl).cells; go_simp; try with_reducible rfl)
  try simp only [Act.put, pa, p0, p1]
  refine wt (i := 15) (oi := ⟨some 28, _, _, _, _, _⟩) (v := ?_) rfl ?_ ?_
  rotate_left
  · (intro w hSw; (try dsimp only at hSw); have hX0 := (Keep.at hSw 0 rfl).cells; go_simp; try with_reducible rfl)
  try simp only [Act.put, pa, p0, p1]
  refine wt (i := 16) (oi := ⟨some 29, _, _, _, _, _⟩) (v := ?_) rfl ?_ ?_
  rotate_left
  · (intro w hSw; (try dsimp only at hSw); have hX0 := (Keep.at hSw 0 rfl).cells; go_simp; try with_reducible rfl)
  try simp only [Act.put, pa, p0, p1]
  refine wt (i := 18) (oi := ⟨some 31, _, _, _, _, _⟩) (v := ?_) rfl ?_ ?_
  rotate_left
  · (intro w hSw; (try dsimp only at hSw); have hX0 := (Keep.at hSw 0 rfl).cells; go_simp; try with_reducible rfl)
  try simp only [Act.put, pa, p0, p1]
  refine wt (i := 19) (oi := ⟨some 32, _, _, _, _, _⟩) (v := ?_) rfl ?_ ?_
  rotate_left
  · (intro w hSw; (try dsimp only at hSw); have hX0 := (Keep.at hSw 0 rfl).cells; go_simp; try with_reducible rfl)
  try simp only [Act.put, pa, p0, p1]
  refine wt (i := 22) (oi := ⟨some 35, _, _, _, _, _⟩) (v := ?_) rfl ?_ ?_
  rotate_left
  · (intro w hSw; (try dsimp only at hSw); have hX0 := (Keep.at hSw 0 rfl).cells; go_simp; try with_reducible rfl)
  try simp only [Act.put, pa, p0, p1]
  refine wt (i := 23) (oi := ⟨some 36, _, _, _, _, _⟩) (v := ?_) rfl ?_ ?_
  rotate_left
  · (intro w hSw; (try dsimp only at hSw); have hX0 := (Keep.at hSw 0 rfl).cells; go_simp; try with_reducible rfl)
  try simp only [Act.put, pa, p0, p1]
  refine wpAnyH_ready (rs := [2]) (by kernel_rfl) (by simp) ?_
  refine AllReadyH.cons (o := ⟨some 15, _, _, _, _, _⟩) rfl (fun K hK => ?_) AllReadyH.nil
  go_simp
  (go_at_call 82; refine Calls.mono (Y1.out _) ?_; rintro e w9 ⟨rfl, hb1⟩; replace HK := Lib.hid (HK.out.below hb1); clear hb1; go_simp)
  refine hK.out _ _ ?_ (fun hHeld => ?_)
  · (first | exact HK.out | exact HK.out.drew | exact HK.out.drewN _)
  clear hK K hHeld
  have hHeld := HK.out
  try simp only [Act.put, pa, p0, p1]
  refine wpAnyH_ready (rs := [5]) (by kernel_rfl) (by simp) ?_
  refine AllReadyH.cons (o := ⟨some 18, _, _, _, _, _⟩) rfl (fun K hK => ?_) AllReadyH.nil
  go_simp
  (go_at_call 82; refine Calls.mono (Y2.out _) ?_; rintro e w9 ⟨rfl, hb1⟩; replace HK := Lib.hid (HK.out.below hb1); clear hb1; go_simp)
  refine hK.out _ _ ?_ (fun hHeld => ?_)
  · (first | exact HK.out | exact HK.out.drew | exact HK.out.drewN _)
  clear hK K hHeld
  have hHeld := HK.out
  try simp only [Act.put, pa, p0, p1]
  refine wt (i := 6) (oi := ⟨some 19, _, _, _, _, _⟩) (v := ?_) rfl ?_ ?_
  rotate_left
  · (intro w hSw; (try dsimp only at hSw); have hX0 := (Keep.at hSw 0 rfl).cells; go_simp; try with_reducible rfl)
  try simp only [Act.put, pa, p0, p1]
  refine wpAnyH_ready (rs := [10]) (by kernel_rfl) (by simp) ?_
  refine AllReadyH.cons (o := ⟨some 23, _, _, _, _, _⟩) rfl (fun K hK => ?_) AllReadyH.nil
  go_simp
  (go_at_call 82; refine Calls.mono (Y3.out _) ?_; rintro e w9 ⟨rfl, hb1⟩; replace HK := Lib.hid (HK.out.below hb1); clear hb1; go_simp)
  refine hK.out _ _ ?_ (fun hHeld => ?_)
  · (first | exact HK.out | exact HK.out.drew | exact HK.out.drewN _)
  clear hK K hHeld
  have hHeld := HK.out
  try simp only [Act.put, pa, p0, p1]
  refine wt (i := 11) (oi := ⟨some 24, _, _, _, _, _⟩) (v := ?_) rfl ?_ ?_
  rotate_left
  · (intro w hSw; (try dsimp only at hSw); have hX0 := (Keep.at hSw 0 rfl).cells; go_simp; try with_reducible rfl)
  try simp only [Act.put, pa, p0, p1]
  refine wt (i := 17) (oi := ⟨some 30, _, _, _, _, _⟩) (v := ?_) rfl ?_ ?_
  rotate_left
  · (intro w hSw; (try dsimp only at hSw); have hX0 := (Keep.at hSw 0 rfl).cells; go_simp; try with_reducible rfl)
  try simp only [Act.put, pa, p0, p1]
  refine wpAnyH_ready (rs := [20]) (by kernel_rfl) (by simp) ?_
  refine AllReadyH.cons (o := ⟨some 33, _, _, _, _, _⟩) rfl (fun K hK => ?_) AllReadyH.nil
  go_simp
  (go_at_call 82; refine Calls.mono (Y4.out _) ?_; rintro e w9 ⟨rfl, hb1⟩; replace HK := Lib.hid (HK.out.below hb1); clear hb1; go_simp)
  refine hK.out _ _ ?_ (fun hHeld => ?_)
  · (first | exact HK.out | exact HK.out.drew | exact HK.out.drewN _)
  clear hK K hHeld
  have hHeld := HK.out
  try simp only [Act.put, pa, p0, p1]
  refine wt (i := 21) (oi := ⟨some 34, _, _, _, _, _⟩) (v := ?_) rfl ?_ ?_
  rotate_left
  · (intro w hSw; (try dsimp only at hSw); have hX0 := (Keep.at hSw 0 rfl).cells; go_simp; try with_reducible rfl)
  try simp only [Act.put, pa, p0, p1]
  refine wpAnyH_ready (rs := [24]) (by kernel_rfl) (by simp) ?_
  refine AllReadyH.cons (o := ⟨some 37, _, _, _, _, _⟩) rfl (fun K hK => ?_) AllReadyH.nil
  go_simp
  (go_at_call 82; refine Calls.mono (Y5.out _) ?_; rintro e w9 ⟨rfl, hb1⟩; replace HK := Lib.hid (HK.out.below hb1); clear hb1; go_simp)
  refine hK.out _ _ ?_ (fun hHeld => ?_)
  · (first | exact HK.out | exact HK.out.drew | exact HK.out.drewN _)
  clear hK K hHeld
  have hHeld := HK.out
  try simp only [Act.put, pa, p0, p1]
  refine wt (i := 25) (oi := ⟨some 38, _, _, _, _, _⟩) (v := ?_) rfl ?_ ?_
  rotate_left
  · (intro w hSw; (try dsimp only at hSw); have hX0 := (Keep.at hSw 0 rfl).cells; go_simp; try with_reducible rfl)
  try simp only [Act.put, pa, p0, p1]
  refine wt (i := 26) (oi := ⟨some 4, _, _, _, _, _⟩) (v := ?_) rfl ?_ ?_
  rotate_left
  · (intro w hSw; (try dsimp only at hSw); have hX0 := (Keep.at hSw 0 rfl).cells; go_simp; try with_reducible rfl)
  try simp only [Act.put, pa, p0, p1]
  refine wpAnyH_done (by kernel_rfl) ?_ _
  refine NoPanic.normal ?_
  have hX := (HK.out.at 0 rfl).cells
  go_upto_region 6 with fail
  clear hX
  refine wp_region_noPanic ?_
  refine wp_region_held_drew (S := fun w' => Keep w [(w.heap.size, pkV p a c, 27)] [(a, subCells p.subs)] w') (by kernel_rfl) ?_ (fun hHeld => ?_)
  · (first | exact HK.out | exact HK.out.drew | exact HK.out.drewN _)
  replace HK := Lib.hid hHeld
  refine wt (i := 3) (oi := ⟨some 42, _, _, _, _, _⟩) (v := ?_) rfl ?_ ?_
  rotate_left
  · (intro w hSw; (try dsimp only at hSw); have hX0 := (Keep.at hSw 0 rfl).cells; go_simp; try with_reducible rfl)
  try simp only [Act.put, pa, p0, p1]
  refine wt (i := 6) (oi := ⟨some 45, _, _, _, _, _⟩) (v := ?_) rfl ?_ ?_
  rotate_left
  · (intro w hSw; (try dsimp only at hSw); have hX0 := (Keep.at hSw 0 rfl).cells; go_simp; try with_reducible rfl)
  try simp only [Act.put, pa, p0, p1]
  refine wt (i := 7) (oi := ⟨some 46, _, _, _, _, _⟩) (v := ?_) rfl ?_ ?_
  rotate_left
  · (intro w hSw; (try dsimp only at hSw); have hX0 := (Keep.at hSw 0 rfl).cells; go_simp; try with_reducible rfl)
  try simp only [Act.put, pa, p0, p1]
  refine wt (i := 10) (oi := ⟨some 49, _, _, _, _, _⟩) (v := ?_) rfl ?_ ?_
  rotate_left
  · (intro w hSw; (try dsimp only at hSw); have hX0 := (Keep.at hSw 0 rfl).cells; go_simp; try with_reducible rfl)
  try simp only [Act.put, pa, p0, p1]
  refine wt (i := 11) (oi := ⟨some 50, _, _, _, _, _⟩) (v := ?_) rfl ?_ ?_
  rotate_left
  · (intro w hSw; (try dsimp only at hSw); have hX0 := (Keep.at hSw 0 rfl).cells; go_simp; try with_reducible rfl)
  try simp only [Act.put, pa, p0, p1]
  refine wpAnyH_ready (rs := [0]) (by kernel_rfl) (by simp) ?_
  refine AllReadyH.cons (o := ⟨some 39, _, _, _, _, _⟩) rfl (fun K hK => ?_) AllReadyH.nil
  go_simp
  (go_at_call 83; refine Calls.mono (CM.out _ HK.out.env) ?_; rintro e w9 ⟨rfl, hb1⟩; replace HK := Lib.hid (HK.out.below hb1); clear hb1; go_simp)
  refine hK.out _ _ ?_ (fun hHeld => ?_)
  · (first | exact HK.out | exact HK.out.drew | exact HK.out.drewN _)
  clear hK K hHeld
  have hHeld := HK.out
  try simp only [Act.put, pa, p0, p1]
  refine wpAnyH_ready (rs := [1]) (by kernel_rfl) (by simp) ?_
  refine AllReadyH.cons (o := ⟨some 40, _, _, _, _, _⟩) rfl (fun K hK => ?_) AllReadyH.nil
  go_simp
  (go_at_call 63; refine Calls.mono (CV.out _ HK.out.env) ?_; rintro e w9 ⟨rfl, hb1⟩; replace HK := Lib.hid (HK.out.below hb1); clear hb1; go_simp)
  refine hK.out _ _ ?_ (fun hHeld => ?_)
  · (first | exact HK.out | exact HK.out.drew | exact HK.out.drewN _)
  clear hK K hHeld
  have hHeld := HK.out
  try simp only [Act.put, pa, p0, p1]
  refine wt (i := 2) (oi := ⟨some 41, _, _, _, _, _⟩) (v := ?_) rfl ?_ ?_
  rotate_left
  · (intro w hSw; (try dsimp only at hSw); have hX0 := (Keep.at hSw 0 rfl).cells; go_simp; try with_reducible rfl)
  try simp only [Act.put, pa, p0, p1]
  refine wpAnyH_ready (rs := [4]) (by kernel_rfl) (by simp) ?_
  refine AllReadyH.cons (o := ⟨some 43, _, _, _, _, _⟩) rfl (fun K hK => ?_) AllReadyH.nil
  go_simp
  (go_at_call 63; refine Calls.mono (CF.out _ HK.out.env _ (by rw [hcn]; simp (disch := omega) only [wI]; push_cast; rfl)) ?_; rintro e w9 ⟨rfl, hb1⟩; replace HK := Lib.hid (HK.out.below hb1); clear hb1; go_simp)
  refine hK.out _ _ ?_ (fun hHeld => ?_)
  · (first | exact HK.out | exact HK.out.drew | exact HK.out.drewN _)
  clear hK K hHeld
  have hHeld := HK.out
  try simp only [Act.put, pa, p0, p1]
  refine wt (i := 5) (oi := ⟨some 44, _, _, _, _, _⟩) (v := ?_) rfl ?_ ?_
  rotate_left
  · (intro w hSw; (try dsimp only at hSw); have hX0 := (Keep.at hSw 0 rfl).cells; go_simp; try with_reducible rfl)
  try simp only [Act.put, pa, p0, p1]
  refine wpAnyH_ready (rs := [8]) (by kernel_rfl) (by simp) ?_
  refine AllReadyH.cons (o := ⟨some 47, _, _, _, _, _⟩) rfl (fun K hK => ?_) AllReadyH.nil
  go_simp
  (go_at_call 84; refine Calls.mono (CQ.out _ HK.out.env) ?_; rintro e w9 ⟨rfl, hb1⟩; replace HK := Lib.hid (HK.out.below hb1); clear hb1; go_simp)
  refine hK.out _ _ ?_ (fun hHeld => ?_)
  · (first | exact HK.out | exact HK.out.drew | exact HK.out.drewN _)
  clear hK K hHeld
  have hHeld := HK.out
  try simp only [Act.put, pa, p0, p1]
  refine wt (i := 9) (oi := ⟨some 48, _, _, _, _, _⟩) (v := ?_) rfl ?_ ?_
  rotate_left
  · (intro w hSw; (try dsimp only at hSw); have hX0 := (Keep.at hSw 0 rfl).cells; go_simp; try with_reducible rfl)
  try simp only [Act.put, pa, p0, p1]
  refine wpAnyH_ready (rs := [12]) (by kernel_rfl) (by simp) ?_
  refine AllReadyH.cons (o := ⟨some 51, _, _, _, _, _⟩) rfl (fun K hK => ?_) AllReadyH.nil
  go_simp
  (go_at_call 83; refine Calls.mono (CC.out _ HK.out.env) ?_; rintro e w9 ⟨rfl, hb1⟩; replace HK := Lib.hid (HK.out.below hb1); clear hb1; go_simp)
  refine hK.out _ _ ?_ (fun hHeld => ?_)
  · (first | exact HK.out | exact HK.out.drew | exact HK.out.drewN _)
  clear hK K hHeld
  have hHeld := HK.out
  try simp only [Act.put, pa, p0, p1]
  refine wt (i := 13) (oi := ⟨some 52, _, _, _, _, _⟩) (v := ?_) rfl ?_ ?_
  rotate_left
  · (intro w hSw; (try dsimp only at hSw); have hX0 := (Keep.at hSw 0 rfl).cells; go_simp; try with_reducible rfl)
  try simp only [Act.put, pa, p0, p1]
  refine wt (i := 14) (oi := ⟨some 3, _, _, _, _, _⟩) (v := ?_) rfl ?_ ?_
  rotate_left
  · (intro w hSw; (try dsimp only at hSw); have hX0 := (Keep.at hSw 0 rfl).cells; go_simp; try with_reducible rfl)
  try simp only [Act.put, pa, p0, p1]
  refine wpAnyH_done (by kernel_rfl) ?_ _
  refine NoPanic.normal ?_
  have hX := (HK.out.at 0 rfl).cells
  go_wp2_with (first
    | (go_at_call 83; (with_reducible refine Calls.mono (CU.out _ HK.out.env) ?_); rintro e w1 ⟨rfl, hb1⟩; replace HK := Lib.hid (HK.out.below hb1); have hX := (HK.out.at 0 rfl).cells; clear hb1)
    | (go_at_call 83; (with_reducible refine Calls.mono (CS.out _ HK.out.env) ?_); rintro e w1 ⟨rfl, hb1⟩; replace HK := Lib.hid (HK.out.below hb1); have hX := (HK.out.at 0 rfl).cells; clear hb1))
  go_ret
  exact FIN.out _ _ HX.out HK.out.low
set_option maxRecDepth 100000 in
set_option maxHeartbeats 8000000 in
theorem encR_1100 (p : Pk) (a : Option Addr) (c : Nat) (w : World) (hE : Env w) (hp : PkOk p) (ha : CellsA w a (subCells p.subs)) (h0 : 0 ≤ restP p) (ht : p.ty = 1) (hw : p.hasWill = true) (hu : p.hasUser = false) (hs : p.hasPass = false) : Calls Tryd.prog 61 #[.agg (pkV p a c)] w fun e w' => e = .returned (.string (bB (restB p))) ∧ Below w.heap.size w w' := by
  have FIN := Lib.hid (show ∀ (s : ByteArray) (w' : World), s = bB (restB p) → Below w.heap.size w w' → Ending.returned (.string s) = .returned (.string (bB (restB p))) ∧ Below w.heap.size w w' from by rintro s w' rfl h; exact ⟨rfl, h⟩)
  have HK := Lib.hid ((Keep.begin hE [(a, subCells p.subs)] (by intro r hr; simp at hr; subst hr; exact ha)).alloc' (pkV p a c) 27 w.heap.size rfl)
  obtain ⟨hc, _⟩ := con_parts ht h0
  obtain ⟨hl, hcl, hwo, huo, hso, hv, hz⟩ := con_fields hc
  have hcz := valid_some hcl
  rw [blen] at hcz
  have huz := valid_some hv
  rw [blen] at huz
  have hkp := hp.keep
  have hq2 : p.wqos ≤ 2 := by
    unfold willOk at hwo
    rw [hw] at hwo
    simp at hwo
    first | exact hwo.2 | (have := hwo.2.2.1; omega)
  have hwz : p.wtopic.size ≤ 65535 ∧ p.wpayload.size ≤ 65535 := by
    unfold willOk at hwo
    rw [hw] at hwo
    simp only [if_true, Bool.and_eq_true, decide_eq_true_eq] at hwo
    have := name_len hwo.1.1
    rw [blen] at this
    exact ⟨this, hwo.1.2⟩
  have hcf := (flags_con p.hasUser p.hasPass p.wret p.hasWill p.clean p.wqos hq2 (conFlags p) rfl).1
  have HX := Lib.hid (show bB (dataB mqtt) ++ bB [byteN 4] ++ bB [byteN (conFlags p)] ++ bB (wordB p.keep) ++ bB (dataB p.client) ++ bB (dataB p.wtopic) ++ bB (dataB p.wpayload) = bB (restB p) by
    unfold restB connectB
    rw [if_pos ht, hw, hu, hs, hl]
    simp only [if_true, if_false, Bool.false_eq_true, List.append_nil]
    have e1 : [byteN 4, byteN (conFlags p)] = [byteN 4] ++ [byteN (conFlags p)] := rfl
    rw [e1]
    simp only [bB_two, ByteArray.append_assoc])
  have hwc : IntKind.i64.wrap (p.wqos : Int) = (p.wqos : Int) := wrapI64 _ (by omega)
  have hcn : conFlags p = bitN false 128 + bitN false 64 + bitN p.wret 32 + 8 * p.wqos + bitN true 4 + bitN p.clean 2 := by unfold conFlags; rw [hw, hu, hs]
  have Y1 := Lib.hid (fun w1 => ref04_yes' false 128 128 rfl w1)
  have Y2 := Lib.hid (fun w1 => ref04_yes' false 64 64 rfl w1)
  have Y3 := Lib.hid (fun w1 => ref04_yes' p.wret 32 32 rfl w1)
  have Y4 := Lib.hid (fun w1 => ref04_yes' true 4 4 rfl w1)
  have Y5 := Lib.hid (fun w1 => ref04_yes' p.clean 2 2 rfl w1)
  have b1 : bitN false 128 ≤ 128 := by decide
  have b2 : bitN false 64 ≤ 64 := by decide
  have b3 : bitN p.wret 32 ≤ 32 := by unfold bitN; split <;> omega
  have b4 : bitN true 4 ≤ 4 := by decide
  have b5 : bitN p.clean 2 ≤ 2 := by unfold bitN; split <;> omega
  have CM := Lib.hid (fun w1 hE => ref04_data mqtt (by decide) w1 hE)
  have CV := Lib.hid (fun w1 hE => ref04_one' 4 4 rfl (by decide) w1 hE)
  have CF := Lib.hid (fun w1 hE z hz => ref04_one' z (conFlags p) hz hcf w1 hE)
  have CQ := Lib.hid (fun w1 hE => ref04_word p.keep (by omega) w1 hE)
  have CC := Lib.hid (fun w1 hE => ref04_data p.client hcz w1 hE)
  have CT := Lib.hid (fun w1 hE => ref04_data p.wtopic hwz.1 w1 hE)
  have CY := Lib.hid (fun w1 hE => ref04_data p.wpayload hwz.2 w1 hE)
  have zM : (bB (dataB mqtt)).size ≤ 65537 := by
    have e : (bB (dataB mqtt)).size = (dataB mqtt).length := rfl
    have := (show mqtt.size ≤ 65535 by decide)
    rw [e, dataB_len]; omega
  have zV : (bB [byteN 4]).size ≤ 65537 := by
    have e : (bB [byteN 4]).size = 1 := rfl
    omega
  have zF : (bB [byteN (conFlags p)]).size ≤ 65537 := by
    have e : (bB [byteN (conFlags p)]).size = 1 := rfl
    omega
  have zQ : (bB (wordB p.keep)).size ≤ 65537 := by
    have e : (bB (wordB p.keep)).size = 2 := rfl
    omega
  have zC : (bB (dataB p.client)).size ≤ 65537 := by
    have e : (bB (dataB p.client)).size = (dataB p.client).length := rfl
    have := hcz
    rw [e, dataB_len]; omega
  have zT : (bB (dataB p.wtopic)).size ≤ 65537 := by
    have e : (bB (dataB p.wtopic)).size = (dataB p.wtopic).length := rfl
    have := hwz.1
    rw [e, dataB_len]; omega
  have zY : (bB (dataB p.wpayload)).size ≤ 65537 := by
    have e : (bB (dataB p.wpayload)).size = (dataB p.wpayload).length := rfl
    have := hwz.2
    rw [e, dataB_len]; omega
  generalize bB (dataB mqtt) = DM at *
  generalize bB [byteN 4] = DV at *
  generalize bB [byteN (conFlags p)] = DF at *
  generalize bB (wordB p.keep) = DQ at *
  generalize bB (dataB p.client) = DC at *
  generalize bB (dataB p.wtopic) = DT at *
  generalize bB (dataB p.wpayload) = DY at *
  generalize conFlags p = cf at *
  generalize bitN false 128 = x1 at *
  generalize bitN false 64 = x2 at *
  generalize bitN p.wret 32 = x3 at *
  generalize bitN true 4 = x4 at *
  generalize bitN p.clean 2 = x5 at *
  have g1 : ¬ 9223372036854775807 < DM.size + DV.size := by omega
  have g2 : ¬ 9223372036854775807 < DM.size + DV.size + DF.size := by omega
  have g3 : ¬ 9223372036854775807 < DM.size + DV.size + DF.size + DQ.size := by omega
  have g4 : ¬ 9223372036854775807 < DM.size + DV.size + DF.size + DQ.size + DC.size := by omega
  have g5 : ¬ 9223372036854775807 < DM.size + DV.size + DF.size + DQ.size + DC.size + DT.size := by omega
  have g6 : ¬ 9223372036854775807 < DM.size + DV.size + DF.size + DQ.size + DC.size + DT.size + DY.size := by omega
  obtain ⟨k0, k1, k2, k3, k4, k5, k6, k7, k8, k9, k10, k11, k12, k13, k14, k15, k16, k17, k18, k19, k20, k21, k22, k23⟩ := pk_at p a c
  replace k0 : (pkV p a c)[0]? = some (.int .u8 1) := by rw [k0, ht]; rfl
  rw [hw] at k11
  rw [hu] at k16
  rw [hs] at k17
  clear hE ha hp h0 hc hl hcl hwo huo hso hv hcz huz hz hwz hw hu hs
  go_enter Tryd.func61, Tryd.ntmps61
  go_upto_region 1 with fail
  show Code.wp _ _ _ _ (w.alloc (.cells (pkV p a c) 27))
  generalize World.alloc w _ = w2 at HK ⊢
  have hX := (HK.out.at 0 rfl).cells
  go_upto_region 5 with fail
  clear hX
  refine wp_region_noPanic ?_
  refine wp_region_held_drew (S := fun w' => Keep w [(w.heap.size, pkV p a c, 27)] [(a, subCells p.subs)] w') (by kernel_rfl) ?_ (fun hHeld => ?_)
  · (first | exact HK.out | exact HK.out.drew | exact HK.out.drewN _)
  replace HK := Lib.hid hHeld
  refine wt (i := 0) (oi := ⟨some 13, _, _, _, _, _⟩) (v := ?_) rfl ?_ ?_
  rotate_left
  · (intro w hSw; (try dsimp only at hSw); have hX0 := (Keep.at hSw 0 rfl).cells; go_simp; try with_reducible rfl)
  try simp only [Act.put, pa, p0, p1]
  refine wt (i := 1) (oi := ⟨some 14, _, _, _, _, _⟩) (v := ?_) rfl ?_ ?_
  rotate_left
  · (intro w hSw; (try dsimp only at hSw); have hX0 := (Keep.at hSw 0 rfl).cells; go_simp; try with_reducible rfl)
  try simp only [Act.put, pa, p0, p1]
  refine wt (i := 3) (oi := ⟨some 16, _, _, _, _, _⟩) (v := ?_) rfl ?_ ?_
  rotate_left
  · (intro w hSw; (try dsimp only at hSw); have hX0 := (Keep.at hSw 0 rfl).cells; go_simp; try with_reducible rfl)
  try simp only [Act.put, pa, p0, p1]
  refine wt (i := 4) (oi := ⟨some 17, _, _, _, _, _⟩) (v := ?_) rfl ?_ ?_
  rotate_left
  · (intro w hSw; (try dsimp only at hSw); have hX0 := (Keep.at hSw 0 rfl).cells; go_simp; try with_reducible rfl)
  try simp only [Act.put, pa, p0, p1]
  refine wt (i := 7) (oi := ⟨some 20, _, _, _, _, _⟩) (v := ?_) rfl ?_ ?_
  rotate_left
  · (intro w hSw; (try dsimp only at hSw); have hX0 := (Keep.at hSw 0 rfl).cells; go_simp; try with_reducible rfl)
  try simp only [Act.put, pa, p0, p1]
  refine wt (i := 8) (oi := ⟨some 21, _, _, _, _, _⟩) (v := ?_) rfl ?_ ?_
  rotate_left
  · (intro w hSw; (try dsimp only at hSw); have hX0 := (Keep.at hSw 0 rfl).cells; go_simp; try with_reducible rfl)
  try simp only [Act.put, pa, p0, p1]
  refine wt (i := 9) (oi := ⟨some 22, _, _, _, _, _⟩) (v := ?_) rfl ?_ ?_
  rotate_left
  · (intro w hSw; (try dsimp only at hSw); have hX0 := (Keep.at hSw 0 rfl).cells; go_simp; try with_reducible rfl)
  try simp only [Act.put, pa, p0, p1]
  refine wt (i := 12) (oi := ⟨some 25, _, _, _, _, _⟩) (v := ?_) rfl ?_ ?_
  rotate_left
  · (intro w hSw; (try dsimp only at hSw); have hX0 := (Keep.at hSw 0 rfl).cells; go_simp; try with_reducible rfl)
  try simp only [Act.put, pa, p0, p1]
  refine wt (i := 13) (oi := ⟨some 26, _, _, _, _, _⟩) (v := ?_) rfl ?_ ?_
  rotate_left
  · (intro w hSw; (try dsimp only at hSw); have hX0 := (Keep.at hSw 0 rfl).cells; go_simp; try with_reducible rfl)
  try simp only [Act.put, pa, p0, p1]
  refine wt (i := 14) (oi := ⟨some 27, _, _, _, _, _⟩) (v := ?_) rfl ?_ ?_
  rotate_left
  · (intro w hSw; (try dsimp only at hSw); have hX0 := (Keep.at hSw 0 rfl).cells; go_simp; try with_reducible rfl)
  try simp only [Act.put, pa, p0, p1]
  refine wt (i := 15) (oi := ⟨some 28, _, _, _, _, _⟩) (v := ?_) rfl ?_ ?_
  rotate_left
  · (intro w hSw; (try dsimp only at hSw); have hX0 := (Keep.at hSw 0 rfl).cells; go_simp; try with_reducible rfl)
  try simp only [Act.put, pa, p0, p1]
  refine wt (i := 16) (oi := ⟨some 29, _, _, _, _, _⟩) (v := ?_) rfl ?_ ?_
  rotate_left
  · (intro w hSw; (try dsimp only at hSw); have hX0 := (Keep.at hSw 0 rfl).cells; go_simp; try with_reducible rfl)
  try simp only [Act.put, pa, p0, p1]
  refine wt (i := 18) (oi := ⟨some 31, _, _, _, _, _⟩) (v := ?_) rfl ?_ ?_
  rotate_left
  · (intro w hSw; (try dsimp only at hSw); have hX0 := (Keep.at hSw 0 rfl).cells; go_simp; try with_reducible rfl)
  try simp only [Act.put, pa, p0, p1]
  refine wt (i := 19) (oi := ⟨some 32, _, _, _, _, _⟩) (v := ?_) rfl ?_ ?_
  rotate_left
  · (intro w hSw; (try dsimp only at hSw); have hX0 := (Keep.at hSw 0 rfl).cells; go_simp; try with_reducible rfl)
  try simp only [Act.put, pa, p0, p1]
  refine wt (i := 22) (oi := ⟨some 35, _, _, _, _, _⟩) (v := ?_) rfl ?_ ?_
  rotate_left
  · (intro w hSw; (try dsimp only at hSw); have hX0 := (Keep.at hSw 0 rfl).cells; go_simp; try with_reducible rfl)
  try simp only [Act.put, pa, p0, p1]
  refine wt (i := 23) (oi := ⟨some 36, _, _, _, _, _⟩) (v := ?_) rfl ?_ ?_
  rotate_left
  · (intro w hSw; (try dsimp only at hSw); have hX0 := (Keep.at hSw 0 rfl).cells; go_simp; try with_reducible rfl)
  try simp only [Act.put, pa, p0, p1]
  refine wpAnyH_ready (rs := [2]) (by kernel_rfl) (by simp) ?_
  refine AllReadyH.cons (o := ⟨some 15, _, _, _, _, _⟩) rfl (fun K hK => ?_) AllReadyH.nil
  go_simp
  (go_at_call 82; refine Calls.mono (Y1.out _) ?_; rintro e w9 ⟨rfl, hb1⟩; replace HK := Lib.hid (HK.out.below hb1); clear hb1; go_simp)
  refine hK.out _ _ ?_ (fun hHeld => ?_)
  · (first | exact HK.out | exact HK.out.drew | exact HK.out.drewN _)
  clear hK K hHeld
  have hHeld := HK.out
  try simp only [Act.put, pa, p0, p1]
  refine wpAnyH_ready (rs := [5]) (by kernel_rfl) (by simp) ?_
  refine AllReadyH.cons (o := ⟨some 18, _, _, _, _, _⟩) rfl (fun K hK => ?_) AllReadyH.nil
  go_simp
  (go_at_call 82; refine Calls.mono (Y2.out _) ?_; rintro e w9 ⟨rfl, hb1⟩; replace HK := Lib.hid (HK.out.below hb1); clear hb1; go_simp)
  refine hK.out _ _ ?_ (fun hHeld => ?_)
  · (first | exact HK.out | exact HK.out.drew | exact HK.out.drewN _)
  clear hK K hHeld
  have hHeld := HK.out
  try simp only [Act.put, pa, p0, p1]
  refine wt (i := 6) (oi := ⟨some 19, _, _, _, _, _⟩) (v := ?_) rfl ?_ ?_
  rotate_left
  · (intro w hSw; (try dsimp only at hSw); have hX0 := (Keep.at hSw 0 rfl).cells; go_simp; try with_reducible rfl)
  try simp only [Act.put, pa, p0, p1]
  refine wpAnyH_ready (rs := [10]) (by kernel_rfl) (by simp) ?_
  refine AllReadyH.cons (o := ⟨some 23, _, _, _, _, _⟩) rfl (fun K hK => ?_) AllReadyH.nil
  go_simp
  (go_at_call 82; refine Calls.mono (Y3.out _) ?_; rintro e w9 ⟨rfl, hb1⟩; replace HK := Lib.hid (HK.out.below hb1); clear hb1; go_simp)
  refine hK.out _ _ ?_ (fun hHeld => ?_)
  · (first | exact HK.out | exact HK.out.drew | exact HK.out.drewN _)
  clear hK K hHeld
  have hHeld := HK.out
  try simp only [Act.put, pa, p0, p1]
  refine wt (i := 11) (oi := ⟨some 24, _, _, _, _, _⟩) (v := ?_) rfl ?_ ?_
  rotate_left
  · (intro w hSw; (try dsimp only at hSw); have hX0 := (Keep.at hSw 0 rfl).cells; go_simp; try with_reducible rfl)
  try simp only [Act.put, pa, p0, p1]
  refine wt (i := 17) (oi := ⟨some 30, _, _, _, _, _⟩) (v := ?_) rfl ?_ ?_
  rotate_left
  · (intro w hSw; (try dsimp only at hSw); have hX0 := (Keep.at hSw 0 rfl).cells; go_simp; try with_reducible rfl)
  try simp only [Act.put, pa, p0, p1]
  refine wpAnyH_ready (rs := [20]) (by kernel_rfl) (by simp) ?_
  refine AllReadyH.cons (o := ⟨some 33, _, _, _, _, _⟩) rfl (fun K hK => ?_) AllReadyH.nil
  go_simp
  (go_at_call 82; refine Calls.mono (Y4.out _) ?_; rintro e w9 ⟨rfl, hb1⟩; replace HK := Lib.hid (HK.out.below hb1); clear hb1; go_simp)
  refine hK.out _ _ ?_ (fun hHeld => ?_)
  · (first | exact HK.out | exact HK.out.drew | exact HK.out.drewN _)
  clear hK K hHeld
  have hHeld := HK.out
  try simp only [Act.put, pa, p0, p1]
  refine wt (i := 21) (oi := ⟨some 34, _, _, _, _, _⟩) (v := ?_) rfl ?_ ?_
  rotate_left
  · (intro w hSw; (try dsimp only at hSw); have hX0 := (Keep.at hSw 0 rfl).cells; go_simp; try with_reducible rfl)
  try simp only [Act.put, pa, p0, p1]
  refine wpAnyH_ready (rs := [24]) (by kernel_rfl) (by simp) ?_
  refine AllReadyH.cons (o := ⟨some 37, _, _, _, _, _⟩) rfl (fun K hK => ?_) AllReadyH.nil
  go_simp
  (go_at_call 82; refine Calls.mono (Y5.out _) ?_; rintro e w9 ⟨rfl, hb1⟩; replace HK := Lib.hid (HK.out.below hb1); clear hb1; go_simp)
  refine hK.out _ _ ?_ (fun hHeld => ?_)
  · (first | exact HK.out | exact HK.out.drew | exact HK.out.drewN _)
  clear hK K hHeld
  have hHeld := HK.out
  try simp only [Act.put, pa, p0, p1]
  refine wt (i := 25) (oi := ⟨some 38, _, _, _, _, _⟩) (v := ?_) rfl ?_ ?_
  rotate_left
  · (intro w hSw; (try dsimp only at hSw); have hX0 := (Keep.at hSw 0 rfl).cells; go_simp; try with_reducible rfl)
  try simp only [Act.put, pa, p0, p1]
  refine wt (i := 26) (oi := ⟨some 4, _, _, _, _, _⟩) (v := ?_) rfl ?_ ?_
  rotate_left
  · (intro w hSw; (try dsimp only at hSw); have hX0 := (Keep.at hSw 0 rfl).cells; go_simp; try with_reducible rfl)
  try simp only [Act.put, pa, p0, p1]
  refine wpAnyH_done (by kernel_rfl) ?_ _
  refine NoPanic.normal ?_
  have hX := (HK.out.at 0 rfl).cells
  go_upto_region 6 with fail
  clear hX
  refine wp_region_noPanic ?_
  refine wp_region_held_drew (S := fun w' => Keep w [(w.heap.size, pkV p a c, 27)] [(a, subCells p.subs)] w') (by kernel_rfl) ?_ (fun hHeld => ?_)
  · (first | exact HK.out | exact HK.out.drew | exact HK.out.drewN _)
  replace HK := Lib.hid hHeld
  refine wt (i := 3) (oi := ⟨some 42, _, _, _, _, _⟩) (v := ?_) rfl ?_ ?_
  rotate_left
  · (intro w hSw; (try dsimp only at hSw); have hX0 := (Keep.at hSw 0 rfl).cells; go_simp; try with_reducible rfl)
  try simp only [Act.put, pa, p0, p1]
  refine wt (i := 6) (oi := ⟨some 45, _, _, _, _, _⟩) (v := ?_) rfl ?_ ?_
  rotate_left
  · (intro w hSw; (try dsimp only at hSw); have hX0 := (Keep.at hSw 0 rfl).cells; go_simp; try with_reducible rfl)
  try simp only [Act.put, pa, p0, p1]
  refine wt (i := 7) (oi := ⟨some 46, _, _, _, _, _⟩) (v := ?_) rfl ?_ ?_
  rotate_left
  · (intro w hSw; (try dsimp only at hSw); have hX0 := (Keep.at hSw 0 rfl).cells; go_simp; try with_reducible rfl)
  try simp only [Act.put, pa, p0, p1]
  refine wt (i := 10) (oi := ⟨some 49, _, _, _, _, _⟩) (v := ?_) rfl ?_ ?_
  rotate_left
  · (intro w hSw; (try dsimp only at hSw); have hX0 := (Keep.at hSw 0 rfl).cells; go_simp; try with_reducible rfl)
  try simp only [Act.put, pa, p0, p1]
  refine wt (i := 11) (oi := ⟨some 50, _, _, _, _, _⟩) (v := ?_) rfl ?_ ?_
  rotate_left
  · (intro w hSw; (try dsimp only at hSw); have hX0 := (Keep.at hSw 0 rfl).cells; go_simp; try with_reducible rfl)
  try simp only [Act.put, pa, p0, p1]
  refine wpAnyH_ready (rs := [0]) (by kernel_rfl) (by simp) ?_
  refine AllReadyH.cons (o := ⟨some 39, _, _, _, _, _⟩) rfl (fun K hK => ?_) AllReadyH.nil
  go_simp
  (go_at_call 83; refine Calls.mono (CM.out _ HK.out.env) ?_; rintro e w9 ⟨rfl, hb1⟩; replace HK := Lib.hid (HK.out.below hb1); clear hb1; go_simp)
  refine hK.out _ _ ?_ (fun hHeld => ?_)
  · (first | exact HK.out | exact HK.out.drew | exact HK.out.drewN _)
  clear hK K hHeld
  have hHeld := HK.out
  try simp only [Act.put, pa, p0, p1]
  refine wpAnyH_ready (rs := [1]) (by kernel_rfl) (by simp) ?_
  refine AllReadyH.cons (o := ⟨some 40, _, _, _, _, _⟩) rfl (fun K hK => ?_) AllReadyH.nil
  go_simp
  (go_at_call 63; refine Calls.mono (CV.out _ HK.out.env) ?_; rintro e w9 ⟨rfl, hb1⟩; replace HK := Lib.hid (HK.out.below hb1); clear hb1; go_simp)
  refine hK.out _ _ ?_ (fun hHeld => ?_)
  · (first | exact HK.out | exact HK.out.drew | exact HK.out.drewN _)
  clear hK K hHeld
  have hHeld := HK.out
  try simp only [Act.put, pa, p0, p1]
  refine wt (i := 2) (oi := ⟨some 41, _, _, _, _, _⟩) (v := ?_) rfl ?_ ?_
  rotate_left
  · (intro w hSw; (try dsimp only at hSw); have hX0 := (Keep.at hSw 0 rfl).cells; go_simp; try with_reducible rfl)
  try simp only [Act.put, pa, p0, p1]
  refine wpAnyH_ready (rs := [4]) (by kernel_rfl) (by simp) ?_
  refine AllReadyH.cons (o := ⟨some 43, _, _, _, _, _⟩) rfl (fun K hK => ?_) AllReadyH.nil
  go_simp
  (go_at_call 63; refine Calls.mono (CF.out _ HK.out.env _ (by rw [hcn]; simp (disch := omega) only [wI]; push_cast; rfl)) ?_; rintro e w9 ⟨rfl, hb1⟩; replace HK := Lib.hid (HK.out.below hb1); clear hb1; go_simp)
  refine hK.out _ _ ?_ (fun hHeld => ?_)
  · (first | exact HK.out | exact HK.out.drew | exact HK.out.drewN _)
  clear hK K hHeld
  have hHeld := HK.out
  try simp only [Act.put, pa, p0, p1]
  refine wt (i := 5) (oi := ⟨some 44, _, _, _, _, _⟩) (v := ?_) rfl ?_ ?_
  rotate_left
  · (intro w hSw; (try dsimp only at hSw); have hX0 := (Keep.at hSw 0 rfl).cells; go_simp; try with_reducible rfl)
  try simp only [Act.put, pa, p0, p1]
  refine wpAnyH_ready (rs := [8]) (by kernel_rfl) (by simp) ?_
  refine AllReadyH.cons (o := ⟨some 47, _, _, _, _, _⟩) rfl (fun K hK => ?_) AllReadyH.nil
  go_simp
  (go_at_call 84; refine Calls.mono (CQ.out _ HK.out.env) ?_; rintro e w9 ⟨rfl, hb1⟩; replace HK := Lib.hid (HK.out.below hb1); clear hb1; go_simp)
  refine hK.out _ _ ?_ (fun hHeld => ?_)
  · (first | exact HK.out | exact HK.out.drew | exact HK.out.drewN _)
  clear hK K hHeld
  have hHeld := HK.out
  try simp only [Act.put, pa, p0, p1]
  refine wt (i := 9) (oi := ⟨some 48, _, _, _, _, _⟩) (v := ?_) rfl ?_ ?_
  rotate_left
  · (intro w hSw; (try dsimp only at hSw); have hX0 := (Keep.at hSw 0 rfl).cells; go_simp; try with_reducible rfl)
  try simp only [Act.put, pa, p0, p1]
  refine wpAnyH_ready (rs := [12]) (by kernel_rfl) (by simp) ?_
  refine AllReadyH.cons (o := ⟨some 51, _, _, _, _, _⟩) rfl (fun K hK => ?_) AllReadyH.nil
  go_simp
  (go_at_call 83; refine Calls.mono (CC.out _ HK.out.env) ?_; rintro e w9 ⟨rfl, hb1⟩; replace HK := Lib.hid (HK.out.below hb1); clear hb1; go_simp)
  refine hK.out _ _ ?_ (fun hHeld => ?_)
  · (first | exact HK.out | exact HK.out.drew | exact HK.out.drewN _)
  clear hK K hHeld
  have hHeld := HK.out
  try simp only [Act.put, pa, p0, p1]
  refine wt (i := 13) (oi := ⟨some 52, _, _, _, _, _⟩) (v := ?_) rfl ?_ ?_
  rotate_left
  · (intro w hSw; (try dsimp only at hSw); have hX0 := (Keep.at hSw 0 rfl).cells; go_simp; try with_reducible rfl)
  try simp only [Act.put, pa, p0, p1]
  refine wt (i := 14) (oi := ⟨some 3, _, _, _, _, _⟩) (v := ?_) rfl ?_ ?_
  rotate_left
  · (intro w hSw; (try dsimp only at hSw); have hX0 := (Keep.at hSw 0 rfl).cells; go_simp; try with_reducible rfl)
  try simp only [Act.put, pa, p0, p1]
  refine wpAnyH_done (by kernel_rfl) ?_ _
  refine NoPanic.normal ?_
  have hX := (HK.out.at 0 rfl).cells
  go_upto_region 8 with fail
  clear hX
  refine wp_region_noPanic ?_
  refine wp_region_held_drew (S := fun w' => Keep w [(w.heap.size, pkV p a c, 27)] [(a, subCells p.subs)] w') (by kernel_rfl) ?_ (fun hHeld => ?_)
  · (first | exact HK.out | exact HK.out.drew | exact HK.out.drewN _)
  replace HK := Lib.hid hHeld
  refine wt (i := 0) (oi := ⟨some 55, _, _, _, _, _⟩) (v := ?_) rfl ?_ ?_
  rotate_left
  · (intro w hSw; (try dsimp only at hSw); have hX0 := (Keep.at hSw 0 rfl).cells; go_simp; try with_reducible rfl)
  try simp only [Act.put, pa, p0, p1]
  refine wt (i := 1) (oi := ⟨some 56, _, _, _, _, _⟩) (v := ?_) rfl ?_ ?_
  rotate_left
  · (intro w hSw; (try dsimp only at hSw); have hX0 := (Keep.at hSw 0 rfl).cells; go_simp; try with_reducible rfl)
  try simp only [Act.put, pa, p0, p1]
  refine wt (i := 2) (oi := ⟨some 57, _, _, _, _, _⟩) (v := ?_) rfl ?_ ?_
  rotate_left
  · (intro w hSw; (try dsimp only at hSw); have hX0 := (Keep.at hSw 0 rfl).cells; go_simp; try with_reducible rfl)
  try simp only [Act.put, pa, p0, p1]
  refine wt (i := 3) (oi := ⟨some 58, _, _, _, _, _⟩) (v := ?_) rfl ?_ ?_
  rotate_left
  · (intro w hSw; (try dsimp only at hSw); have hX0 := (Keep.at hSw 0 rfl).cells; go_simp; try with_reducible rfl)
  try simp only [Act.put, pa, p0, p1]
  refine wt (i := 6) (oi := ⟨some 61, _, _, _, _, _⟩) (v := ?_) rfl ?_ ?_
  rotate_left
  · (intro w hSw; (try dsimp only at hSw); have hX0 := (Keep.at hSw 0 rfl).cells; go_simp; try with_reducible rfl)
  try simp only [Act.put, pa, p0, p1]
  refine wt (i := 7) (oi := ⟨some 62, _, _, _, _, _⟩) (v := ?_) rfl ?_ ?_
  rotate_left
  · (intro w hSw; (try dsimp only at hSw); have hX0 := (Keep.at hSw 0 rfl).cells; go_simp; try with_reducible rfl)
  try simp only [Act.put, pa, p0, p1]
  refine wt (i := 8) (oi := ⟨some 63, _, _, _, _, _⟩) (v := ?_) rfl ?_ ?_
  rotate_left
  · (intro w hSw; (try dsimp only at hSw); have hX0 := (Keep.at hSw 0 rfl).cells; go_simp; try with_reducible rfl)
  try simp only [Act.put, pa, p0, p1]
  refine wpAnyH_ready (rs := [4]) (by kernel_rfl) (by simp) ?_
  refine AllReadyH.cons (o := ⟨some 59, _, _, _, _, _⟩) rfl (fun K hK => ?_) AllReadyH.nil
  go_simp
  (go_at_call 83; refine Calls.mono (CT.out _ HK.out.env) ?_; rintro e w9 ⟨rfl, hb1⟩; replace HK := Lib.hid (HK.out.below hb1); clear hb1; go_simp)
  refine hK.out _ _ ?_ (fun hHeld => ?_)
  · (first | exact HK.out | exact HK.out.drew | exact HK.out.drewN _)
  clear hK K hHeld
  have hHeld := HK.out
  try simp only [Act.put, pa, p0, p1]
  refine wt (i := 5) (oi := ⟨some 60, _, _, _, _, _⟩) (v := ?_) rfl ?_ ?_
  rotate_left
  · (intro w hSw; (try dsimp only at hSw); have hX0 := (Keep.at hSw 0 rfl).cells; go_simp; try with_reducible rfl)
  try simp only [Act.put, pa, p0, p1]
  refine wpAnyH_ready (rs := [9]) (by kernel_rfl) (by simp) ?_
  refine AllReadyH.cons (o := ⟨some 64, _, _, _, _, _⟩) rfl (fun K hK => ?_) AllReadyH.nil
  go_simp
  (go_at_call 83; refine Calls.mono (CY.out _ HK.out.env) ?_; rintro e w9 ⟨rfl, hb1⟩; replace HK := Lib.hid (HK.out.below hb1); clear hb1; go_simp)
  refine hK.out _ _ ?_ (fun hHeld => ?_)
  · (first | exact HK.out | exact HK.out.drew | exact HK.out.drewN _)
  clear hK K hHeld
  have hHeld := HK.out
  try simp only [Act.put, pa, p0, p1]
  refine wt (i := 10) (oi := ⟨some 65, _, _, _, _, _⟩) (v := ?_) rfl ?_ ?_
  rotate_left
  · (intro w hSw; (try dsimp only at hSw); have hX0 := (Keep.at hSw 0 rfl).cells; go_simp; try with_reducible rfl)
  try simp only [Act.put, pa, p0, p1]
  refine wt (i := 11) (oi := ⟨some 3, _, _, _, _, _⟩) (v := ?_) rfl ?_ ?_
  rotate_left
  · (intro w hSw; (try dsimp only at hSw); have hX0 := (Keep.at hSw 0 rfl).cells; go_simp; try with_reducible rfl)
  try simp only [Act.put, pa, p0, p1]
  refine wpAnyH_done (by kernel_rfl) ?_ _
  refine NoPanic.normal ?_
  have hX := (HK.out.at 0 rfl).cells
  go_wp2_with fail
  go_ret
  exact FIN.out _ _ HX.out HK.out.low
set_option maxRecDepth 100000 in
set_option maxHeartbeats 8000000 in
theorem encR_1101 (p : Pk) (a : Option Addr) (c : Nat) (w : World) (hE : Env w) (hp : PkOk p) (ha : CellsA w a (subCells p.subs)) (h0 : 0 ≤ restP p) (ht : p.ty = 1) (hw : p.hasWill = true) (hu : p.hasUser = false) (hs : p.hasPass = true) : Calls Tryd.prog 61 #[.agg (pkV p a c)] w fun e w' => e = .returned (.string (bB (restB p))) ∧ Below w.heap.size w w' := by
  have FIN := Lib.hid (show ∀ (s : ByteArray) (w' : World), s = bB (restB p) → Below w.heap.size w w' → Ending.returned (.string s) = .returned (.string (bB (restB p))) ∧ Below w.heap.size w w' from by rintro s w' rfl h; exact ⟨rfl, h⟩)
  have HK := Lib.hid ((Keep.begin hE [(a, subCells p.subs)] (by intro r hr; simp at hr; subst hr; exact ha)).alloc' (pkV p a c) 27 w.heap.size rfl)
  obtain ⟨hc, _⟩ := con_parts ht h0
  obtain ⟨hl, hcl, hwo, huo, hso, hv, hz⟩ := con_fields hc
  have hcz := valid_some hcl
  rw [blen] at hcz
  have huz := valid_some hv
  rw [blen] at huz
  have hkp := hp.keep
  have hq2 : p.wqos ≤ 2 := by
    unfold willOk at hwo
    rw [hw] at hwo
    simp at hwo
    first | exact hwo.2 | (have := hwo.2.2.1; omega)
  have hwz : p.wtopic.size ≤ 65535 ∧ p.wpayload.size ≤ 65535 := by
    unfold willOk at hwo
    rw [hw] at hwo
    simp only [if_true, Bool.and_eq_true, decide_eq_true_eq] at hwo
    have := name_len hwo.1.1
    rw [blen] at this
    exact ⟨this, hwo.1.2⟩
  have hcf := (flags_con p.hasUser p.hasPass p.wret p.hasWill p.clean p.wqos hq2 (conFlags p) rfl).1
  have HX := Lib.hid (show bB (dataB mqtt) ++ bB [byteN 4] ++ bB [byteN (conFlags p)] ++ bB (wordB p.keep) ++ bB (dataB p.client) ++ bB (dataB p.wtopic) ++ bB (dataB p.wpayload) ++ bB (dataB p.pass) = bB (restB p) by
    unfold restB connectB
    rw [if_pos ht, hw, hu, hs, hl]
    simp only [if_true, if_false, Bool.false_eq_true, List.append_nil]
    have e1 : [byteN 4, byteN (conFlags p)] = [byteN 4] ++ [byteN (conFlags p)] := rfl
    rw [e1]
    simp only [bB_two, ByteArray.append_assoc])
  have hwc : IntKind.i64.wrap (p.wqos : Int) = (p.wqos : Int) := wrapI64 _ (by omega)
  have hcn : conFlags p = bitN false 128 + bitN true 64 + bitN p.wret 32 + 8 * p.wqos + bitN true 4 + bitN p.clean 2 := by unfold conFlags; rw [hw, hu, hs]
  have Y1 := Lib.hid (fun w1 => ref04_yes' false 128 128 rfl w1)
  have Y2 := Lib.hid (fun w1 => ref04_yes' true 64 64 rfl w1)
  have Y3 := Lib.hid (fun w1 => ref04_yes' p.wret 32 32 rfl w1)
  have Y4 := Lib.hid (fun w1 => ref04_yes' true 4 4 rfl w1)
  have Y5 := Lib.hid (fun w1 => ref04_yes' p.clean 2 2 rfl w1)
  have b1 : bitN false 128 ≤ 128 := by decide
  have b2 : bitN true 64 ≤ 64 := by decide
  have b3 : bitN p.wret 32 ≤ 32 := by unfold bitN; split <;> omega
  have b4 : bitN true 4 ≤ 4 := by decide
  have b5 : bitN p.clean 2 ≤ 2 := by unfold bitN; split <;> omega
  have CM := Lib.hid (fun w1 hE => ref04_data mqtt (by decide) w1 hE)
  have CV := Lib.hid (fun w1 hE => ref04_one' 4 4 rfl (by decide) w1 hE)
  have CF := Lib.hid (fun w1 hE z hz => ref04_one' z (conFlags p) hz hcf w1 hE)
  have CQ := Lib.hid (fun w1 hE => ref04_word p.keep (by omega) w1 hE)
  have CC := Lib.hid (fun w1 hE => ref04_data p.client hcz w1 hE)
  have CT := Lib.hid (fun w1 hE => ref04_data p.wtopic hwz.1 w1 hE)
  have CY := Lib.hid (fun w1 hE => ref04_data p.wpayload hwz.2 w1 hE)
  have CS := Lib.hid (fun w1 hE => ref04_data p.pass hz w1 hE)
  have zM : (bB (dataB mqtt)).size ≤ 65537 := by
    have e : (bB (dataB mqtt)).size = (dataB mqtt).length := rfl
    have := (show mqtt.size ≤ 65535 by decide)
    rw [e, dataB_len]; omega
  have zV : (bB [byteN 4]).size ≤ 65537 := by
    have e : (bB [byteN 4]).size = 1 := rfl
    omega
  have zF : (bB [byteN (conFlags p)]).size ≤ 65537 := by
    have e : (bB [byteN (conFlags p)]).size = 1 := rfl
    omega
  have zQ : (bB (wordB p.keep)).size ≤ 65537 := by
    have e : (bB (wordB p.keep)).size = 2 := rfl
    omega
  have zC : (bB (dataB p.client)).size ≤ 65537 := by
    have e : (bB (dataB p.client)).size = (dataB p.client).length := rfl
    have := hcz
    rw [e, dataB_len]; omega
  have zT : (bB (dataB p.wtopic)).size ≤ 65537 := by
    have e : (bB (dataB p.wtopic)).size = (dataB p.wtopic).length := rfl
    have := hwz.1
    rw [e, dataB_len]; omega
  have zY : (bB (dataB p.wpayload)).size ≤ 65537 := by
    have e : (bB (dataB p.wpayload)).size = (dataB p.wpayload).length := rfl
    have := hwz.2
    rw [e, dataB_len]; omega
  have zS : (bB (dataB p.pass)).size ≤ 65537 := by
    have e : (bB (dataB p.pass)).size = (dataB p.pass).length := rfl
    have := hz
    rw [e, dataB_len]; omega
  generalize bB (dataB mqtt) = DM at *
  generalize bB [byteN 4] = DV at *
  generalize bB [byteN (conFlags p)] = DF at *
  generalize bB (wordB p.keep) = DQ at *
  generalize bB (dataB p.client) = DC at *
  generalize bB (dataB p.wtopic) = DT at *
  generalize bB (dataB p.wpayload) = DY at *
  generalize bB (dataB p.pass) = DS at *
  generalize conFlags p = cf at *
  generalize bitN false 128 = x1 at *
  generalize bitN true 64 = x2 at *
  generalize bitN p.wret 32 = x3 at *
  generalize bitN true 4 = x4 at *
  generalize bitN p.clean 2 = x5 at *
  have g1 : ¬ 9223372036854775807 < DM.size + DV.size := by omega
  have g2 : ¬ 9223372036854775807 < DM.size + DV.size + DF.size := by omega
  have g3 : ¬ 9223372036854775807 < DM.size + DV.size + DF.size + DQ.size := by omega
  have g4 : ¬ 9223372036854775807 < DM.size + DV.size + DF.size + DQ.size + DC.size := by omega
  have g5 : ¬ 9223372036854775807 < DM.size + DV.size + DF.size + DQ.size + DC.size + DT.size := by omega
  have g6 : ¬ 9223372036854775807 < DM.size + DV.size + DF.size + DQ.size + DC.size + DT.size + DY.size := by omega
  have g7 : ¬ 9223372036854775807 < DM.size + DV.size + DF.size + DQ.size + DC.size + DT.size + DY.size + DS.size := by omega
  obtain ⟨k0, k1, k2, k3, k4, k5, k6, k7, k8, k9, k10, k11, k12, k13, k14, k15, k16, k17, k18, k19, k20, k21, k22, k23⟩ := pk_at p a c
  replace k0 : (pkV p a c)[0]? = some (.int .u8 1) := by rw [k0, ht]; rfl
  rw [hw] at k11
  rw [hu] at k16
  rw [hs] at k17
  clear hE ha hp h0 hc hl hcl hwo huo hso hv hcz huz hz hwz hw hu hs
  go_enter Tryd.func61, Tryd.ntmps61
  go_upto_region 1 with fail
  show Code.wp _ _ _ _ (w.alloc (.cells (pkV p a c) 27))
  generalize World.alloc w _ = w2 at HK ⊢
  have hX := (HK.out.at 0 rfl).cells
  go_upto_region 5 with fail
  clear hX
  refine wp_region_noPanic ?_
  refine wp_region_held_drew (S := fun w' => Keep w [(w.heap.size, pkV p a c, 27)] [(a, subCells p.subs)] w') (by kernel_rfl) ?_ (fun hHeld => ?_)
  · (first | exact HK.out | exact HK.out.drew | exact HK.out.drewN _)
  replace HK := Lib.hid hHeld
  refine wt (i := 0) (oi := ⟨some 13, _, _, _, _, _⟩) (v := ?_) rfl ?_ ?_
  rotate_left
  · (intro w hSw; (try dsimp only at hSw); have hX0 := (Keep.at hSw 0 rfl).cells; go_simp; try with_reducible rfl)
  try simp only [Act.put, pa, p0, p1]
  refine wt (i := 1) (oi := ⟨some 14, _, _, _, _, _⟩) (v := ?_) rfl ?_ ?_
  rotate_left
  · (intro w hSw; (try dsimp only at hSw); have hX0 := (Keep.at hSw 0 rfl).cells; go_simp; try with_reducible rfl)
  try simp only [Act.put, pa, p0, p1]
  refine wt (i := 3) (oi := ⟨some 16, _, _, _, _, _⟩) (v := ?_) rfl ?_ ?_
  rotate_left
  · (intro w hSw; (try dsimp only at hSw); have hX0 := (Keep.at hSw 0 rfl).cells; go_simp; try with_reducible rfl)
  try simp only [Act.put, pa, p0, p1]
  refine wt (i := 4) (oi := ⟨some 17, _, _, _, _, _⟩) (v := ?_) rfl ?_ ?_
  rotate_left
  · (intro w hSw; (try dsimp only at hSw); have hX0 := (Keep.at hSw 0 rfl).cells; go_simp; try with_reducible rfl)
  try simp only [Act.put, pa, p0, p1]
  refine wt (i := 7) (oi := ⟨some 20, _, _, _, _, _⟩) (v := ?_) rfl ?_ ?_
  rotate_left
  · (intro w hSw; (try dsimp only at hSw); have hX0 := (Keep.at hSw 0 rfl).cells; go_simp; try with_reducible rfl)
  try simp only [Act.put, pa, p0, p1]
  refine wt (i := 8) (oi := ⟨some 21, _, _, _, _, _⟩) (v := ?_) rfl ?_ ?_
  rotate_left
  · (intro w hSw; (try dsimp only at hSw); have hX0 := (Keep.at hSw 0 rfl).cells; go_simp; try with_reducible rfl)
  try simp only [Act.put, pa, p0, p1]
  refine wt (i := 9) (oi := ⟨some 22, _, _, _, _, _⟩) (v := ?_) rfl ?_ ?_
  rotate_left
  · (intro w hSw; (try dsimp only at hSw); have hX0 := (Keep.at hSw 0 rfl).cells; go_simp; try with_reducible rfl)
  try simp only [Act.put, pa, p0, p1]
  refine wt (i := 12) (oi := ⟨some 25, _, _, _, _, _⟩) (v := ?_) rfl ?_ ?_
  rotate_left
  · (intro w hSw; (try dsimp only at hSw); have hX0 := (Keep.at hSw 0 rfl).cells; go_simp; try with_reducible rfl)
  try simp only [Act.put, pa, p0, p1]
  refine wt (i := 13) (oi := ⟨some 26, _, _, _, _, _⟩) (v := ?_) rfl ?_ ?_
  rotate_left
  · (intro w hSw; (try dsimp only at hSw); have hX0 := (Keep.at hSw 0 rfl).cells; go_simp; try with_reducible rfl)
  try simp only [Act.put, pa, p0, p1]
  refine wt (i := 14) (oi := ⟨some 27, _, _, _, _, _⟩) (v := ?_) rfl ?_ ?_
  rotate_left
  · (intro w hSw; (try dsimp only at hSw); have hX0 := (Keep.at hSw 0 rfl).cells; go_simp; try with_reducible rfl)
  try simp only [Act.put, pa, p0, p1]
  refine wt (i := 15) (oi := ⟨some 28, _, _, _, _, _⟩) (v := ?_) rfl ?_ ?_
  rotate_left
  · (intro w hSw; (try dsimp only at hSw); have hX0 := (Keep.at hSw 0 rfl).cells; go_simp; try with_reducible rfl)
  try simp only [Act.put, pa, p0, p1]
  refine wt (i := 16) (oi := ⟨some 29, _, _, _, _, _⟩) (v := ?_) rfl ?_ ?_
  rotate_left
  · (intro w hSw; (try dsimp only at hSw); have hX0 := (Keep.at hSw 0 rfl).cells; go_simp; try with_reducible rfl)
  try simp only [Act.put, pa, p0, p1]
  refine wt (i := 18) (oi := ⟨some 31, _, _, _, _, _⟩) (v := ?_) rfl ?_ ?_
  rotate_left
  · (intro w hSw; (try dsimp only at hSw); have hX0 := (Keep.at hSw 0 rfl).cells; go_simp; try with_reducible rfl)
  try simp only [Act.put, pa, p0, p1]
  refine wt (i := 19) (oi := ⟨some 32, _, _, _, _, _⟩) (v := ?_) rfl ?_ ?_
  rotate_left
  · (intro w hSw; (try dsimp only at hSw); have hX0 := (Keep.at hSw 0 rfl).cells; go_simp; try with_reducible rfl)
  try simp only [Act.put, pa, p0, p1]
  refine wt (i := 22) (oi := ⟨some 35, _, _, _, _, _⟩) (v := ?_) rfl ?_ ?_
  rotate_left
  · (intro w hSw; (try dsimp only at hSw); have hX0 := (Keep.at hSw 0 rfl).cells; go_simp; try with_reducible rfl)
  try simp only [Act.put, pa, p0, p1]
  refine wt (i := 23) (oi := ⟨some 36, _, _, _, _, _⟩) (v := ?_) rfl ?_ ?_
  rotate_left
  · (intro w hSw; (try dsimp only at hSw); have hX0 := (Keep.at hSw 0 rfl).cells; go_simp; try with_reducible rfl)
  try simp only [Act.put, pa, p0, p1]
  refine wpAnyH_ready (rs := [2]) (by kernel_rfl) (by simp) ?_
  refine AllReadyH.cons (o := ⟨some 15, _, _, _, _, _⟩) rfl (fun K hK => ?_) AllReadyH.nil
  go_simp
  (go_at_call 82; refine Calls.mono (Y1.out _) ?_; rintro e w9 ⟨rfl, hb1⟩; replace HK := Lib.hid (HK.out.below hb1); clear hb1; go_simp)
  refine hK.out _ _ ?_ (fun hHeld => ?_)
  · (first | exact HK.out | exact HK.out.drew | exact HK.out.drewN _)
  clear hK K hHeld
  have hHeld := HK.out
  try simp only [Act.put, pa, p0, p1]
  refine wpAnyH_ready (rs := [5]) (by kernel_rfl) (by simp) ?_
  refine AllReadyH.cons (o := ⟨some 18, _, _, _, _, _⟩) rfl (fun K hK => ?_) AllReadyH.nil
  go_simp
  (go_at_call 82; refine Calls.mono (Y2.out _) ?_; rintro e w9 ⟨rfl, hb1⟩; replace HK := Lib.hid (HK.out.below hb1); clear hb1; go_simp)
  refine hK.out _ _ ?_ (fun hHeld => ?_)
  · (first | exact HK.out | exact HK.out.drew | exact HK.out.drewN _)
  clear hK K hHeld
  have hHeld := HK.out
  try simp only [Act.put, pa, p0, p1]
  refine wt (i := 6) (oi := ⟨some 19, _, _, _, _, _⟩) (v := ?_) rfl ?_ ?_
  rotate_left
  · (intro w hSw; (try dsimp only at hSw); have hX0 := (Keep.at hSw 0 rfl).cells; go_simp; try with_reducible rfl)
  try simp only [Act.put, pa, p0, p1]
  refine wpAnyH_ready (rs := [10]) (by kernel_rfl) (by simp) ?_
  refine AllReadyH.cons (o := ⟨some 23, _, _, _, _, _⟩) rfl (fun K hK => ?_) AllReadyH.nil
  go_simp
  (go_at_call 82; refine Calls.mono (Y3.out _) ?_; rintro e w9 ⟨rfl, hb1⟩; replace HK := Lib.hid (HK.out.below hb1); clear hb1; go_simp)
  refine hK.out _ _ ?_ (fun hHeld => ?_)
  · (first | exact HK.out | exact HK.out.drew | exact HK.out.drewN _)
  clear hK K hHeld
  have hHeld := HK.out
  try simp only [Act.put, pa, p0, p1]
  refine wt (i := 11) (oi := ⟨some 24, _, _, _, _, _⟩) (v := ?_) rfl ?_ ?_
  rotate_left
  · (intro w hSw; (try dsimp only at hSw); have hX0 := (Keep.at hSw 0 rfl).cells; go_simp; try with_reducible rfl)
  try simp only [Act.put, pa, p0, p1]
  refine wt (i := 17) (oi := ⟨some 30, _, _, _, _, _⟩) (v := ?_) rfl ?_ ?_
  rotate_left
  · (intro w hSw; (try dsimp only at hSw); have hX0 := (Keep.at hSw 0 rfl).cells; go_simp; try with_reducible rfl)
  try simp only [Act.put, pa, p0, p1]
  refine wpAnyH_ready (rs := [20]) (by kernel_rfl) (by simp) ?_
  refine AllReadyH.cons (o := ⟨some 33, _, _, _, _, _⟩) rfl (fun K hK => ?_) AllReadyH.nil
  go_simp
  (go_at_call 82; refine Calls.mono (Y4.out _) ?_; rintro e w9 ⟨rfl, hb1⟩; replace HK := Lib.hid (HK.out.below hb1); clear hb1; go_simp)
  refine hK.out _ _ ?_ (fun hHeld => ?_)
  · (first | exact HK.out | exact HK.out.drew | exact HK.out.drewN _)
  clear hK K hHeld
  have hHeld := HK.out
  try simp only [Act.put, pa, p0, p1]
  refine wt (i := 21) (oi := ⟨some 34, _, _, _, _, _⟩) (v := ?_) rfl ?_ ?_
  rotate_left
  · (intro w hSw; (try dsimp only at hSw); have hX0 := (Keep.at hSw 0 rfl).cells; go_simp; try with_reducible rfl)
  try simp only [Act.put, pa, p0, p1]
  refine wpAnyH_ready (rs := [24]) (by kernel_rfl) (by simp) ?_
  refine AllReadyH.cons (o := ⟨some 37, _, _, _, _, _⟩) rfl (fun K hK => ?_) AllReadyH.nil
  go_simp
  (go_at_call 82; refine Calls.mono (Y5.out _) ?_; rintro e w9 ⟨rfl, hb1⟩; replace HK := Lib.hid (HK.out.below hb1); clear hb1; go_simp)
  refine hK.out _ _ ?_ (fun hHeld => ?_)
  · (first | exact HK.out | exact HK.out.drew | exact HK.out.drewN _)
  clear hK K hHeld
  have hHeld := HK.out
  try simp only [Act.put, pa, p0, p1]
  refine wt (i := 25) (oi := ⟨some 38, _, _, _, _, _⟩) (v := ?_) rfl ?_ ?_
  rotate_left
  · (intro w hSw; (try dsimp only at hSw); have hX0 := (Keep.at hSw 0 rfl).cells; go_simp; try with_reducible rfl)
  try simp only [Act.put, pa, p0, p1]
  refine wt (i := 26) (oi := ⟨some 4, _, _, _, _, _⟩) (v := ?_) rfl ?_ ?_
  rotate_left
  · (intro w hSw; (try dsimp only at hSw); have hX0 := (Keep.at hSw 0 rfl).cells; go_simp; try with_reducible rfl)
  try simp only [Act.put, pa, p0, p1]
  refine wpAnyH_done (by kernel_rfl) ?_ _
  refine NoPanic.normal ?_
  have hX := (HK.out.at 0 rfl).cells
  go_upto_region 6 with fail
  clear hX
  refine wp_region_noPanic ?_
  refine wp_region_held_drew (S := fun w' => Keep w [(w.heap.size, pkV p a c, 27)] [(a, subCells p.subs)] w') (by kernel_rfl) ?_ (fun hHeld => ?_)
  · (first | exact HK.out | exact HK.out.drew | exact HK.out.drewN _)
  replace HK := Lib.hid hHeld
  refine wt (i := 3) (oi := ⟨some 42, _, _, _, _, _⟩) (v := ?_) rfl ?_ ?_
  rotate_left
  · (intro w hSw; (try dsimp only at hSw); have hX0 := (Keep.at hSw 0 rfl).cells; go_simp; try with_reducible rfl)
  try simp only [Act.put, pa, p0, p1]
  refine wt (i := 6) (oi := ⟨some 45, _, _, _, _, _⟩) (v := ?_) rfl ?_ ?_
  rotate_left
  · (intro w hSw; (try dsimp only at hSw); have hX0 := (Keep.at hSw 0 rfl).cells; go_simp; try with_reducible rfl)
  try simp only [Act.put, pa, p0, p1]
  refine wt (i := 7) (oi := ⟨some 46, _, _, _, _, _⟩) (v := ?_) rfl ?_ ?_
  rotate_left
  · (intro w hSw; (try dsimp only at hSw); have hX0 := (Keep.at hSw 0 rfl).cells; go_simp; try with_reducible rfl)
  try simp only [Act.put, pa, p0, p1]
  refine wt (i := 10) (oi := ⟨some 49, _, _, _, _, _⟩) (v := ?_) rfl ?_ ?_
  rotate_left
  · (intro w hSw; (try dsimp only at hSw); have hX0 := (Keep.at hSw 0 rfl).cells; go_simp; try with_reducible rfl)
  try simp only [Act.put, pa, p0, p1]
  refine wt (i := 11) (oi := ⟨some 50, _, _, _, _, _⟩) (v := ?_) rfl ?_ ?_
  rotate_left
  · (intro w hSw; (try dsimp only at hSw); have hX0 := (Keep.at hSw 0 rfl).cells; go_simp; try with_reducible rfl)
  try simp only [Act.put, pa, p0, p1]
  refine wpAnyH_ready (rs := [0]) (by kernel_rfl) (by simp) ?_
  refine AllReadyH.cons (o := ⟨some 39, _, _, _, _, _⟩) rfl (fun K hK => ?_) AllReadyH.nil
  go_simp
  (go_at_call 83; refine Calls.mono (CM.out _ HK.out.env) ?_; rintro e w9 ⟨rfl, hb1⟩; replace HK := Lib.hid (HK.out.below hb1); clear hb1; go_simp)
  refine hK.out _ _ ?_ (fun hHeld => ?_)
  · (first | exact HK.out | exact HK.out.drew | exact HK.out.drewN _)
  clear hK K hHeld
  have hHeld := HK.out
  try simp only [Act.put, pa, p0, p1]
  refine wpAnyH_ready (rs := [1]) (by kernel_rfl) (by simp) ?_
  refine AllReadyH.cons (o := ⟨some 40, _, _, _, _, _⟩) rfl (fun K hK => ?_) AllReadyH.nil
  go_simp
  (go_at_call 63; refine Calls.mono (CV.out _ HK.out.env) ?_; rintro e w9 ⟨rfl, hb1⟩; replace HK := Lib.hid (HK.out.below hb1); clear hb1; go_simp)
  refine hK.out _ _ ?_ (fun hHeld => ?_)
  · (first | exact HK.out | exact HK.out.drew | exact HK.out.drewN _)
  clear hK K hHeld
  have hHeld := HK.out
  try simp only [Act.put, pa, p0, p1]
  refine wt (i := 2) (oi := ⟨some 41, _, _, _, _, _⟩) (v := ?_) rfl ?_ ?_
  rotate_left
  · (intro w hSw; (try dsimp only at hSw); have hX0 := (Keep.at hSw 0 rfl).cells; go_simp; try with_reducible rfl)
  try simp only [Act.put, pa, p0, p1]
  refine wpAnyH_ready (rs := [4]) (by kernel_rfl) (by simp) ?_
  refine AllReadyH.cons (o := ⟨some 43, _, _, _, _, _⟩) rfl (fun K hK => ?_) AllReadyH.nil
  go_simp
  (go_at_call 63; refine Calls.mono (CF.out _ HK.out.env _ (by rw [hcn]; simp (disch := omega) only [wI]; push_cast; rfl)) ?_; rintro e w9 ⟨rfl, hb1⟩; replace HK := Lib.hid (HK.out.below hb1); clear hb1; go_simp)
  refine hK.out _ _ ?_ (fun hHeld => ?_)
  · (first | exact HK.out | exact HK.out.drew | exact HK.out.drewN _)
  clear hK K hHeld
  have hHeld := HK.out
  try simp only [Act.put, pa, p0, p1]
  refine wt (i := 5) (oi := ⟨some 44, _, _, _, _, _⟩) (v := ?_) rfl ?_ ?_
  rotate_left
  · (intro w hSw; (try dsimp only at hSw); have hX0 := (Keep.at hSw 0 rfl).cells; go_simp; try with_reducible rfl)
  try simp only [Act.put, pa, p0, p1]
  refine wpAnyH_ready (rs := [8]) (by kernel_rfl) (by simp) ?_
  refine AllReadyH.cons (o := ⟨some 47, _, _, _, _, _⟩) rfl (fun K hK => ?_) AllReadyH.nil
  go_simp
  (go_at_call 84; refine Calls.mono (CQ.out _ HK.out.env) ?_; rintro e w9 ⟨rfl, hb1⟩; replace HK := Lib.hid (HK.out.below hb1); clear hb1; go_simp)
  refine hK.out _ _ ?_ (fun hHeld => ?_)
  · (first | exact HK.out | exact HK.out.drew | exact HK.out.drewN _)
  clear hK K hHeld
  have hHeld := HK.out
  try simp only [Act.put, pa, p0, p1]
  refine wt (i := 9) (oi := ⟨some 48, _, _, _, _, _⟩) (v := ?_) rfl ?_ ?_
  rotate_left
  · (intro w hSw; (try dsimp only at hSw); have hX0 := (Keep.at hSw 0 rfl).cells; go_simp; try with_reducible rfl)
  try simp only [Act.put, pa, p0, p1]
  refine wpAnyH_ready (rs := [12]) (by kernel_rfl) (by simp) ?_
  refine AllReadyH.cons (o := ⟨some 51, _, _, _, _, _⟩) rfl (fun K hK => ?_) AllReadyH.nil
  go_simp
  (go_at_call 83; refine Calls.mono (CC.out _ HK.out.env) ?_; rintro e w9 ⟨rfl, hb1⟩; replace HK := Lib.hid (HK.out.below hb1); clear hb1; go_simp)
  refine hK.out _ _ ?_ (fun hHeld => ?_)
  · (first | exact HK.out | exact HK.out.drew | exact HK.out.drewN _)
  clear hK K hHeld
  have hHeld := HK.out
  try simp only [Act.put, pa, p0, p1]
  refine wt (i := 13) (oi := ⟨some 52, _, _, _, _, _⟩) (v := ?_) rfl ?_ ?_
  rotate_left
  · (intro w hSw; (try dsimp only at hSw); have hX0 := (Keep.at hSw 0 rfl).cells; go_simp; try with_reducible rfl)
  try simp only [Act.put, pa, p0, p1]
  refine wt (i := 14) (oi := ⟨some 3, _, _, _, _, _⟩) (v := ?_) rfl ?_ ?_
  rotate_left
  · (intro w hSw; (try dsimp only at hSw); have hX0 := (Keep.at hSw 0 rfl).cells; go_simp; try with_reducible rfl)
  try simp only [Act.put, pa, p0, p1]
  refine wpAnyH_done (by kernel_rfl) ?_ _
  refine NoPanic.normal ?_
  have hX := (HK.out.at 0 rfl).cells
  go_upto_region 8 with fail
  clear hX
  refine wp_region_noPanic ?_
  refine wp_region_held_drew (S := fun w' => Keep w [(w.heap.size, pkV p a c, 27)] [(a, subCells p.subs)] w') (by kernel_rfl) ?_ (fun hHeld => ?_)
  · (first | exact HK.out | exact HK.out.drew | exact HK.out.drewN _)
  replace HK := Lib.hid hHeld
  refine wt (i := 0) (oi := ⟨some 55, _, _, _, _, _⟩) (v := ?_) rfl ?_ ?_
  rotate_left
  · (intro w hSw; (try dsimp only at hSw); have hX0 := (Keep.at hSw 0 rfl).cells; go_simp; try with_reducible rfl)
  try simp only [Act.put, pa, p0, p1]
  refine wt (i := 1) (oi := ⟨some 56, _, _, _, _, _⟩) (v := ?_) rfl ?_ ?_
  rotate_left
  · (intro w hSw; (try dsimp only at hSw); have hX0 := (Keep.at hSw 0 rfl).cells; go_simp; try with_reducible rfl)
  try simp only [Act.put, pa, p0, p1]
  refine wt (i := 2) (oi := ⟨some 57, _, _, _, _, _⟩) (v := ?_) rfl ?_ ?_
  rotate_left
  · (intro w hSw; (try dsimp only at hSw); have hX0 := (Keep.at hSw 0 rfl).cells; go_simp; try with_reducible rfl)
  try simp only [Act.put, pa, p0, p1]
  refine wt (i := 3) (oi := ⟨some 58, _, _, _, _, _⟩) (v := ?_) rfl ?_ ?_
  rotate_left
  · (intro w hSw; (try dsimp only at hSw); have hX0 := (Keep.at hSw 0 rfl).cells; go_simp; try with_reducible rfl)
  try simp only [Act.put, pa, p0, p1]
  refine wt (i := 6) (oi := ⟨some 61, _, _, _, _, _⟩) (v := ?_) rfl ?_ ?_
  rotate_left
  · (intro w hSw; (try dsimp only at hSw); have hX0 := (Keep.at hSw 0 rfl).cells; go_simp; try with_reducible rfl)
  try simp only [Act.put, pa, p0, p1]
  refine wt (i := 7) (oi := ⟨some 62, _, _, _, _, _⟩) (v := ?_) rfl ?_ ?_
  rotate_left
  · (intro w hSw; (try dsimp only at hSw); have hX0 := (Keep.at hSw 0 rfl).cells; go_simp; try with_reducible rfl)
  try simp only [Act.put, pa, p0, p1]
  refine wt (i := 8) (oi := ⟨some 63, _, _, _, _, _⟩) (v := ?_) rfl ?_ ?_
  rotate_left
  · (intro w hSw; (try dsimp only at hSw); have hX0 := (Keep.at hSw 0 rfl).cells; go_simp; try with_reducible rfl)
  try simp only [Act.put, pa, p0, p1]
  refine wpAnyH_ready (rs := [4]) (by kernel_rfl) (by simp) ?_
  refine AllReadyH.cons (o := ⟨some 59, _, _, _, _, _⟩) rfl (fun K hK => ?_) AllReadyH.nil
  go_simp
  (go_at_call 83; refine Calls.mono (CT.out _ HK.out.env) ?_; rintro e w9 ⟨rfl, hb1⟩; replace HK := Lib.hid (HK.out.below hb1); clear hb1; go_simp)
  refine hK.out _ _ ?_ (fun hHeld => ?_)
  · (first | exact HK.out | exact HK.out.drew | exact HK.out.drewN _)
  clear hK K hHeld
  have hHeld := HK.out
  try simp only [Act.put, pa, p0, p1]
  refine wt (i := 5) (oi := ⟨some 60, _, _, _, _, _⟩) (v := ?_) rfl ?_ ?_
  rotate_left
  · (intro w hSw; (try dsimp only at hSw); have hX0 := (Keep.at hSw 0 rfl).cells; go_simp; try with_reducible rfl)
  try simp only [Act.put, pa, p0, p1]
  refine wpAnyH_ready (rs := [9]) (by kernel_rfl) (by simp) ?_
  refine AllReadyH.cons (o := ⟨some 64, _, _, _, _, _⟩) rfl (fun K hK => ?_) AllReadyH.nil
  go_simp
  (go_at_call 83; refine Calls.mono (CY.out _ HK.out.env) ?_; rintro e w9 ⟨rfl, hb1⟩; replace HK := Lib.hid (HK.out.below hb1); clear hb1; go_simp)
  refine hK.out _ _ ?_ (fun hHeld => ?_)
  · (first | exact HK.out | exact HK.out.drew | exact HK.out.drewN _)
  clear hK K hHeld
  have hHeld := HK.out
  try simp only [Act.put, pa, p0, p1]
  refine wt (i := 10) (oi := ⟨some 65, _, _, _, _, _⟩) (v := ?_) rfl ?_ ?_
  rotate_left
  · (intro w hSw; (try dsimp only at hSw); have hX0 := (Keep.at hSw 0 rfl).cells; go_simp; try with_reducible rfl)
  try simp only [Act.put, pa, p0, p1]
  refine wt (i := 11) (oi := ⟨some 3, _, _, _, _, _⟩) (v := ?_) rfl ?_ ?_
  rotate_left
  · (intro w hSw; (try dsimp only at hSw); have hX0 := (Keep.at hSw 0 rfl).cells; go_simp; try with_reducible rfl)
  try simp only [Act.put, pa, p0, p1]
  refine wpAnyH_done (by kernel_rfl) ?_ _
  refine NoPanic.normal ?_
  have hX := (HK.out.at 0 rfl).cells
  go_wp2_with (go_at_call 83; (with_reducible refine Calls.mono (CS.out _ HK.out.env) ?_); rintro e w1 ⟨rfl, hb1⟩; replace HK := Lib.hid (HK.out.below hb1); have hX := (HK.out.at 0 rfl).cells; clear hb1)
  go_ret
  exact FIN.out _ _ HX.out HK.out.low
set_option maxRecDepth 100000 in
set_option maxHeartbeats 8000000 in
theorem encR_1110 (p : Pk) (a : Option Addr) (c : Nat) (w : World) (hE : Env w) (hp : PkOk p) (ha : CellsA w a (subCells p.subs)) (h0 : 0 ≤ restP p) (ht : p.ty = 1) (hw : p.hasWill = true) (hu : p.hasUser = true) (hs : p.hasPass = false) : Calls Tryd.prog 61 #[.agg (pkV p a c)] w fun e w' => e = .returned (.string (bB (restB p))) ∧ Below w.heap.size w w' := by
  have FIN := Lib.hid (show ∀ (s : ByteArray) (w' : World), s = bB (restB p) → Below w.heap.size w w' → Ending.returned (.string s) = .returned (.string (bB (restB p))) ∧ Below w.heap.size w w' from by rintro s w' rfl h; exact ⟨rfl, h⟩)
  have HK := Lib.hid ((Keep.begin hE [(a, subCells p.subs)] (by intro r hr; simp at hr; subst hr; exact ha)).alloc' (pkV p a c) 27 w.heap.size rfl)
  obtain ⟨hc, _⟩ := con_parts ht h0
  obtain ⟨hl, hcl, hwo, huo, hso, hv, hz⟩ := con_fields hc
  have hcz := valid_some hcl
  rw [blen] at hcz
  have huz := valid_some hv
  rw [blen] at huz
  have hkp := hp.keep
  have hq2 : p.wqos ≤ 2 := by
    unfold willOk at hwo
    rw [hw] at hwo
    simp at hwo
    first | exact hwo.2 | (have := hwo.2.2.1; omega)
  have hwz : p.wtopic.size ≤ 65535 ∧ p.wpayload.size ≤ 65535 := by
    unfold willOk at hwo
    rw [hw] at hwo
    simp only [if_true, Bool.and_eq_true, decide_eq_true_eq] at hwo
    have := name_len hwo.1.1
    rw [blen] at this
    exact ⟨this, hwo.1.2⟩
  have hcf := (flags_con p.hasUser p.hasPass p.wret p.hasWill p.clean p.wqos hq2 (conFlags p) rfl).1
  have HX := Lib.hid (show bB (dataB mqtt) ++ bB [byteN 4] ++ bB [byteN (conFlags p)] ++ bB (wordB p.keep) ++ bB (dataB p.client) ++ bB (dataB p.wtopic) ++ bB (dataB p.wpayload) ++ bB (dataB p.user) = bB (restB p) by
    unfold restB connectB
    rw [if_pos ht, hw, hu, hs, hl]
    simp only [if_true, if_false, Bool.false_eq_true, List.append_nil]
    have e1 : [byteN 4, byteN (conFlags p)] = [byteN 4] ++ [byteN (conFlags p)] := rfl
    rw [e1]
    simp only [bB_two, ByteArray.append_assoc])
  have hwc : IntKind.i64.wrap (p.wqos : Int) = (p.wqos : Int) := wrapI64 _ (by omega)
  have hcn : conFlags p = bitN true 128 + bitN false 64 + bitN p.wret 32 + 8 * p.wqos + bitN true 4 + bitN p.clean 2 := by unfold conFlags; rw [hw, hu, hs]
  have Y1 := Lib.hid (fun w1 => ref04_yes' true 128 128 rfl w1)
  have Y2 := Lib.hid (fun w1 => ref04_yes' false 64 64 rfl w1)
  have Y3 := Lib.hid (fun w1 => ref04_yes' p.wret 32 32 rfl w1)
  have Y4 := Lib.hid (fun w1 => ref04_yes' true 4 4 rfl w1)
  have Y5 := Lib.hid (fun w1 => ref04_yes' p.clean 2 2 rfl w1)
  have b1 : bitN true 128 ≤ 128 := by decide
  have b2 : bitN false 64 ≤ 64 := by decide
  have b3 : bitN p.wret 32 ≤ 32 := by unfold bitN; split <;> omega
  have b4 : bitN true 4 ≤ 4 := by decide
  have b5 : bitN p.clean 2 ≤ 2 := by unfold bitN; split <;> omega
  have CM := Lib.hid (fun w1 hE => ref04_data mqtt (by decide) w1 hE)
  have CV := Lib.hid (fun w1 hE => ref04_one' 4 4 rfl (by decide) w1 hE)
  have CF := Lib.hid (fun w1 hE z hz => ref04_one' z (conFlags p) hz hcf w1 hE)
  have CQ := Lib.hid (fun w1 hE => ref04_word p.keep (by omega) w1 hE)
  have CC := Lib.hid (fun w1 hE => ref04_data p.client hcz w1 hE)
  have CT := Lib.hid (fun w1 hE => ref04_data p.wtopic hwz.1 w1 hE)
  have CY := Lib.hid (fun w1 hE => ref04_data p.wpayload hwz.2 w1 hE)
  have CU := Lib.hid (fun w1 hE => ref04_data p.user huz w1 hE)
  have zM : (bB (dataB mqtt)).size ≤ 65537 := by
    have e : (bB (dataB mqtt)).size = (dataB mqtt).length := rfl
    have := (show mqtt.size ≤ 65535 by decide)
    rw [e, dataB_len]; omega
  have zV : (bB [byteN 4]).size ≤ 65537 := by
    have e : (bB [byteN 4]).size = 1 := rfl
    omega
  have zF : (bB [byteN (conFlags p)]).size ≤ 65537 := by
    have e : (bB [byteN (conFlags p)]).size = 1 := rfl
    omega
  have zQ : (bB (wordB p.keep)).size ≤ 65537 := by
    have e : (bB (wordB p.keep)).size = 2 := rfl
    omega
  have zC : (bB (dataB p.client)).size ≤ 65537 := by
    have e : (bB (dataB p.client)).size = (dataB p.client).length := rfl
    have := hcz
    rw [e, dataB_len]; omega
  have zT : (bB (dataB p.wtopic)).size ≤ 65537 := by
    have e : (bB (dataB p.wtopic)).size = (dataB p.wtopic).length := rfl
    have := hwz.1
    rw [e, dataB_len]; omega
  have zY : (bB (dataB p.wpayload)).size ≤ 65537 := by
    have e : (bB (dataB p.wpayload)).size = (dataB p.wpayload).length := rfl
    have := hwz.2
    rw [e, dataB_len]; omega
  have zU : (bB (dataB p.user)).size ≤ 65537 := by
    have e : (bB (dataB p.user)).size = (dataB p.user).length := rfl
    have := huz
    rw [e, dataB_len]; omega
  generalize bB (dataB mqtt) = DM at *
  generalize bB [byteN 4] = DV at *
  generalize bB [byteN (conFlags p)] = DF at *
  generalize bB (wordB p.keep) = DQ at *
  generalize bB (dataB p.client) = DC at *
  generalize bB (dataB p.wtopic) = DT at *
  generalize bB (dataB p.wpayload) = DY at *
  generalize bB (dataB p.user) = DU at *
  generalize conFlags p = cf at *
  generalize bitN true 128 = x1 at *
  generalize bitN false 64 = x2 at *
  generalize bitN p.wret 32 = x3 at *
  generalize bitN true 4 = x4 at *
  generalize bitN p.clean 2 = x5 at *
  have g1 : ¬ 9223372036854775807 < DM.size + DV.size := by omega
  have g2 : ¬ 9223372036854775807 < DM.size + DV.size + DF.size := by omega
  have g3 : ¬ 9223372036854775807 < DM.size + DV.size + DF.size + DQ.size := by omega
  have g4 : ¬ 9223372036854775807 < DM.size + DV.size + DF.size + DQ.size + DC.size := by omega
  have g5 : ¬ 9223372036854775807 < DM.size + DV.size + DF.size + DQ.size + DC.size + DT.size := by omega
  have g6 : ¬ 9223372036854775807 < DM.size + DV.size + DF.size + DQ.size + DC.size + DT.size + DY.size := by omega
  have g7 : ¬ 9223372036854775807 < DM.size + DV.size + DF.size + DQ.size + DC.size + DT.size + DY.size + DU.size := by omega
  obtain ⟨k0, k1, k2, k3, k4, k5, k6, k7, k8, k9, k10, k11, k12, k13, k14, k15, k16, k17, k18, k19, k20, k21, k22, k23⟩ := pk_at p a c
  replace k0 : (pkV p a c)[0]? = some (.int .u8 1) := by rw [k0, ht]; rfl
  rw [hw] at k11
  rw [hu] at k16
  rw [hs] at k17
  clear hE ha hp h0 hc hl hcl hwo huo hso hv hcz huz hz hwz hw hu hs
  go_enter Tryd.func61, Tryd.ntmps61
  go_upto_region 1 with fail
  show Code.wp _ _ _ _ (w.alloc (.cells (pkV p a c) 27))
  generalize World.alloc w _ = w2 at HK ⊢
  have hX := (HK.out.at 0 rfl).cells
  go_upto_region 5 with fail
  clear hX
  refine wp_region_noPanic ?_
  refine wp_region_held_drew (S := fun w' => Keep w [(w.heap.size, pkV p a c, 27)] [(a, subCells p.subs)] w') (by kernel_rfl) ?_ (fun hHeld => ?_)
  · (first | exact HK.out | exact HK.out.drew | exact HK.out.drewN _)
  replace HK := Lib.hid hHeld
  refine wt (i := 0) (oi := ⟨some 13, _, _, _, _, _⟩) (v := ?_) rfl ?_ ?_
  rotate_left
  · (intro w hSw; (try dsimp only at hSw); have hX0 := (Keep.at hSw 0 rfl).cells; go_simp; try with_reducible rfl)
  try simp only [Act.put, pa, p0, p1]
  refine wt (i := 1) (oi := ⟨some 14, _, _, _, _, _⟩) (v := ?_) rfl ?_ ?_
  rotate_left
  · (intro w hSw; (try dsimp only at hSw); have hX0 := (Keep.at hSw 0 rfl).cells; go_simp; try with_reducible rfl)
  try simp only [Act.put, pa, p0, p1]
  refine wt (i := 3) (oi := ⟨some 16, _, _, _, _, _⟩) (v := ?_) rfl ?_ ?_
  rotate_left
  · (intro w hSw; (try dsimp only at hSw); have hX0 := (Keep.at hSw 0 rfl).cells; go_simp; try with_reducible rfl)
  try simp only [Act.put, pa, p0, p1]
  refine wt (i := 4) (oi := ⟨some 17, _, _, _, _, _⟩) (v := ?_) rfl ?_ ?_
  rotate_left
  · (intro w hSw; (try dsimp only at hSw); have hX0 := (Keep.at hSw 0 rfl).cells; go_simp; try with_reducible rfl)
  try simp only [Act.put, pa, p0, p1]
  refine wt (i := 7) (oi := ⟨some 20, _, _, _, _, _⟩) (v := ?_) rfl ?_ ?_
  rotate_left
  · (intro w hSw; (try dsimp only at hSw); have hX0 := (Keep.at hSw 0 rfl).cells; go_simp; try with_reducible rfl)
  try simp only [Act.put, pa, p0, p1]
  refine wt (i := 8) (oi := ⟨some 21, _, _, _, _, _⟩) (v := ?_) rfl ?_ ?_
  rotate_left
  · (intro w hSw; (try dsimp only at hSw); have hX0 := (Keep.at hSw 0 rfl).cells; go_simp; try with_reducible rfl)
  try simp only [Act.put, pa, p0, p1]
  refine wt (i := 9) (oi := ⟨some 22, _, _, _, _, _⟩) (v := ?_) rfl ?_ ?_
  rotate_left
  · (intro w hSw; (try dsimp only at hSw); have hX0 := (Keep.at hSw 0 rfl).cells; go_simp; try with_reducible rfl)
  try simp only [Act.put, pa, p0, p1]
  refine wt (i := 12) (oi := ⟨some 25, _, _, _, _, _⟩) (v := ?_) rfl ?_ ?_
  rotate_left
  · (intro w hSw; (try dsimp only at hSw); have hX0 := (Keep.at hSw 0 rfl).cells; go_simp; try with_reducible rfl)
  try simp only [Act.put, pa, p0, p1]
  refine wt (i := 13) (oi := ⟨some 26, _, _, _, _, _⟩) (v := ?_) rfl ?_ ?_
  rotate_left
  · (intro w hSw; (try dsimp only at hSw); have hX0 := (Keep.at hSw 0 rfl).cells; go_simp; try with_reducible rfl)
  try simp only [Act.put, pa, p0, p1]
  refine wt (i := 14) (oi := ⟨some 27, _, _, _, _, _⟩) (v := ?_) rfl ?_ ?_
  rotate_left
  · (intro w hSw; (try dsimp only at hSw); have hX0 := (Keep.at hSw 0 rfl).cells; go_simp; try with_reducible rfl)
  try simp only [Act.put, pa, p0, p1]
  refine wt (i := 15) (oi := ⟨some 28, _, _, _, _, _⟩) (v := ?_) rfl ?_ ?_
  rotate_left
  · (intro w hSw; (try dsimp only at hSw); have hX0 := (Keep.at hSw 0 rfl).cells; go_simp; try with_reducible rfl)
  try simp only [Act.put, pa, p0, p1]
  refine wt (i := 16) (oi := ⟨some 29, _, _, _, _, _⟩) (v := ?_) rfl ?_ ?_
  rotate_left
  · (intro w hSw; (try dsimp only at hSw); have hX0 := (Keep.at hSw 0 rfl).cells; go_simp; try with_reducible rfl)
  try simp only [Act.put, pa, p0, p1]
  refine wt (i := 18) (oi := ⟨some 31, _, _, _, _, _⟩) (v := ?_) rfl ?_ ?_
  rotate_left
  · (intro w hSw; (try dsimp only at hSw); have hX0 := (Keep.at hSw 0 rfl).cells; go_simp; try with_reducible rfl)
  try simp only [Act.put, pa, p0, p1]
  refine wt (i := 19) (oi := ⟨some 32, _, _, _, _, _⟩) (v := ?_) rfl ?_ ?_
  rotate_left
  · (intro w hSw; (try dsimp only at hSw); have hX0 := (Keep.at hSw 0 rfl).cells; go_simp; try with_reducible rfl)
  try simp only [Act.put, pa, p0, p1]
  refine wt (i := 22) (oi := ⟨some 35, _, _, _, _, _⟩) (v := ?_) rfl ?_ ?_
  rotate_left
  · (intro w hSw; (try dsimp only at hSw); have hX0 := (Keep.at hSw 0 rfl).cells; go_simp; try with_reducible rfl)
  try simp only [Act.put, pa, p0, p1]
  refine wt (i := 23) (oi := ⟨some 36, _, _, _, _, _⟩) (v := ?_) rfl ?_ ?_
  rotate_left
  · (intro w hSw; (try dsimp only at hSw); have hX0 := (Keep.at hSw 0 rfl).cells; go_simp; try with_reducible rfl)
  try simp only [Act.put, pa, p0, p1]
  refine wpAnyH_ready (rs := [2]) (by kernel_rfl) (by simp) ?_
  refine AllReadyH.cons (o := ⟨some 15, _, _, _, _, _⟩) rfl (fun K hK => ?_) AllReadyH.nil
  go_simp
  (go_at_call 82; refine Calls.mono (Y1.out _) ?_; rintro e w9 ⟨rfl, hb1⟩; replace HK := Lib.hid (HK.out.below hb1); clear hb1; go_simp)
  refine hK.out _ _ ?_ (fun hHeld => ?_)
  · (first | exact HK.out | exact HK.out.drew | exact HK.out.drewN _)
  clear hK K hHeld
  have hHeld := HK.out
  try simp only [Act.put, pa, p0, p1]
  refine wpAnyH_ready (rs := [5]) (by kernel_rfl) (by simp) ?_
  refine AllReadyH.cons (o := ⟨some 18, _, _, _, _, _⟩) rfl (fun K hK => ?_) AllReadyH.nil
  go_simp
  (go_at_call 82; refine Calls.mono (Y2.out _) ?_; rintro e w9 ⟨rfl, hb1⟩; replace HK := Lib.hid (HK.out.below hb1); clear hb1; go_simp)
  refine hK.out _ _ ?_ (fun hHeld => ?_)
  · (first | exact HK.out | exact HK.out.drew | exact HK.out.drewN _)
  clear hK K hHeld
  have hHeld := HK.out
  try simp only [Act.put, pa, p0, p1]
  refine wt (i := 6) (oi := ⟨some 19, _, _, _, _, _⟩) (v := ?_) rfl ?_ ?_
  rotate_left
  · (intro w hSw; (try dsimp only at hSw); have hX0 := (Keep.at hSw 0 rfl).cells; go_simp; try with_reducible rfl)
  try simp only [Act.put, pa, p0, p1]
  refine wpAnyH_ready (rs := [10]) (by kernel_rfl) (by simp) ?_
  refine AllReadyH.cons (o := ⟨some 23, _, _, _, _, _⟩) rfl (fun K hK => ?_) AllReadyH.nil
  go_simp
  (go_at_call 82; refine Calls.mono (Y3.out _) ?_; rintro e w9 ⟨rfl, hb1⟩; replace HK := Lib.hid (HK.out.below hb1); clear hb1; go_simp)
  refine hK.out _ _ ?_ (fun hHeld => ?_)
  · (first | exact HK.out | exact HK.out.drew | exact HK.out.drewN _)
  clear hK K hHeld
  have hHeld := HK.out
  try simp only [Act.put, pa, p0, p1]
  refine wt (i := 11) (oi := ⟨some 24, _, _, _, _, _⟩) (v := ?_) rfl ?_ ?_
  rotate_left
  · (intro w hSw; (try dsimp only at hSw); have hX0 := (Keep.at hSw 0 rfl).cells; go_simp; try with_reducible rfl)
  try simp only [Act.put, pa, p0, p1]
  refine wt (i := 17) (oi := ⟨some 30, _, _, _, _, _⟩) (v := ?_) rfl ?_ ?_
  rotate_left
  · (intro w hSw; (try dsimp only at hSw); have hX0 := (Keep.at hSw 0 rfl).cells; go_simp; try with_reducible rfl)
  try simp only [Act.put, pa, p0, p1]
  refine wpAnyH_ready (rs := [20]) (by kernel_rfl) (by simp) ?_
  refine AllReadyH.cons (o := ⟨some 33, _, _, _, _, _⟩) rfl (fun K hK => ?_) AllReadyH.nil
  go_simp
  (go_at_call 82; refine Calls.mono (Y4.out _) ?_; rintro e w9 ⟨rfl, hb1⟩; replace HK := Lib.hid (HK.out.below hb1); clear hb1; go_simp)
  refine hK.out _ _ ?_ (fun hHeld => ?_)
  · (first | exact HK.out | exact HK.out.drew | exact HK.out.drewN _)
  clear hK K hHeld
  have hHeld := HK.out
  try simp only [Act.put, pa, p0, p1]
  refine wt (i := 21) (oi := ⟨some 34, _, _, _, _, _⟩) (v := ?_) rfl ?_ ?_
  rotate_left
  · (intro w hSw; (try dsimp only at hSw); have hX0 := (Keep.at hSw 0 rfl).cells; go_simp; try with_reducible rfl)
  try simp only [Act.put, pa, p0, p1]
  refine wpAnyH_ready (rs := [24]) (by kernel_rfl) (by simp) ?_
  refine AllReadyH.cons (o := ⟨some 37, _, _, _, _, _⟩) rfl (fun K hK => ?_) AllReadyH.nil
  go_simp
  (go_at_call 82; refine Calls.mono (Y5.out _) ?_; rintro e w9 ⟨rfl, hb1⟩; replace HK := Lib.hid (HK.out.below hb1); clear hb1; go_simp)
  refine hK.out _ _ ?_ (fun hHeld => ?_)
  · (first | exact HK.out | exact HK.out.drew | exact HK.out.drewN _)
  clear hK K hHeld
  have hHeld := HK.out
  try simp only [Act.put, pa, p0, p1]
  refine wt (i := 25) (oi := ⟨some 38, _, _, _, _, _⟩) (v := ?_) rfl ?_ ?_
  rotate_left
  · (intro w hSw; (try dsimp only at hSw); have hX0 := (Keep.at hSw 0 rfl).cells; go_simp; try with_reducible rfl)
  try simp only [Act.put, pa, p0, p1]
  refine wt (i := 26) (oi := ⟨some 4, _, _, _, _, _⟩) (v := ?_) rfl ?_ ?_
  rotate_left
  · (intro w hSw; (try dsimp only at hSw); have hX0 := (Keep.at hSw 0 rfl).cells; go_simp; try with_reducible rfl)
  try simp only [Act.put, pa, p0, p1]
  refine wpAnyH_done (by kernel_rfl) ?_ _
  refine NoPanic.normal ?_
  have hX := (HK.out.at 0 rfl).cells
  go_upto_region 6 with fail
  clear hX
  refine wp_region_noPanic ?_
  refine wp_region_held_drew (S := fun w' => Keep w [(w.heap.size, pkV p a c, 27)] [(a, subCells p.subs)] w') (by kernel_rfl) ?_ (fun hHeld => ?_)
  · (first | exact HK.out | exact HK.out.drew | exact HK.out.drewN _)
  replace HK := Lib.hid hHeld
  refine wt (i := 3) (oi := ⟨some 42, _, _, _, _, _⟩) (v := ?_) rfl ?_ ?_
  rotate_left
  · (intro w hSw; (try dsimp only at hSw); have hX0 := (Keep.at hSw 0 rfl).cells; go_simp; try with_reducible rfl)
  try simp only [Act.put, pa, p0, p1]
  refine wt (i := 6) (oi := ⟨some 45, _, _, _, _, _⟩) (v := ?_) rfl ?_ ?_
  rotate_left
  · (intro w hSw; (try dsimp only at hSw); have hX0 := (Keep.at hSw 0 rfl).cells; go_simp; try with_reducible rfl)
  try simp only [Act.put, pa, p0, p1]
  refine wt (i := 7) (oi := ⟨some 46, _, _, _, _, _⟩) (v := ?_) rfl ?_ ?_
  rotate_left
  · (intro w hSw; (try dsimp only at hSw); have hX0 := (Keep.at hSw 0 rfl).cells; go_simp; try with_reducible rfl)
  try simp only [Act.put, pa, p0, p1]
  refine wt (i := 10) (oi := ⟨some 49, _, _, _, _, _⟩) (v := ?_) rfl ?_ ?_
  rotate_left
  · (intro w hSw; (try dsimp only at hSw); have hX0 := (Keep.at hSw 0 rfl).cells; go_simp; try with_reducible rfl)
  try simp only [Act.put, pa, p0, p1]
  refine wt (i := 11) (oi := ⟨some 50, _, _, _, _, _⟩) (v := ?_) rfl ?_ ?_
  rotate_left
  · (intro w hSw; (try dsimp only at hSw); have hX0 := (Keep.at hSw 0 rfl).cells; go_simp; try with_reducible rfl)
  try simp only [Act.put, pa, p0, p1]
  refine wpAnyH_ready (rs := [0]) (by kernel_rfl) (by simp) ?_
  refine AllReadyH.cons (o := ⟨some 39, _, _, _, _, _⟩) rfl (fun K hK => ?_) AllReadyH.nil
  go_simp
  (go_at_call 83; refine Calls.mono (CM.out _ HK.out.env) ?_; rintro e w9 ⟨rfl, hb1⟩; replace HK := Lib.hid (HK.out.below hb1); clear hb1; go_simp)
  refine hK.out _ _ ?_ (fun hHeld => ?_)
  · (first | exact HK.out | exact HK.out.drew | exact HK.out.drewN _)
  clear hK K hHeld
  have hHeld := HK.out
  try simp only [Act.put, pa, p0, p1]
  refine wpAnyH_ready (rs := [1]) (by kernel_rfl) (by simp) ?_
  refine AllReadyH.cons (o := ⟨some 40, _, _, _, _, _⟩) rfl (fun K hK => ?_) AllReadyH.nil
  go_simp
  (go_at_call 63; refine Calls.mono (CV.out _ HK.out.env) ?_; rintro e w9 ⟨rfl, hb1⟩; replace HK := Lib.hid (HK.out.below hb1); clear hb1; go_simp)
  refine hK.out _ _ ?_ (fun hHeld => ?_)
  · (first | exact HK.out | exact HK.out.drew | exact HK.out.drewN _)
  clear hK K hHeld
  have hHeld := HK.out
  try simp only [Act.put, pa, p0, p1]
  refine wt (i := 2) (oi := ⟨some 41, _, _, _, _, _⟩) (v := ?_) rfl ?_ ?_
  rotate_left
  · (intro w hSw; (try dsimp only at hSw); have hX0 := (Keep.at hSw 0 rfl).cells; go_simp; try with_reducible rfl)
  try simp only [Act.put, pa, p0, p1]
  refine wpAnyH_ready (rs := [4]) (by kernel_rfl) (by simp) ?_
  refine AllReadyH.cons (o := ⟨some 43, _, _, _, _, _⟩) rfl (fun K hK => ?_) AllReadyH.nil
  go_simp
  (go_at_call 63; refine Calls.mono (CF.out _ HK.out.env _ (by rw [hcn]; simp (disch := omega) only [wI]; push_cast; rfl)) ?_; rintro e w9 ⟨rfl, hb1⟩; replace HK := Lib.hid (HK.out.below hb1); clear hb1; go_simp)
  refine hK.out _ _ ?_ (fun hHeld => ?_)
  · (first | exact HK.out | exact HK.out.drew | exact HK.out.drewN _)
  clear hK K hHeld
  have hHeld := HK.out
  try simp only [Act.put, pa, p0, p1]
  refine wt (i := 5) (oi := ⟨some 44, _, _, _, _, _⟩) (v := ?_) rfl ?_ ?_
  rotate_left
  · (intro w hSw; (try dsimp only at hSw); have hX0 := (Keep.at hSw 0 rfl).cells; go_simp; try with_reducible rfl)
  try simp only [Act.put, pa, p0, p1]
  refine wpAnyH_ready (rs := [8]) (by kernel_rfl) (by simp) ?_
  refine AllReadyH.cons (o := ⟨some 47, _, _, _, _, _⟩) rfl (fun K hK => ?_) AllReadyH.nil
  go_simp
  (go_at_call 84; refine Calls.mono (CQ.out _ HK.out.env) ?_; rintro e w9 ⟨rfl, hb1⟩; replace HK := Lib.hid (HK.out.below hb1); clear hb1; go_simp)
  refine hK.out _ _ ?_ (fun hHeld => ?_)
  · (first | exact HK.out | exact HK.out.drew | exact HK.out.drewN _)
  clear hK K hHeld
  have hHeld := HK.out
  try simp only [Act.put, pa, p0, p1]
  refine wt (i := 9) (oi := ⟨some 48, _, _, _, _, _⟩) (v := ?_) rfl ?_ ?_
  rotate_left
  · (intro w hSw; (try dsimp only at hSw); have hX0 := (Keep.at hSw 0 rfl).cells; go_simp; try with_reducible rfl)
  try simp only [Act.put, pa, p0, p1]
  refine wpAnyH_ready (rs := [12]) (by kernel_rfl) (by simp) ?_
  refine AllReadyH.cons (o := ⟨some 51, _, _, _, _, _⟩) rfl (fun K hK => ?_) AllReadyH.nil
  go_simp
  (go_at_call 83; refine Calls.mono (CC.out _ HK.out.env) ?_; rintro e w9 ⟨rfl, hb1⟩; replace HK := Lib.hid (HK.out.below hb1); clear hb1; go_simp)
  refine hK.out _ _ ?_ (fun hHeld => ?_)
  · (first | exact HK.out | exact HK.out.drew | exact HK.out.drewN _)
  clear hK K hHeld
  have hHeld := HK.out
  try simp only [Act.put, pa, p0, p1]
  refine wt (i := 13) (oi := ⟨some 52, _, _, _, _, _⟩) (v := ?_) rfl ?_ ?_
  rotate_left
  · (intro w hSw; (try dsimp only at hSw); have hX0 := (Keep.at hSw 0 rfl).cells; go_simp; try with_reducible rfl)
  try simp only [Act.put, pa, p0, p1]
  refine wt (i := 14) (oi := ⟨some 3, _, _, _, _, _⟩) (v := ?_) rfl ?_ ?_
  rotate_left
  · (intro w hSw; (try dsimp only at hSw); have hX0 := (Keep.at hSw 0 rfl).cells; go_simp; try with_reducible rfl)
  try simp only [Act.put, pa, p0, p1]
  refine wpAnyH_done (by kernel_rfl) ?_ _
  refine NoPanic.normal ?_
  have hX := (HK.out.at 0 rfl).cells
  go_upto_region 8 with fail
  clear hX
  refine wp_region_noPanic ?_
  refine wp_region_held_drew (S := fun w' => Keep w [(w.heap.size, pkV p a c, 27)] [(a, subCells p.subs)] w') (by kernel_rfl) ?_ (fun hHeld => ?_)
  · (first | exact HK.out | exact HK.out.drew | exact HK.out.drewN _)
  replace HK := Lib.hid hHeld
  refine wt (i := 0) (oi := ⟨some 55, _, _, _, _, _⟩) (v := ?_) rfl ?_ ?_
  rotate_left
  · (intro w hSw; (try dsimp only at hSw); have hX0 := (Keep.at hSw 0 rfl).cells; go_simp; try with_reducible rfl)
  try simp only [Act.put, pa, p0, p1]
  refine wt (i := 1) (oi := ⟨some 56, _, _, _, _, _⟩) (v := ?_) rfl ?_ ?_
  rotate_left
  · (intro w hSw; (try dsimp only at hSw); have hX0 := (Keep.at hSw 0 rfl).cells; go_simp; try with_reducible rfl)
  try simp only [Act.put, pa, p0, p1]
  refine wt (i := 2) (oi := ⟨some 57, _, _, _, _, _⟩) (v := ?_) rfl ?_ ?_
  rotate_left
  · (intro w hSw; (try dsimp only at hSw); have hX0 := (Keep.at hSw 0 rfl).cells; go_simp; try with_reducible rfl)
  try simp only [Act.put, pa, p0, p1]
  refine wt (i := 3) (oi := ⟨some 58, _, _, _, _, _⟩) (v := ?_) rfl ?_ ?_
  rotate_left
  · (intro w hSw; (try dsimp only at hSw); have hX0 := (Keep.at hSw 0 rfl).cells; go_simp; try with_reducible rfl)
  try simp only [Act.put, pa, p0, p1]
  refine wt (i := 6) (oi := ⟨some 61, _, _, _, _, _⟩) (v := ?_) rfl ?_ ?_
  rotate_left
  · (intro w hSw; (try dsimp only at hSw); have hX0 := (Keep.at hSw 0 rfl).cells; go_simp; try with_reducible rfl)
  try simp only [Act.put, pa, p0, p1]
  refine wt (i := 7) (oi := ⟨some 62, _, _, _, _, _⟩) (v := ?_) rfl ?_ ?_
  rotate_left
  · (intro w hSw; (try dsimp only at hSw); have hX0 := (Keep.at hSw 0 rfl).cells; go_simp; try with_reducible rfl)
  try simp only [Act.put, pa, p0, p1]
  refine wt (i := 8) (oi := ⟨some 63, _, _, _, _, _⟩) (v := ?_) rfl ?_ ?_
  rotate_left
  · (intro w hSw; (try dsimp only at hSw); have hX0 := (Keep.at hSw 0 rfl).cells; go_simp; try with_reducible rfl)
  try simp only [Act.put, pa, p0, p1]
  refine wpAnyH_ready (rs := [4]) (by kernel_rfl) (by simp) ?_
  refine AllReadyH.cons (o := ⟨some 59, _, _, _, _, _⟩) rfl (fun K hK => ?_) AllReadyH.nil
  go_simp
  (go_at_call 83; refine Calls.mono (CT.out _ HK.out.env) ?_; rintro e w9 ⟨rfl, hb1⟩; replace HK := Lib.hid (HK.out.below hb1); clear hb1; go_simp)
  refine hK.out _ _ ?_ (fun hHeld => ?_)
  · (first | exact HK.out | exact HK.out.drew | exact HK.out.drewN _)
  clear hK K hHeld
  have hHeld := HK.out
  try simp only [Act.put, pa, p0, p1]
  refine wt (i := 5) (oi := ⟨some 60, _, _, _, _, _⟩) (v := ?_) rfl ?_ ?_
  rotate_left
  · (intro w hSw; (try dsimp only at hSw); have hX0 := (Keep.at hSw 0 rfl).cells; go_simp; try with_reducible rfl)
  try simp only [Act.put, pa, p0, p1]
  refine wpAnyH_ready (rs := [9]) (by kernel_rfl) (by simp) ?_
  refine AllReadyH.cons (o := ⟨some 64, _, _, _, _, _⟩) rfl (fun K hK => ?_) AllReadyH.nil
  go_simp
  (go_at_call 83; refine Calls.mono (CY.out _ HK.out.env) ?_; rintro e w9 ⟨rfl, hb1⟩; replace HK := Lib.hid (HK.out.below hb1); clear hb1; go_simp)
  refine hK.out _ _ ?_ (fun hHeld => ?_)
  · (first | exact HK.out | exact HK.out.drew | exact HK.out.drewN _)
  clear hK K hHeld
  have hHeld := HK.out
  try simp only [Act.put, pa, p0, p1]
  refine wt (i := 10) (oi := ⟨some 65, _, _, _, _, _⟩) (v := ?_) rfl ?_ ?_
  rotate_left
  · (intro w hSw; (try dsimp only at hSw); have hX0 := (Keep.at hSw 0 rfl).cells; go_simp; try with_reducible rfl)
  try simp only [Act.put, pa, p0, p1]
  refine wt (i := 11) (oi := ⟨some 3, _, _, _, _, _⟩) (v := ?_) rfl ?_ ?_
  rotate_left
  · (intro w hSw; (try dsimp only at hSw); have hX0 := (Keep.at hSw 0 rfl).cells; go_simp; try with_reducible rfl)
  try simp only [Act.put, pa, p0, p1]
  refine wpAnyH_done (by kernel_rfl) ?_ _
  refine NoPanic.normal ?_
  have hX := (HK.out.at 0 rfl).cells
  go_wp2_with (go_at_call 83; (with_reducible refine Calls.mono (CU.out _ HK.out.env) ?_); rintro e w1 ⟨rfl, hb1⟩; replace HK := Lib.hid (HK.out.below hb1); have hX := (HK.out.at 0 rfl).cells; clear hb1)
  go_ret
  exact FIN.out _ _ HX.out HK.out.low
set_option maxRecDepth 100000 in
set_option maxHeartbeats 8000000 in
theorem encR_1111 (p : Pk) (a : Option Addr) (c : Nat) (w : World) (hE : Env w) (hp : PkOk p) (ha : CellsA w a (subCells p.subs)) (h0 : 0 ≤ restP p) (ht : p.ty = 1) (hw : p.hasWill = true) (hu : p.hasUser = true) (hs : p.hasPass = true) : Calls Tryd.prog 61 #[.agg (pkV p a c)] w fun e w' => e = .returned (.string (bB (restB p))) ∧ Below w.heap.size w w' := by
  have FIN := Lib.hid (show ∀ (s : ByteArray) (w' : World), s = bB (restB p) → Below w.heap.size w w' → Ending.returned (.string s) = .returned (.string (bB (restB p))) ∧ Below w.heap.size w w' from by rintro s w' rfl h; exact ⟨rfl, h⟩)
  have HK := Lib.hid ((Keep.begin hE [(a, subCells p.subs)] (by intro r hr; simp at hr; subst hr; exact ha)).alloc' (pkV p a c) 27 w.heap.size rfl)
  obtain ⟨hc, _⟩ := con_parts ht h0
  obtain ⟨hl, hcl, hwo, huo, hso, hv, hz⟩ := con_fields hc
  have hcz := valid_some hcl
  rw [blen] at hcz
  have huz := valid_some hv
  rw [blen] at huz
  have hkp := hp.keep
  have hq2 : p.wqos ≤ 2 := by
    unfold willOk at hwo
    rw [hw] at hwo
    simp at hwo
    first | exact hwo.2 | (have := hwo.2.2.1; omega)
  have hwz : p.wtopic.size ≤ 65535 ∧ p.wpayload.size ≤ 65535 := by
    unfold willOk at hwo
    rw [hw] at hwo
    simp only [if_true, Bool.and_eq_true, decide_eq_true_eq] at hwo
    have := name_len hwo.1.1
    rw [blen] at this
    exact ⟨this, hwo.1.2⟩
  have hcf := (flags_con p.hasUser p.hasPass p.wret p.hasWill p.clean p.wqos hq2 (conFlags p) rfl).1
  have HX := Lib.hid (show bB (dataB mqtt) ++ bB [byteN 4] ++ bB [byteN (conFlags p)] ++ bB (wordB p.keep) ++ bB (dataB p.client) ++ bB (dataB p.wtopic) ++ bB (dataB p.wpayload) ++ bB (dataB p.user) ++ bB (dataB p.pass) = bB (restB p) by
    unfold restB connectB
    rw [if_pos ht, hw, hu, hs, hl]
    simp only [if_true]
    have e1 : [byteN 4, byteN (conFlags p)] = [byteN 4] ++ [byteN (conFlags p)] := rfl
    rw [e1]
    simp only [bB_two, ByteArray.append_assoc])
  have hwc : IntKind.i64.wrap (p.wqos : Int) = (p.wqos : Int) := wrapI64 _ (by omega)
  have hcn : conFlags p = bitN true 128 + bitN true 64 + bitN p.wret 32 + 8 * p.wqos + bitN true 4 + bitN p.clean 2 := by unfold conFlags; rw [hw, hu, hs]
  have Y1 := Lib.hid (fun w1 => ref04_yes' true 128 128 rfl w1)
  have Y2 := Lib.hid (fun w1 => ref04_yes' true 64 64 rfl w1)
  have Y3 := Lib.hid (fun w1 => ref04_yes' p.wret 32 32 rfl w1)
  have Y4 := Lib.hid (fun w1 => ref04_yes' true 4 4 rfl w1)
  have Y5 := Lib.hid (fun w1 => ref04_yes' p.clean 2 2 rfl w1)
  have b1 : bitN true 128 ≤ 128 := by decide
  have b2 : bitN true 64 ≤ 64 := by decide
  have b3 : bitN p.wret 32 ≤ 32 := by unfold bitN; split <;> omega
  have b4 : bitN true 4 ≤ 4 := by decide
  have b5 : bitN p.clean 2 ≤ 2 := by unfold bitN; split <;> omega
  have CM := Lib.hid (fun w1 hE => ref04_data mqtt (by decide) w1 hE)
  have CV := Lib.hid (fun w1 hE => ref04_one' 4 4 rfl (by decide) w1 hE)
  have CF := Lib.hid (fun w1 hE z hz => ref04_one' z (conFlags p) hz hcf w1 hE)
  have CQ := Lib.hid (fun w1 hE => ref04_word p.keep (by omega) w1 hE)
  have CC := Lib.hid (fun w1 hE => ref04_data p.client hcz w1 hE)
  have CT := Lib.hid (fun w1 hE => ref04_data p.wtopic hwz.1 w1 hE)
  have CY := Lib.hid (fun w1 hE => ref04_data p.wpayload hwz.2 w1 hE)
  have CU := Lib.hid (fun w1 hE => ref04_data p.user huz w1 hE)
  have CS := Lib.hid (fun w1 hE => ref04_data p.pass hz w1 hE)
  have zM : (bB (dataB mqtt)).size ≤ 65537 := by
    have e : (bB (dataB mqtt)).size = (dataB mqtt).length := rfl
    have := (show mqtt.size ≤ 65535 by decide)
    rw [e, dataB_len]; omega
  have zV : (bB [byteN 4]).size ≤ 65537 := by
    have e : (bB [byteN 4]).size = 1 := rfl
    omega
  have zF : (bB [byteN (conFlags p)]).size ≤ 65537 := by
    have e : (bB [byteN (conFlags p)]).size = 1 := rfl
    omega
  have zQ : (bB (wordB p.keep)).size ≤ 65537 := by
    have e : (bB (wordB p.keep)).size = 2 := rfl
    omega
  have zC : (bB (dataB p.client)).size ≤ 65537 := by
    have e : (bB (dataB p.client)).size = (dataB p.client).length := rfl
    have := hcz
    rw [e, dataB_len]; omega
  have zT : (bB (dataB p.wtopic)).size ≤ 65537 := by
    have e : (bB (dataB p.wtopic)).size = (dataB p.wtopic).length := rfl
    have := hwz.1
    rw [e, dataB_len]; omega
  have zY : (bB (dataB p.wpayload)).size ≤ 65537 := by
    have e : (bB (dataB p.wpayload)).size = (dataB p.wpayload).length := rfl
    have := hwz.2
    rw [e, dataB_len]; omega
  have zU : (bB (dataB p.user)).size ≤ 65537 := by
    have e : (bB (dataB p.user)).size = (dataB p.user).length := rfl
    have := huz
    rw [e, dataB_len]; omega
  have zS : (bB (dataB p.pass)).size ≤ 65537 := by
    have e : (bB (dataB p.pass)).size = (dataB p.pass).length := rfl
    have := hz
    rw [e, dataB_len]; omega
  generalize bB (dataB mqtt) = DM at *
  generalize bB [byteN 4] = DV at *
  generalize bB [byteN (conFlags p)] = DF at *
  generalize bB (wordB p.keep) = DQ at *
  generalize bB (dataB p.client) = DC at *
  generalize bB (dataB p.wtopic) = DT at *
  generalize bB (dataB p.wpayload) = DY at *
  generalize bB (dataB p.user) = DU at *
  generalize bB (dataB p.pass) = DS at *
  generalize conFlags p = cf at *
  generalize bitN true 128 = x1 at *
  generalize bitN true 64 = x2 at *
  generalize bitN p.wret 32 = x3 at *
  generalize bitN true 4 = x4 at *
  generalize bitN p.clean 2 = x5 at *
  have g1 : ¬ 9223372036854775807 < DM.size + DV.size := by omega
  have g2 : ¬ 9223372036854775807 < DM.size + DV.size + DF.size := by omega
  have g3 : ¬ 9223372036854775807 < DM.size + DV.size + DF.size + DQ.size := by omega
  have g4 : ¬ 9223372036854775807 < DM.size + DV.size + DF.size + DQ.size + DC.size := by omega
  have g5 : ¬ 9223372036854775807 < DM.size + DV.size + DF.size + DQ.size + DC.size + DT.size := by omega
  have g6 : ¬ 9223372036854775807 < DM.size + DV.size + DF.size + DQ.size + DC.size + DT.size + DY.size := by omega
  have g7 : ¬ 9223372036854775807 < DM.size + DV.size + DF.size + DQ.size + DC.size + DT.size + DY.size + DU.size := by omega
  have g8 : ¬ 9223372036854775807 < DM.size + DV.size + DF.size + DQ.size + DC.size + DT.size + DY.size + DU.size + DS.size := by omega
  obtain ⟨k0, k1, k2, k3, k4, k5, k6, k7, k8, k9, k10, k11, k12, k13, k14, k15, k16, k17, k18, k19, k20, k21, k22, k23⟩ := pk_at p a c
  replace k0 : (pkV p a c)[0]? = some (.int .u8 1) := by rw [k0, ht]; rfl
  rw [hw] at k11
  rw [hu] at k16
  rw [hs] at k17
  clear hE ha hp h0 hc hl hcl hwo huo hso hv hcz huz hz hwz hw hu hs
  go_enter Tryd.func61, Tryd.ntmps61
  go_upto_region 1 with fail
  show Code.wp _ _ _ _ (w.alloc (.cells (pkV p a c) 27))
  generalize World.alloc w _ = w2 at HK ⊢
  have hX := (HK.out.at 0 rfl).cells
  go_upto_region 5 with fail
  clear hX
  refine wp_region_noPanic ?_
  refine wp_region_held_drew (S := fun w' => Keep w [(w.heap.size, pkV p a c, 27)] [(a, subCells p.subs)] w') (by kernel_rfl) ?_ (fun hHeld => ?_)
  · (first | exact HK.out | exact HK.out.drew | exact HK.out.drewN _)
  replace HK := Lib.hid hHeld
  refine wt (i := 0) (oi := ⟨some 13, _, _, _, _, _⟩) (v := ?_) rfl ?_ ?_
  rotate_left
  · (intro w hSw; (try dsimp only at hSw); have hX0 := (Keep.at hSw 0 rfl).cells; go_simp; try with_reducible rfl)
  try simp only [Act.put, pa, p0, p1]
  refine wt (i := 1) (oi := ⟨some 14, _, _, _, _, _⟩) (v := ?_) rfl ?_ ?_
  rotate_left
  · (intro w hSw; (try dsimp only at hSw); have hX0 := (Keep.at hSw 0 rfl).cells; go_simp; try with_reducible rfl)
  try simp only [Act.put, pa, p0, p1]
  refine wt (i := 3) (oi := ⟨some 16, _, _, _, _, _⟩) (v := ?_) rfl ?_ ?_
  rotate_left
  · (intro w hSw; (try dsimp only at hSw); have hX0 := (Keep.at hSw 0 rfl).cells; go_simp; try with_reducible rfl)
  try simp only [Act.put, pa, p0, p1]
  refine wt (i := 4) (oi := ⟨some 17, _, _, _, _, _⟩) (v := ?_) rfl ?_ ?_
  rotate_left
  · (intro w hSw; (try dsimp only at hSw); have hX0 := (Keep.at hSw 0 rfl).cells; go_simp; try with_reducible rfl)
  try simp only [Act.put, pa, p0, p1]
  refine wt (i := 7) (oi := ⟨some 20, _, _, _, _, _⟩) (v := ?_) rfl ?_ ?_
  rotate_left
  · (intro w hSw; (try dsimp only at hSw); have hX0 := (Keep.at hSw 0 rfl).cells; go_simp; try with_reducible rfl)
  try simp only [Act.put, pa, p0, p1]
  refine wt (i := 8) (oi := ⟨some 21, _, _, _, _, _⟩) (v := ?_) rfl ?_ ?_
  rotate_left
  · (intro w hSw; (try dsimp only at hSw); have hX0 := (Keep.at hSw 0 rfl).cells; go_simp; try with_reducible rfl)
  try simp only [Act.put, pa, p0, p1]
  refine wt (i := 9) (oi := ⟨some 22, _, _, _, _, _⟩) (v := ?_) rfl ?_ ?_
  rotate_left
  · (intro w hSw; (try dsimp only at hSw); have hX0 := (Keep.at hSw 0 rfl).cells; go_simp; try with_reducible rfl)
  try simp only [Act.put, pa, p0, p1]
  refine wt (i := 12) (oi := ⟨some 25, _, _, _, _, _⟩) (v := ?_) rfl ?_ ?_
  rotate_left
  · (intro w hSw; (try dsimp only at hSw); have hX0 := (Keep.at hSw 0 rfl).cells; go_simp; try with_reducible rfl)
  try simp only [Act.put, pa, p0, p1]
  refine wt (i := 13) (oi := ⟨some 26, _, _, _, _, _⟩) (v := ?_) rfl ?_ ?_
  rotate_left
  · (intro w hSw; (try dsimp only at hSw); have hX0 := (Keep.at hSw 0 rfl).cells; go_simp; try with_reducible rfl)
  try simp only [Act.put, pa, p0, p1]
  refine wt (i := 14) (oi := ⟨some 27, _, _, _, _, _⟩) (v := ?_) rfl ?_ ?_
  rotate_left
  · (intro w hSw; (try dsimp only at hSw); have hX0 := (Keep.at hSw 0 rfl).cells; go_simp; try with_reducible rfl)
  try simp only [Act.put, pa, p0, p1]
  refine wt (i := 15) (oi := ⟨some 28, _, _, _, _, _⟩) (v := ?_) rfl ?_ ?_
  rotate_left
  · (intro w hSw; (try dsimp only at hSw); have hX0 := (Keep.at hSw 0 rfl).cells; go_simp; try with_reducible rfl)
  try simp only [Act.put, pa, p0, p1]
  refine wt (i := 16) (oi := ⟨some 29, _, _, _, _, _⟩) (v := ?_) rfl ?_ ?_
  rotate_left
  · (intro w hSw; (try dsimp only at hSw); have hX0 := (Keep.at hSw 0 rfl).cells; go_simp; try with_reducible rfl)
  try simp only [Act.put, pa, p0, p1]
  refine wt (i := 18) (oi := ⟨some 31, _, _, _, _, _⟩) (v := ?_) rfl ?_ ?_
  rotate_left
  · (intro w hSw; (try dsimp only at hSw); have hX0 := (Keep.at hSw 0 rfl).cells; go_simp; try with_reducible rfl)
  try simp only [Act.put, pa, p0, p1]
  refine wt (i := 19) (oi := ⟨some 32, _, _, _, _, _⟩) (v := ?_) rfl ?_ ?_
  rotate_left
  · (intro w hSw; (try dsimp only at hSw); have hX0 := (Keep.at hSw 0 rfl).cells; go_simp; try with_reducible rfl)
  try simp only [Act.put, pa, p0, p1]
  refine wt (i := 22) (oi := ⟨some 35, _, _, _, _, _⟩) (v := ?_) rfl ?_ ?_
  rotate_left
  · (intro w hSw; (try dsimp only at hSw); have hX0 := (Keep.at hSw 0 rfl).cells; go_simp; try with_reducible rfl)
  try simp only [Act.put, pa, p0, p1]
  refine wt (i := 23) (oi := ⟨some 36, _, _, _, _, _⟩) (v := ?_) rfl ?_ ?_
  rotate_left
  · (intro w hSw; (try dsimp only at hSw); have hX0 := (Keep.at hSw 0 rfl).cells; go_simp; try with_reducible rfl)
  try simp only [Act.put, pa, p0, p1]
  refine wpAnyH_ready (rs := [2]) (by kernel_rfl) (by simp) ?_
  refine AllReadyH.cons (o := ⟨some 15, _, _, _, _, _⟩) rfl (fun K hK => ?_) AllReadyH.nil
  go_simp
  (go_at_call 82; refine Calls.mono (Y1.out _) ?_; rintro e w9 ⟨rfl, hb1⟩; replace HK := Lib.hid (HK.out.below hb1); clear hb1; go_simp)
  refine hK.out _ _ ?_ (fun hHeld => ?_)
  · (first | exact HK.out | exact HK.out.drew | exact HK.out.drewN _)
  clear hK K hHeld
  have hHeld := HK.out
  try simp only [Act.put, pa, p0, p1]
  refine wpAnyH_ready (rs := [5]) (by kernel_rfl) (by simp) ?_
  refine AllReadyH.cons (o := ⟨some 18, _, _, _, _, _⟩) rfl (fun K hK => ?_) AllReadyH.nil
  go_simp
  (go_at_call 82; refine Calls.mono (Y2.out _) ?_; rintro e w9 ⟨rfl, hb1⟩; replace HK := Lib.hid (HK.out.below hb1); clear hb1; go_simp)
  refine hK.out _ _ ?_ (fun hHeld => ?_)
  · (first | exact HK.out | exact HK.out.drew | exact HK.out.drewN _)
  clear hK K hHeld
  have hHeld := HK.out
  try simp only [Act.put, pa, p0, p1]
  refine wt (i := 6) (oi := ⟨some 19, _, _, _, _, _⟩) (v := ?_) rfl ?_ ?_
  rotate_left
  · (intro w hSw; (try dsimp only at hSw); have hX0 := (Keep.at hSw 0 rfl).cells; go_simp; try with_reducible rfl)
  try simp only [Act.put, pa, p0, p1]
  refine wpAnyH_ready (rs := [10]) (by kernel_rfl) (by simp) ?_
  refine AllReadyH.cons (o := ⟨some 23, _, _, _, _, _⟩) rfl (fun K hK => ?_) AllReadyH.nil
  go_simp
  (go_at_call 82; refine Calls.mono (Y3.out _) ?_; rintro e w9 ⟨rfl, hb1⟩; replace HK := Lib.hid (HK.out.below hb1); clear hb1; go_simp)
  refine hK.out _ _ ?_ (fun hHeld => ?_)
  · (first | exact HK.out | exact HK.out.drew | exact HK.out.drewN _)
  clear hK K hHeld
  have hHeld := HK.out
  try simp only [Act.put, pa, p0, p1]
  refine wt (i := 11) (oi := ⟨some 24, _, _, _, _, _⟩) (v := ?_) rfl ?_ ?_
  rotate_left
  · (intro w hSw; (try dsimp only at hSw); have hX0 := (Keep.at hSw 0 rfl).cells; go_simp; try with_reducible rfl)
  try simp only [Act.put, pa, p0, p1]
  refine wt (i := 17) (oi := ⟨some 30, _, _, _, _, _⟩) (v := ?_) rfl ?_ ?_
  rotate_left
  · (intro w hSw; (try dsimp only at hSw); have hX0 := (Keep.at hSw 0 rfl).cells; go_simp; try with_reducible rfl)
  try simp only [Act.put, pa, p0, p1]
  refine wpAnyH_ready (rs := [20]) (by kernel_rfl) (by simp) ?_
  refine AllReadyH.cons (o := ⟨some 33, _, _, _, _, _⟩) rfl (fun K hK => ?_) AllReadyH.nil
  go_simp
  (go_at_call 82; refine Calls.mono (Y4.out _) ?_; rintro e w9 ⟨rfl, hb1⟩; replace HK := Lib.hid (HK.out.below hb1); clear hb1; go_simp)
  refine hK.out _ _ ?_ (fun hHeld => ?_)
  · (first | exact HK.out | exact HK.out.drew | exact HK.out.drewN _)
  clear hK K hHeld
  have hHeld := HK.out
  try simp only [Act.put, pa, p0, p1]
  refine wt (i := 21) (oi := ⟨some 34, _, _, _, _, _⟩) (v := ?_) rfl ?_ ?_
  rotate_left
  · (intro w hSw; (try dsimp only at hSw); have hX0 := (Keep.at hSw 0 rfl).cells; go_simp; try with_reducible rfl)
  try simp only [Act.put, pa, p0, p1]
  refine wpAnyH_ready (rs := [24]) (by kernel_rfl) (by simp) ?_
  refine AllReadyH.cons (o := ⟨some 37, _, _, _, _, _⟩) rfl (fun K hK => ?_) AllReadyH.nil
  go_simp
  (go_at_call 82; refine Calls.mono (Y5.out _) ?_; rintro e w9 ⟨rfl, hb1⟩; replace HK := Lib.hid (HK.out.below hb1); clear hb1; go_simp)
  refine hK.out _ _ ?_ (fun hHeld => ?_)
  · (first | exact HK.out | exact HK.out.drew | exact HK.out.drewN _)
  clear hK K hHeld
  have hHeld := HK.out
  try simp only [Act.put, pa, p0, p1]
  refine wt (i := 25) (oi := ⟨some 38, _, _, _, _, _⟩) (v := ?_) rfl ?_ ?_
  rotate_left
  · (intro w hSw; (try dsimp only at hSw); have hX0 := (Keep.at hSw 0 rfl).cells; go_simp; try with_reducible rfl)
  try simp only [Act.put, pa, p0, p1]
  refine wt (i := 26) (oi := ⟨some 4, _, _, _, _, _⟩) (v := ?_) rfl ?_ ?_
  rotate_left
  · (intro w hSw; (try dsimp only at hSw); have hX0 := (Keep.at hSw 0 rfl).cells; go_simp; try with_reducible rfl)
  try simp only [Act.put, pa, p0, p1]
  refine wpAnyH_done (by kernel_rfl) ?_ _
  refine NoPanic.normal ?_
  have hX := (HK.out.at 0 rfl).cells
  go_upto_region 6 with fail
  clear hX
  refine wp_region_noPanic ?_
  refine wp_region_held_drew (S := fun w' => Keep w [(w.heap.size, pkV p a c, 27)] [(a, subCells p.subs)] w') (by kernel_rfl) ?_ (fun hHeld => ?_)
  · (first | exact HK.out | exact HK.out.drew | exact HK.out.drewN _)
  replace HK := Lib.hid hHeld
  refine wt (i := 3) (oi := ⟨some 42, _, _, _, _, _⟩) (v := ?_) rfl ?_ ?_
  rotate_left
  · (intro w hSw; (try dsimp only at hSw); have hX0 := (Keep.at hSw 0 rfl).cells; go_simp; try with_reducible rfl)
  try simp only [Act.put, pa, p0, p1]
  refine wt (i := 6) (oi := ⟨some 45, _, _, _, _, _⟩) (v := ?_) rfl ?_ ?_
  rotate_left
  · (intro w hSw; (try dsimp only at hSw); have hX0 := (Keep.at hSw 0 rfl).cells; go_simp; try with_reducible rfl)
  try simp only [Act.put, pa, p0, p1]
  refine wt (i := 7) (oi := ⟨some 46, _, _, _, _, _⟩) (v := ?_) rfl ?_ ?_
  rotate_left
  · (intro w hSw; (try dsimp only at hSw); have hX0 := (Keep.at hSw 0 rfl).cells; go_simp; try with_reducible rfl)
  try simp only [Act.put, pa, p0, p1]
  refine wt (i := 10) (oi := ⟨some 49, _, _, _, _, _⟩) (v := ?_) rfl ?_ ?_
  rotate_left
  · (intro w hSw; (try dsimp only at hSw); have hX0 := (Keep.at hSw 0 rfl).cells; go_simp; try with_reducible rfl)
  try simp only [Act.put, pa, p0, p1]
  refine wt (i := 11) (oi := ⟨some 50, _, _, _, _, _⟩) (v := ?_) rfl ?_ ?_
  rotate_left
  · (intro w hSw; (try dsimp only at hSw); have hX0 := (Keep.at hSw 0 rfl).cells; go_simp; try with_reducible rfl)
  try simp only [Act.put, pa, p0, p1]
  refine wpAnyH_ready (rs := [0]) (by kernel_rfl) (by simp) ?_
  refine AllReadyH.cons (o := ⟨some 39, _, _, _, _, _⟩) rfl (fun K hK => ?_) AllReadyH.nil
  go_simp
  (go_at_call 83; refine Calls.mono (CM.out _ HK.out.env) ?_; rintro e w9 ⟨rfl, hb1⟩; replace HK := Lib.hid (HK.out.below hb1); clear hb1; go_simp)
  refine hK.out _ _ ?_ (fun hHeld => ?_)
  · (first | exact HK.out | exact HK.out.drew | exact HK.out.drewN _)
  clear hK K hHeld
  have hHeld := HK.out
  try simp only [Act.put, pa, p0, p1]
  refine wpAnyH_ready (rs := [1]) (by kernel_rfl) (by simp) ?_
  refine AllReadyH.cons (o := ⟨some 40, _, _, _, _, _⟩) rfl (fun K hK => ?_) AllReadyH.nil
  go_simp
  (go_at_call 63; refine Calls.mono (CV.out _ HK.out.env) ?_; rintro e w9 ⟨rfl, hb1⟩; replace HK := Lib.hid (HK.out.below hb1); clear hb1; go_simp)
  refine hK.out _ _ ?_ (fun hHeld => ?_)
  · (first | exact HK.out | exact HK.out.drew | exact HK.out.drewN _)
  clear hK K hHeld
  have hHeld := HK.out
  try simp only [Act.put, pa, p0, p1]
  refine wt (i := 2) (oi := ⟨some 41, _, _, _, _, _⟩) (v := ?_) rfl ?_ ?_
  rotate_left
  · (intro w hSw; (try dsimp only at hSw); have hX0 := (Keep.at hSw 0 rfl).cells; go_simp; try with_reducible rfl)
  try simp only [Act.put, pa, p0, p1]
  refine wpAnyH_ready (rs := [4]) (by kernel_rfl) (by simp) ?_
  refine AllReadyH.cons (o := ⟨some 43, _, _, _, _, _⟩) rfl (fun K hK => ?_) AllReadyH.nil
  go_simp
  (go_at_call 63; refine Calls.mono (CF.out _ HK.out.env _ (by rw [hcn]; simp (disch := omega) only [wI]; push_cast; rfl)) ?_; rintro e w9 ⟨rfl, hb1⟩; replace HK := Lib.hid (HK.out.below hb1); clear hb1; go_simp)
  refine hK.out _ _ ?_ (fun hHeld => ?_)
  · (first | exact HK.out | exact HK.out.drew | exact HK.out.drewN _)
  clear hK K hHeld
  have hHeld := HK.out
  try simp only [Act.put, pa, p0, p1]
  refine wt (i := 5) (oi := ⟨some 44, _, _, _, _, _⟩) (v := ?_) rfl ?_ ?_
  rotate_left
  · (intro w hSw; (try dsimp only at hSw); have hX0 := (Keep.at hSw 0 rfl).cells; go_simp; try with_reducible rfl)
  try simp only [Act.put, pa, p0, p1]
  refine wpAnyH_ready (rs := [8]) (by kernel_rfl) (by simp) ?_
  refine AllReadyH.cons (o := ⟨some 47, _, _, _, _, _⟩) rfl (fun K hK => ?_) AllReadyH.nil
  go_simp
  (go_at_call 84; refine Calls.mono (CQ.out _ HK.out.env) ?_; rintro e w9 ⟨rfl, hb1⟩; replace HK := Lib.hid (HK.out.below hb1); clear hb1; go_simp)
  refine hK.out _ _ ?_ (fun hHeld => ?_)
  · (first | exact HK.out | exact HK.out.drew | exact HK.out.drewN _)
  clear hK K hHeld
  have hHeld := HK.out
  try simp only [Act.put, pa, p0, p1]
  refine wt (i := 9) (oi := ⟨some 48, _, _, _, _, _⟩) (v := ?_) rfl ?_ ?_
  rotate_left
  · (intro w hSw; (try dsimp only at hSw); have hX0 := (Keep.at hSw 0 rfl).cells; go_simp; try with_reducible rfl)
  try simp only [Act.put, pa, p0, p1]
  refine wpAnyH_ready (rs := [12]) (by kernel_rfl) (by simp) ?_
  refine AllReadyH.cons (o := ⟨some 51, _, _, _, _, _⟩) rfl (fun K hK => ?_) AllReadyH.nil
  go_simp
  (go_at_call 83; refine Calls.mono (CC.out _ HK.out.env) ?_; rintro e w9 ⟨rfl, hb1⟩; replace HK := Lib.hid (HK.out.below hb1); clear hb1; go_simp)
  refine hK.out _ _ ?_ (fun hHeld => ?_)
  · (first | exact HK.out | exact HK.out.drew | exact HK.out.drewN _)
  clear hK K hHeld
  have hHeld := HK.out
  try simp only [Act.put, pa, p0, p1]
  refine wt (i := 13) (oi := ⟨some 52, _, _, _, _, _⟩) (v := ?_) rfl ?_ ?_
  rotate_left
  · (intro w hSw; (try dsimp only at hSw); have hX0 := (Keep.at hSw 0 rfl).cells; go_simp; try with_reducible rfl)
  try simp only [Act.put, pa, p0, p1]
  refine wt (i := 14) (oi := ⟨some 3, _, _, _, _, _⟩) (v := ?_) rfl ?_ ?_
  rotate_left
  · (intro w hSw; (try dsimp only at hSw); have hX0 := (Keep.at hSw 0 rfl).cells; go_simp; try with_reducible rfl)
  try simp only [Act.put, pa, p0, p1]
  refine wpAnyH_done (by kernel_rfl) ?_ _
  refine NoPanic.normal ?_
  have hX := (HK.out.at 0 rfl).cells
  go_upto_region 8 with fail
  clear hX
  refine wp_region_noPanic ?_
  refine wp_region_held_drew (S := fun w' => Keep w [(w.heap.size, pkV p a c, 27)] [(a, subCells p.subs)] w') (by kernel_rfl) ?_ (fun hHeld => ?_)
  · (first | exact HK.out | exact HK.out.drew | exact HK.out.drewN _)
  replace HK := Lib.hid hHeld
  refine wt (i := 0) (oi := ⟨some 55, _, _, _, _, _⟩) (v := ?_) rfl ?_ ?_
  rotate_left
  · (intro w hSw; (try dsimp only at hSw); have hX0 := (Keep.at hSw 0 rfl).cells; go_simp; try with_reducible rfl)
  try simp only [Act.put, pa, p0, p1]
  refine wt (i := 1) (oi := ⟨some 56, _, _, _, _, _⟩) (v := ?_) rfl ?_ ?_
  rotate_left
  · (intro w hSw; (try dsimp only at hSw); have hX0 := (Keep.at hSw 0 rfl).cells; go_simp; try with_reducible rfl)
  try simp only [Act.put, pa, p0, p1]
  refine wt (i := 2) (oi := ⟨some 57, _, _, _, _, _⟩) (v := ?_) rfl ?_ ?_
  rotate_left
  · (intro w hSw; (try dsimp only at hSw); have hX0 := (Keep.at hSw 0 rfl).cells; go_simp; try with_reducible rfl)
  try simp only [Act.put, pa, p0, p1]
  refine wt (i := 3) (oi := ⟨some 58, _, _, _, _, _⟩) (v := ?_) rfl ?_ ?_
  rotate_left
  · (intro w hSw; (try dsimp only at hSw); have hX0 := (Keep.at hSw 0 rfl).cells; go_simp; try with_reducible rfl)
  try simp only [Act.put, pa, p0, p1]
  refine wt (i := 6) (oi := ⟨some 61, _, _, _, _, _⟩) (v := ?_) rfl ?_ ?_
  rotate_left
  · (intro w hSw; (try dsimp only at hSw); have hX0 := (Keep.at hSw 0 rfl).cells; go_simp; try with_reducible rfl)
  try simp only [Act.put, pa, p0, p1]
  refine wt (i := 7) (oi := ⟨some 62, _, _, _, _, _⟩) (v := ?_) rfl ?_ ?_
  rotate_left
  · (intro w hSw; (try dsimp only at hSw); have hX0 := (Keep.at hSw 0 rfl).cells; go_simp; try with_reducible rfl)
  try simp only [Act.put, pa, p0, p1]
  refine wt (i := 8) (oi := ⟨some 63, _, _, _, _, _⟩) (v := ?_) rfl ?_ ?_
  rotate_left
  · (intro w hSw; (try dsimp only at hSw); have hX0 := (Keep.at hSw 0 rfl).cells; go_simp; try with_reducible rfl)
  try simp only [Act.put, pa, p0, p1]
  refine wpAnyH_ready (rs := [4]) (by kernel_rfl) (by simp) ?_
  refine AllReadyH.cons (o := ⟨some 59, _, _, _, _, _⟩) rfl (fun K hK => ?_) AllReadyH.nil
  go_simp
  (go_at_call 83; refine Calls.mono (CT.out _ HK.out.env) ?_; rintro e w9 ⟨rfl, hb1⟩; replace HK := Lib.hid (HK.out.below hb1); clear hb1; go_simp)
  refine hK.out _ _ ?_ (fun hHeld => ?_)
  · (first | exact HK.out | exact HK.out.drew | exact HK.out.drewN _)
  clear hK K hHeld
  have hHeld := HK.out
  try simp only [Act.put, pa, p0, p1]
  refine wt (i := 5) (oi := ⟨some 60, _, _, _, _, _⟩) (v := ?_) rfl ?_ ?_
  rotate_left
  · (intro w hSw; (try dsimp only at hSw); have hX0 := (Keep.at hSw 0 rfl).cells; go_simp; try with_reducible rfl)
  try simp only [Act.put, pa, p0, p1]
  refine wpAnyH_ready (rs := [9]) (by kernel_rfl) (by simp) ?_
  refine AllReadyH.cons (o := ⟨some 64, _, _, _, _, _⟩) rfl (fun K hK => ?_) AllReadyH.nil
  go_simp
  (go_at_call 83; refine Calls.mono (CY.out _ HK.out.env) ?_; rintro e w9 ⟨rfl, hb1⟩; replace HK := Lib.hid (HK.out.below hb1); clear hb1; go_simp)
  refine hK.out _ _ ?_ (fun hHeld => ?_)
  · (first | exact HK.out | exact HK.out.drew | exact HK.out.drewN _)
  clear hK K hHeld
  have hHeld := HK.out
  try simp only [Act.put, pa, p0, p1]
  refine wt (i := 10) (oi := ⟨some 65, _, _, _, _, _⟩) (v := ?_) rfl ?_ ?_
  rotate_left
  · (intro w hSw; (try dsimp only at hSw); have hX0 := (Keep.at hSw 0 rfl).cells; go_simp; try with_reducible rfl)
  try simp only [Act.put, pa, p0, p1]
  refine wt (i := 11) (oi := ⟨some 3, _, _, _, _, _⟩) (v := ?_) rfl ?_ ?_
  rotate_left
  · (intro w hSw; (try dsimp only at hSw); have hX0 := (Keep.at hSw 0 rfl).cells; go_simp; try with_reducible rfl)
  try simp only [Act.put, pa, p0, p1]
  refine wpAnyH_done (by kernel_rfl) ?_ _
  refine NoPanic.normal ?_
  have hX := (HK.out.at 0 rfl).cells
  go_wp2_with (first
    | (go_at_call 83; (with_reducible refine Calls.mono (CU.out _ HK.out.env) ?_); rintro e w1 ⟨rfl, hb1⟩; replace HK := Lib.hid (HK.out.below hb1); have hX := (HK.out.at 0 rfl).cells; clear hb1)
    | (go_at_call 83; (with_reducible refine Calls.mono (CS.out _ HK.out.env) ?_); rintro e w1 ⟨rfl, hb1⟩; replace HK := Lib.hid (HK.out.below hb1); have hX := (HK.out.at 0 rfl).cells; clear hb1))
  go_ret
  exact FIN.out _ _ HX.out HK.out.low
theorem ref04_Rest (p : Pk) (a : Option Addr) (c : Nat) (w : World) (hE : Env w) (hp : PkOk p) (ha : CellsA w a (subCells p.subs)) (h0 : 0 ≤ restP p) : Calls Tryd.prog 61 #[.agg (pkV p a c)] w fun e w' => e = .returned (.string (bB (restB p))) ∧ Below w.heap.size w w' := by
  have hty := rest_types h0
  have ht : p.ty = 1 ∨ p.ty = 2 ∨ p.ty = 3 ∨ p.ty = 4 ∨ p.ty = 5 ∨ p.ty = 6 ∨ p.ty = 7 ∨ p.ty = 8 ∨ p.ty = 9 ∨ p.ty = 10 ∨ p.ty = 11 ∨ p.ty = 12 ∨ p.ty = 13 ∨ p.ty = 14 := by omega
  rcases ht with h | h | h | h | h | h | h | h | h | h | h | h | h | h
  · cases hw : p.hasWill <;> cases hu : p.hasUser <;> cases hs : p.hasPass
    · exact encR_1000 p a c w hE hp ha h0 h hw hu hs
    · exact encR_1001 p a c w hE hp ha h0 h hw hu hs
    · exact encR_1010 p a c w hE hp ha h0 h hw hu hs
    · exact encR_1011 p a c w hE hp ha h0 h hw hu hs
    · exact encR_1100 p a c w hE hp ha h0 h hw hu hs
    · exact encR_1101 p a c w hE hp ha h0 h hw hu hs
    · exact encR_1110 p a c w hE hp ha h0 h hw hu hs
    · exact encR_1111 p a c w hE hp ha h0 h hw hu hs
  · exact encR_2 p a c w hE hp ha h0 h
  · exact encR_3 p a c w hE hp ha h0 h
  · exact encR_4 p a c w hE hp ha h0 h
  · exact encR_5 p a c w hE hp ha h0 h
  · exact encR_6 p a c w hE hp ha h0 h
  · exact encR_7 p a c w hE hp ha h0 h
  · exact encR_8 p a c w hE hp ha h0 h
  · exact encR_9 p a c w hE hp ha h0 h
  · exact encR_10 p a c w hE hp ha h0 h
  · exact encR_11 p a c w hE hp ha h0 h
  · exact encR_12 p a c w hE hp ha h0 h
  · exact encR_13 p a c w hE hp ha h0 h
  · exact encR_14 p a c w hE hp ha h0 h
end Go.Proofs.YtfljdlaelanliaaDoor
