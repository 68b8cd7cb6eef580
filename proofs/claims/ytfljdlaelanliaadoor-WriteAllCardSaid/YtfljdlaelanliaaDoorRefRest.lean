/- The walk of the reference's rest. Conditions: a machine's bounds on the packet's sizes; its list in its cells; the decoder's tables lie as Go lays them. -/
import Derived.Test.YtfljdlaelanliaaDoorPacketRest
import Derived.Test.YtfljdlaelanliaaDoorRefPacket
import Derived.Test.YtfljdlaelanliaaDoorJoinC
import Derived.Test.YtfljdlaelanliaaDoorJoinB
namespace Go.Proofs.YtfljdlaelanliaaDoor
open Go.RowKit
theorem subsLen_step (m : Nat) (S : List Sb) (k : Nat) (x : Sb) (hx : S[k]? = some x) : subsLen m (S.take (k + 1)) = subsLen m (S.take k) + (2 + x.1.size + m) := by
  rw [List.take_add_one, hx]
  exact subLen_more m _ x
set_option maxRecDepth 100000 in
set_option maxHeartbeats 8000000 in
theorem restR_1 (p : Pk) (a : Option Addr) (c : Nat) (w : World) (hE : Env w) (hp : PkOk p) (ha : CellsA w a (subCells p.subs)) (hty : p.ty = 1) : Calls Tryd.prog 81 #[.agg (pkV p a c)] w fun e w' => e = .returned (.int .i64 (restR p : Nat)) ∧ Below w.heap.size w w' := by
  have s1 := hp.client
  have s2 := hp.wtopic
  have s3 := hp.wpayload
  have s4 := hp.user
  have s5 := hp.pass
  have s6 := hp.payload
  have s7 := hp.codes
  have s8 := hp.topic
  have hfew := hp.few
  have HEA := Lib.hid hp.each
  have FIN := Lib.hid (show ∀ (n : Int) (w' : World), ((restR p : Nat) : Int) = n → Below w.heap.size w w' → Ending.returned (.int .i64 n) = .returned (.int .i64 (restR p : Nat)) ∧ Below w.heap.size w w' from by rintro n w' rfl h; exact ⟨rfl, h⟩)
  have HK := Lib.hid ((Keep.begin hE [(a, subCells p.subs)] (by intro r hr; simp at hr; subst hr; exact ha)).alloc' (pkV p a c) 27 w.heap.size rfl)
  obtain ⟨k0, k1, k2, k3, k4, k5, k6, k7, k8, k9, k10, k11, k12, k13, k14, k15, k16, k17, k18, k19, k20, k21, k22, k23⟩ := pk_at p a c
  have t1 : ((p.ty : Int) == 1) = true := by rw [hty]; rfl
  have t2 : ((p.ty : Int) == 2) = false := by rw [beq_eq_false_iff_ne]; omega
  have t3 : ((p.ty : Int) == 3) = false := by rw [beq_eq_false_iff_ne]; omega
  have t8 : ((p.ty : Int) == 8) = false := by rw [beq_eq_false_iff_ne]; omega
  obtain ⟨x0, hx0⟩ : ∃ x0, p.payload.size + p.codes.size + (if p.id = 0 then 0 else 2) = x0 := ⟨_, rfl⟩
  have hxb : x0 ≤ 600000002 := by rw [← hx0]; split <;> omega
  have HR := Lib.hid (show restR p = x0 + subsLen 0 p.subs + connectLen p by unfold restR; rw [hx0]; simp [hty]; try omega)
  clear hp hE ha hty
  by_cases hid : p.id = 0
  · have hi : decide (0 < p.id) = false := by rw [decide_eq_false_iff_not]; omega
    simp only [hid, if_true] at hx0
    clear hid
    go_enter Tryd.func81, Tryd.ntmps81
    go_upto_region 1 with fail
    show Code.wp _ _ _ _ (w.alloc (.cells (pkV p a c) 27))
    generalize World.alloc w _ = w2 at HK ⊢
    have hX := (HK.out.at 0 rfl).cells
    go_wp2_with fail
    clear hX hi
    go_loopw [3, 4] (fun n i wr => ∃ k : Nat, k ≤ p.subs.length ∧ i = .int .i64 k ∧ ∃ m : Nat, n = .int .i64 (m : Int) ∧ m ≤ 600000002 + k * 300000010 ∧ Hid (m = x0 + subsLen 0 (p.subs.take k)) ∧ Hid (Keep w [(w.heap.size, pkV p a c, 27)] [(a, subCells p.subs)] wr)) (fun _ i _ => p.subs.length - (intOf i).toNat)
    case atStart => exact ⟨0, by omega, rfl, x0, by congr 1; omega, by omega, rfl, HK⟩
    case round =>
      clear HK
      obtain ⟨k, hk, rfl, m, rfl, hm, HP, HK⟩ := hrel
      have hX := (HK.out.at 0 rfl).cells
      by_cases hlt : k < p.subs.length
      · obtain ⟨x, hx⟩ : ∃ x, p.subs[k]? = some x := ⟨_, List.getElem?_eq_getElem hlt⟩
        obtain ⟨b, o, ha1, hc1, hc2⟩ := (HK.out.rowAt 0 rfl).sub hx
        subst ha1
        have hxs := (HEA.out x (List.mem_of_getElem? hx)).1
        have HN := Lib.hid (show m + (2 + x.1.size + 0) = x0 + subsLen 0 (p.subs.take (k + 1)) by rw [subsLen_step _ _ _ _ hx, ← Nat.add_assoc x0, ← HP.out])
        clear hx HP
        go_wp2_with fail
        go_roundw
        case rel => exact ⟨k + 1, by omega, by first | rfl | go_num, m + (2 + x.1.size + 0), by first | rfl | go_num | (congr 1; push_cast; omega), by omega, HN, HK⟩
        case measure => simp [intOf]; omega
      · have hk2 : k = p.subs.length := by omega
        subst hk2
        have hp2 := HP.out
        rw [List.take_length] at hp2
        have HQ := Lib.hid (show restR p = m + connectLen p by rw [HR.out, ← hp2])
        clear hp2 HP HR hlt
        go_wp2_with fail
        all_goals go_ret
        all_goals
          refine FIN.out _ _ ?_ HK.out.low
          rw [HQ.out]
          clear FIN HQ HK HEA hX
          clear k0 k1 k2 k3 k4 k5 k6 k7 k8 k9 k10 k11 k12 k13 k14 k15 k16 k17 k18 k19 k20 k21 k22 k23
          (try unfold connectLen)
          (try simp_all)
          all_goals (try omega)
  · have hi : decide (0 < p.id) = true := by rw [decide_eq_true_eq]; omega
    simp only [hid, if_false] at hx0
    clear hid
    go_enter Tryd.func81, Tryd.ntmps81
    go_upto_region 1 with fail
    show Code.wp _ _ _ _ (w.alloc (.cells (pkV p a c) 27))
    generalize World.alloc w _ = w2 at HK ⊢
    have hX := (HK.out.at 0 rfl).cells
    go_wp2_with fail
    clear hX hi
    go_loopw [3, 4] (fun n i wr => ∃ k : Nat, k ≤ p.subs.length ∧ i = .int .i64 k ∧ ∃ m : Nat, n = .int .i64 (m : Int) ∧ m ≤ 600000002 + k * 300000010 ∧ Hid (m = x0 + subsLen 0 (p.subs.take k)) ∧ Hid (Keep w [(w.heap.size, pkV p a c, 27)] [(a, subCells p.subs)] wr)) (fun _ i _ => p.subs.length - (intOf i).toNat)
    case atStart => exact ⟨0, by omega, rfl, x0, by congr 1; omega, by omega, rfl, HK⟩
    case round =>
      clear HK
      obtain ⟨k, hk, rfl, m, rfl, hm, HP, HK⟩ := hrel
      have hX := (HK.out.at 0 rfl).cells
      by_cases hlt : k < p.subs.length
      · obtain ⟨x, hx⟩ : ∃ x, p.subs[k]? = some x := ⟨_, List.getElem?_eq_getElem hlt⟩
        obtain ⟨b, o, ha1, hc1, hc2⟩ := (HK.out.rowAt 0 rfl).sub hx
        subst ha1
        have hxs := (HEA.out x (List.mem_of_getElem? hx)).1
        have HN := Lib.hid (show m + (2 + x.1.size + 0) = x0 + subsLen 0 (p.subs.take (k + 1)) by rw [subsLen_step _ _ _ _ hx, ← Nat.add_assoc x0, ← HP.out])
        clear hx HP
        go_wp2_with fail
        go_roundw
        case rel => exact ⟨k + 1, by omega, by first | rfl | go_num, m + (2 + x.1.size + 0), by first | rfl | go_num | (congr 1; push_cast; omega), by omega, HN, HK⟩
        case measure => simp [intOf]; omega
      · have hk2 : k = p.subs.length := by omega
        subst hk2
        have hp2 := HP.out
        rw [List.take_length] at hp2
        have HQ := Lib.hid (show restR p = m + connectLen p by rw [HR.out, ← hp2])
        clear hp2 HP HR hlt
        go_wp2_with fail
        all_goals go_ret
        all_goals
          refine FIN.out _ _ ?_ HK.out.low
          rw [HQ.out]
          clear FIN HQ HK HEA hX
          clear k0 k1 k2 k3 k4 k5 k6 k7 k8 k9 k10 k11 k12 k13 k14 k15 k16 k17 k18 k19 k20 k21 k22 k23
          (try unfold connectLen)
          (try simp_all)
          all_goals (try omega)
set_option maxRecDepth 100000 in
set_option maxHeartbeats 8000000 in
theorem restR_2 (p : Pk) (a : Option Addr) (c : Nat) (w : World) (hE : Env w) (hp : PkOk p) (ha : CellsA w a (subCells p.subs)) (hty : p.ty = 2) : Calls Tryd.prog 81 #[.agg (pkV p a c)] w fun e w' => e = .returned (.int .i64 (restR p : Nat)) ∧ Below w.heap.size w w' := by
  have s1 := hp.client
  have s2 := hp.wtopic
  have s3 := hp.wpayload
  have s4 := hp.user
  have s5 := hp.pass
  have s6 := hp.payload
  have s7 := hp.codes
  have s8 := hp.topic
  have hfew := hp.few
  have HEA := Lib.hid hp.each
  have FIN := Lib.hid (show ∀ (n : Int) (w' : World), ((restR p : Nat) : Int) = n → Below w.heap.size w w' → Ending.returned (.int .i64 n) = .returned (.int .i64 (restR p : Nat)) ∧ Below w.heap.size w w' from by rintro n w' rfl h; exact ⟨rfl, h⟩)
  have HK := Lib.hid ((Keep.begin hE [(a, subCells p.subs)] (by intro r hr; simp at hr; subst hr; exact ha)).alloc' (pkV p a c) 27 w.heap.size rfl)
  obtain ⟨k0, k1, k2, k3, k4, k5, k6, k7, k8, k9, k10, k11, k12, k13, k14, k15, k16, k17, k18, k19, k20, k21, k22, k23⟩ := pk_at p a c
  have t1 : ((p.ty : Int) == 1) = false := by rw [beq_eq_false_iff_ne]; omega
  have t2 : ((p.ty : Int) == 2) = true := by rw [hty]; rfl
  have t3 : ((p.ty : Int) == 3) = false := by rw [beq_eq_false_iff_ne]; omega
  have t8 : ((p.ty : Int) == 8) = false := by rw [beq_eq_false_iff_ne]; omega
  obtain ⟨x0, hx0⟩ : ∃ x0, p.payload.size + p.codes.size + (if p.id = 0 then 0 else 2) = x0 := ⟨_, rfl⟩
  have hxb : x0 ≤ 600000002 := by rw [← hx0]; split <;> omega
  have HR := Lib.hid (show restR p = x0 + subsLen 0 p.subs + 2 by unfold restR; rw [hx0]; simp [hty]; try omega)
  clear hp hE ha hty
  by_cases hid : p.id = 0
  · have hi : decide (0 < p.id) = false := by rw [decide_eq_false_iff_not]; omega
    simp only [hid, if_true] at hx0
    clear hid
    go_enter Tryd.func81, Tryd.ntmps81
    go_upto_region 1 with fail
    show Code.wp _ _ _ _ (w.alloc (.cells (pkV p a c) 27))
    generalize World.alloc w _ = w2 at HK ⊢
    have hX := (HK.out.at 0 rfl).cells
    go_wp2_with fail
    clear hX hi
    go_loopw [3, 4] (fun n i wr => ∃ k : Nat, k ≤ p.subs.length ∧ i = .int .i64 k ∧ ∃ m : Nat, n = .int .i64 (m : Int) ∧ m ≤ 600000002 + k * 300000010 ∧ Hid (m = x0 + subsLen 0 (p.subs.take k)) ∧ Hid (Keep w [(w.heap.size, pkV p a c, 27)] [(a, subCells p.subs)] wr)) (fun _ i _ => p.subs.length - (intOf i).toNat)
    case atStart => exact ⟨0, by omega, rfl, x0, by congr 1; omega, by omega, rfl, HK⟩
    case round =>
      clear HK
      obtain ⟨k, hk, rfl, m, rfl, hm, HP, HK⟩ := hrel
      have hX := (HK.out.at 0 rfl).cells
      by_cases hlt : k < p.subs.length
      · obtain ⟨x, hx⟩ : ∃ x, p.subs[k]? = some x := ⟨_, List.getElem?_eq_getElem hlt⟩
        obtain ⟨b, o, ha1, hc1, hc2⟩ := (HK.out.rowAt 0 rfl).sub hx
        subst ha1
        have hxs := (HEA.out x (List.mem_of_getElem? hx)).1
        have HN := Lib.hid (show m + (2 + x.1.size + 0) = x0 + subsLen 0 (p.subs.take (k + 1)) by rw [subsLen_step _ _ _ _ hx, ← Nat.add_assoc x0, ← HP.out])
        clear hx HP
        go_wp2_with fail
        go_roundw
        case rel => exact ⟨k + 1, by omega, by first | rfl | go_num, m + (2 + x.1.size + 0), by first | rfl | go_num | (congr 1; push_cast; omega), by omega, HN, HK⟩
        case measure => simp [intOf]; omega
      · have hk2 : k = p.subs.length := by omega
        subst hk2
        have hp2 := HP.out
        rw [List.take_length] at hp2
        have HQ := Lib.hid (show restR p = m + 2 by rw [HR.out, ← hp2])
        clear hp2 HP HR hlt
        go_wp2_with fail
        all_goals go_ret
        all_goals
          refine FIN.out _ _ ?_ HK.out.low
          rw [HQ.out]
          clear FIN HQ HK HEA hX
          clear k0 k1 k2 k3 k4 k5 k6 k7 k8 k9 k10 k11 k12 k13 k14 k15 k16 k17 k18 k19 k20 k21 k22 k23
          (try unfold connectLen)
          (try simp_all)
          all_goals (try omega)
  · have hi : decide (0 < p.id) = true := by rw [decide_eq_true_eq]; omega
    simp only [hid, if_false] at hx0
    clear hid
    go_enter Tryd.func81, Tryd.ntmps81
    go_upto_region 1 with fail
    show Code.wp _ _ _ _ (w.alloc (.cells (pkV p a c) 27))
    generalize World.alloc w _ = w2 at HK ⊢
    have hX := (HK.out.at 0 rfl).cells
    go_wp2_with fail
    clear hX hi
    go_loopw [3, 4] (fun n i wr => ∃ k : Nat, k ≤ p.subs.length ∧ i = .int .i64 k ∧ ∃ m : Nat, n = .int .i64 (m : Int) ∧ m ≤ 600000002 + k * 300000010 ∧ Hid (m = x0 + subsLen 0 (p.subs.take k)) ∧ Hid (Keep w [(w.heap.size, pkV p a c, 27)] [(a, subCells p.subs)] wr)) (fun _ i _ => p.subs.length - (intOf i).toNat)
    case atStart => exact ⟨0, by omega, rfl, x0, by congr 1; omega, by omega, rfl, HK⟩
    case round =>
      clear HK
      obtain ⟨k, hk, rfl, m, rfl, hm, HP, HK⟩ := hrel
      have hX := (HK.out.at 0 rfl).cells
      by_cases hlt : k < p.subs.length
      · obtain ⟨x, hx⟩ : ∃ x, p.subs[k]? = some x := ⟨_, List.getElem?_eq_getElem hlt⟩
        obtain ⟨b, o, ha1, hc1, hc2⟩ := (HK.out.rowAt 0 rfl).sub hx
        subst ha1
        have hxs := (HEA.out x (List.mem_of_getElem? hx)).1
        have HN := Lib.hid (show m + (2 + x.1.size + 0) = x0 + subsLen 0 (p.subs.take (k + 1)) by rw [subsLen_step _ _ _ _ hx, ← Nat.add_assoc x0, ← HP.out])
        clear hx HP
        go_wp2_with fail
        go_roundw
        case rel => exact ⟨k + 1, by omega, by first | rfl | go_num, m + (2 + x.1.size + 0), by first | rfl | go_num | (congr 1; push_cast; omega), by omega, HN, HK⟩
        case measure => simp [intOf]; omega
      · have hk2 : k = p.subs.length := by omega
        subst hk2
        have hp2 := HP.out
        rw [List.take_length] at hp2
        have HQ := Lib.hid (show restR p = m + 2 by rw [HR.out, ← hp2])
        clear hp2 HP HR hlt
        go_wp2_with fail
        all_goals go_ret
        all_goals
          refine FIN.out _ _ ?_ HK.out.low
          rw [HQ.out]
          clear FIN HQ HK HEA hX
          clear k0 k1 k2 k3 k4 k5 k6 k7 k8 k9 k10 k11 k12 k13 k14 k15 k16 k17 k18 k19 k20 k21 k22 k23
          (try unfold connectLen)
          (try simp_all)
          all_goals (try omega)
set_option maxRecDepth 100000 in
set_option maxHeartbeats 8000000 in
theorem restR_3 (p : Pk) (a : Option Addr) (c : Nat) (w : World) (hE : Env w) (hp : PkOk p) (ha : CellsA w a (subCells p.subs)) (hty : p.ty = 3) : Calls Tryd.prog 81 #[.agg (pkV p a c)] w fun e w' => e = .returned (.int .i64 (restR p : Nat)) ∧ Below w.heap.size w w' := by
  have s1 := hp.client
  have s2 := hp.wtopic
  have s3 := hp.wpayload
  have s4 := hp.user
  have s5 := hp.pass
  have s6 := hp.payload
  have s7 := hp.codes
  have s8 := hp.topic
  have hfew := hp.few
  have HEA := Lib.hid hp.each
  have FIN := Lib.hid (show ∀ (n : Int) (w' : World), ((restR p : Nat) : Int) = n → Below w.heap.size w w' → Ending.returned (.int .i64 n) = .returned (.int .i64 (restR p : Nat)) ∧ Below w.heap.size w w' from by rintro n w' rfl h; exact ⟨rfl, h⟩)
  have HK := Lib.hid ((Keep.begin hE [(a, subCells p.subs)] (by intro r hr; simp at hr; subst hr; exact ha)).alloc' (pkV p a c) 27 w.heap.size rfl)
  obtain ⟨k0, k1, k2, k3, k4, k5, k6, k7, k8, k9, k10, k11, k12, k13, k14, k15, k16, k17, k18, k19, k20, k21, k22, k23⟩ := pk_at p a c
  have t1 : ((p.ty : Int) == 1) = false := by rw [beq_eq_false_iff_ne]; omega
  have t2 : ((p.ty : Int) == 2) = false := by rw [beq_eq_false_iff_ne]; omega
  have t3 : ((p.ty : Int) == 3) = true := by rw [hty]; rfl
  have t8 : ((p.ty : Int) == 8) = false := by rw [beq_eq_false_iff_ne]; omega
  obtain ⟨x0, hx0⟩ : ∃ x0, p.payload.size + p.codes.size + (if p.id = 0 then 0 else 2) = x0 := ⟨_, rfl⟩
  have hxb : x0 ≤ 600000002 := by rw [← hx0]; split <;> omega
  have HR := Lib.hid (show restR p = x0 + subsLen 0 p.subs + (2 + p.topic.size) by unfold restR; rw [hx0]; simp [hty]; try omega)
  clear hp hE ha hty
  by_cases hid : p.id = 0
  · have hi : decide (0 < p.id) = false := by rw [decide_eq_false_iff_not]; omega
    simp only [hid, if_true] at hx0
    clear hid
    go_enter Tryd.func81, Tryd.ntmps81
    go_upto_region 1 with fail
    show Code.wp _ _ _ _ (w.alloc (.cells (pkV p a c) 27))
    generalize World.alloc w _ = w2 at HK ⊢
    have hX := (HK.out.at 0 rfl).cells
    go_wp2_with fail
    clear hX hi
    go_loopw [3, 4] (fun n i wr => ∃ k : Nat, k ≤ p.subs.length ∧ i = .int .i64 k ∧ ∃ m : Nat, n = .int .i64 (m : Int) ∧ m ≤ 600000002 + k * 300000010 ∧ Hid (m = x0 + subsLen 0 (p.subs.take k)) ∧ Hid (Keep w [(w.heap.size, pkV p a c, 27)] [(a, subCells p.subs)] wr)) (fun _ i _ => p.subs.length - (intOf i).toNat)
    case atStart => exact ⟨0, by omega, rfl, x0, by congr 1; omega, by omega, rfl, HK⟩
    case round =>
      clear HK
      obtain ⟨k, hk, rfl, m, rfl, hm, HP, HK⟩ := hrel
      have hX := (HK.out.at 0 rfl).cells
      by_cases hlt : k < p.subs.length
      · obtain ⟨x, hx⟩ : ∃ x, p.subs[k]? = some x := ⟨_, List.getElem?_eq_getElem hlt⟩
        obtain ⟨b, o, ha1, hc1, hc2⟩ := (HK.out.rowAt 0 rfl).sub hx
        subst ha1
        have hxs := (HEA.out x (List.mem_of_getElem? hx)).1
        have HN := Lib.hid (show m + (2 + x.1.size + 0) = x0 + subsLen 0 (p.subs.take (k + 1)) by rw [subsLen_step _ _ _ _ hx, ← Nat.add_assoc x0, ← HP.out])
        clear hx HP
        go_wp2_with fail
        go_roundw
        case rel => exact ⟨k + 1, by omega, by first | rfl | go_num, m + (2 + x.1.size + 0), by first | rfl | go_num | (congr 1; push_cast; omega), by omega, HN, HK⟩
        case measure => simp [intOf]; omega
      · have hk2 : k = p.subs.length := by omega
        subst hk2
        have hp2 := HP.out
        rw [List.take_length] at hp2
        have HQ := Lib.hid (show restR p = m + (2 + p.topic.size) by rw [HR.out, ← hp2])
        clear hp2 HP HR hlt
        go_wp2_with fail
        all_goals go_ret
        all_goals
          refine FIN.out _ _ ?_ HK.out.low
          rw [HQ.out]
          clear FIN HQ HK HEA hX
          clear k0 k1 k2 k3 k4 k5 k6 k7 k8 k9 k10 k11 k12 k13 k14 k15 k16 k17 k18 k19 k20 k21 k22 k23
          (try unfold connectLen)
          (try simp_all)
          all_goals (try omega)
  · have hi : decide (0 < p.id) = true := by rw [decide_eq_true_eq]; omega
    simp only [hid, if_false] at hx0
    clear hid
    go_enter Tryd.func81, Tryd.ntmps81
    go_upto_region 1 with fail
    show Code.wp _ _ _ _ (w.alloc (.cells (pkV p a c) 27))
    generalize World.alloc w _ = w2 at HK ⊢
    have hX := (HK.out.at 0 rfl).cells
    go_wp2_with fail
    clear hX hi
    go_loopw [3, 4] (fun n i wr => ∃ k : Nat, k ≤ p.subs.length ∧ i = .int .i64 k ∧ ∃ m : Nat, n = .int .i64 (m : Int) ∧ m ≤ 600000002 + k * 300000010 ∧ Hid (m = x0 + subsLen 0 (p.subs.take k)) ∧ Hid (Keep w [(w.heap.size, pkV p a c, 27)] [(a, subCells p.subs)] wr)) (fun _ i _ => p.subs.length - (intOf i).toNat)
    case atStart => exact ⟨0, by omega, rfl, x0, by congr 1; omega, by omega, rfl, HK⟩
    case round =>
      clear HK
      obtain ⟨k, hk, rfl, m, rfl, hm, HP, HK⟩ := hrel
      have hX := (HK.out.at 0 rfl).cells
      by_cases hlt : k < p.subs.length
      · obtain ⟨x, hx⟩ : ∃ x, p.subs[k]? = some x := ⟨_, List.getElem?_eq_getElem hlt⟩
        obtain ⟨b, o, ha1, hc1, hc2⟩ := (HK.out.rowAt 0 rfl).sub hx
        subst ha1
        have hxs := (HEA.out x (List.mem_of_getElem? hx)).1
        have HN := Lib.hid (show m + (2 + x.1.size + 0) = x0 + subsLen 0 (p.subs.take (k + 1)) by rw [subsLen_step _ _ _ _ hx, ← Nat.add_assoc x0, ← HP.out])
        clear hx HP
        go_wp2_with fail
        go_roundw
        case rel => exact ⟨k + 1, by omega, by first | rfl | go_num, m + (2 + x.1.size + 0), by first | rfl | go_num | (congr 1; push_cast; omega), by omega, HN, HK⟩
        case measure => simp [intOf]; omega
      · have hk2 : k = p.subs.length := by omega
        subst hk2
        have hp2 := HP.out
        rw [List.take_length] at hp2
        have HQ := Lib.hid (show restR p = m + (2 + p.topic.size) by rw [HR.out, ← hp2])
        clear hp2 HP HR hlt
        go_wp2_with fail
        all_goals go_ret
        all_goals
          refine FIN.out _ _ ?_ HK.out.low
          rw [HQ.out]
          clear FIN HQ HK HEA hX
          clear k0 k1 k2 k3 k4 k5 k6 k7 k8 k9 k10 k11 k12 k13 k14 k15 k16 k17 k18 k19 k20 k21 k22 k23
          (try unfold connectLen)
          (try simp_all)
          all_goals (try omega)
set_option maxRecDepth 100000 in
set_option maxHeartbeats 8000000 in
theorem restR_8 (p : Pk) (a : Option Addr) (c : Nat) (w : World) (hE : Env w) (hp : PkOk p) (ha : CellsA w a (subCells p.subs)) (hty : p.ty = 8) : Calls Tryd.prog 81 #[.agg (pkV p a c)] w fun e w' => e = .returned (.int .i64 (restR p : Nat)) ∧ Below w.heap.size w w' := by
  have s1 := hp.client
  have s2 := hp.wtopic
  have s3 := hp.wpayload
  have s4 := hp.user
  have s5 := hp.pass
  have s6 := hp.payload
  have s7 := hp.codes
  have s8 := hp.topic
  have hfew := hp.few
  have HEA := Lib.hid hp.each
  have FIN := Lib.hid (show ∀ (n : Int) (w' : World), ((restR p : Nat) : Int) = n → Below w.heap.size w w' → Ending.returned (.int .i64 n) = .returned (.int .i64 (restR p : Nat)) ∧ Below w.heap.size w w' from by rintro n w' rfl h; exact ⟨rfl, h⟩)
  have HK := Lib.hid ((Keep.begin hE [(a, subCells p.subs)] (by intro r hr; simp at hr; subst hr; exact ha)).alloc' (pkV p a c) 27 w.heap.size rfl)
  obtain ⟨k0, k1, k2, k3, k4, k5, k6, k7, k8, k9, k10, k11, k12, k13, k14, k15, k16, k17, k18, k19, k20, k21, k22, k23⟩ := pk_at p a c
  have t1 : ((p.ty : Int) == 1) = false := by rw [beq_eq_false_iff_ne]; omega
  have t2 : ((p.ty : Int) == 2) = false := by rw [beq_eq_false_iff_ne]; omega
  have t3 : ((p.ty : Int) == 3) = false := by rw [beq_eq_false_iff_ne]; omega
  have t8 : ((p.ty : Int) == 8) = true := by rw [hty]; rfl
  obtain ⟨x0, hx0⟩ : ∃ x0, p.payload.size + p.codes.size + (if p.id = 0 then 0 else 2) = x0 := ⟨_, rfl⟩
  have hxb : x0 ≤ 600000002 := by rw [← hx0]; split <;> omega
  have HR := Lib.hid (show restR p = x0 + subsLen 1 p.subs + 0 by unfold restR; rw [hx0]; simp [hty]; try omega)
  clear hp hE ha hty
  by_cases hid : p.id = 0
  · have hi : decide (0 < p.id) = false := by rw [decide_eq_false_iff_not]; omega
    simp only [hid, if_true] at hx0
    clear hid
    go_enter Tryd.func81, Tryd.ntmps81
    go_upto_region 1 with fail
    show Code.wp _ _ _ _ (w.alloc (.cells (pkV p a c) 27))
    generalize World.alloc w _ = w2 at HK ⊢
    have hX := (HK.out.at 0 rfl).cells
    go_wp2_with fail
    clear hX hi
    go_loopw [3, 4] (fun n i wr => ∃ k : Nat, k ≤ p.subs.length ∧ i = .int .i64 k ∧ ∃ m : Nat, n = .int .i64 (m : Int) ∧ m ≤ 600000002 + k * 300000010 ∧ Hid (m = x0 + subsLen 1 (p.subs.take k)) ∧ Hid (Keep w [(w.heap.size, pkV p a c, 27)] [(a, subCells p.subs)] wr)) (fun _ i _ => p.subs.length - (intOf i).toNat)
    case atStart => exact ⟨0, by omega, rfl, x0, by congr 1; omega, by omega, rfl, HK⟩
    case round =>
      clear HK
      obtain ⟨k, hk, rfl, m, rfl, hm, HP, HK⟩ := hrel
      have hX := (HK.out.at 0 rfl).cells
      by_cases hlt : k < p.subs.length
      · obtain ⟨x, hx⟩ : ∃ x, p.subs[k]? = some x := ⟨_, List.getElem?_eq_getElem hlt⟩
        obtain ⟨b, o, ha1, hc1, hc2⟩ := (HK.out.rowAt 0 rfl).sub hx
        subst ha1
        have hxs := (HEA.out x (List.mem_of_getElem? hx)).1
        have HN := Lib.hid (show m + (2 + x.1.size + 1) = x0 + subsLen 1 (p.subs.take (k + 1)) by rw [subsLen_step _ _ _ _ hx, ← Nat.add_assoc x0, ← HP.out])
        clear hx HP
        go_wp2_with fail
        go_roundw
        case rel => exact ⟨k + 1, by omega, by first | rfl | go_num, m + (2 + x.1.size + 1), by first | rfl | go_num | (congr 1; push_cast; omega), by omega, HN, HK⟩
        case measure => simp [intOf]; omega
      · have hk2 : k = p.subs.length := by omega
        subst hk2
        have hp2 := HP.out
        rw [List.take_length] at hp2
        have HQ := Lib.hid (show restR p = m + 0 by rw [HR.out, ← hp2])
        clear hp2 HP HR hlt
        go_wp2_with fail
        all_goals go_ret
        all_goals
          refine FIN.out _ _ ?_ HK.out.low
          rw [HQ.out]
          clear FIN HQ HK HEA hX
          clear k0 k1 k2 k3 k4 k5 k6 k7 k8 k9 k10 k11 k12 k13 k14 k15 k16 k17 k18 k19 k20 k21 k22 k23
          (try unfold connectLen)
          (try simp_all)
          all_goals (try omega)
  · have hi : decide (0 < p.id) = true := by rw [decide_eq_true_eq]; omega
    simp only [hid, if_false] at hx0
    clear hid
    go_enter Tryd.func81, Tryd.ntmps81
    go_upto_region 1 with fail
    show Code.wp _ _ _ _ (w.alloc (.cells (pkV p a c) 27))
    generalize World.alloc w _ = w2 at HK ⊢
    have hX := (HK.out.at 0 rfl).cells
    go_wp2_with fail
    clear hX hi
    go_loopw [3, 4] (fun n i wr => ∃ k : Nat, k ≤ p.subs.length ∧ i = .int .i64 k ∧ ∃ m : Nat, n = .int .i64 (m : Int) ∧ m ≤ 600000002 + k * 300000010 ∧ Hid (m = x0 + subsLen 1 (p.subs.take k)) ∧ Hid (Keep w [(w.heap.size, pkV p a c, 27)] [(a, subCells p.subs)] wr)) (fun _ i _ => p.subs.length - (intOf i).toNat)
    case atStart => exact ⟨0, by omega, rfl, x0, by congr 1; omega, by omega, rfl, HK⟩
    case round =>
      clear HK
      obtain ⟨k, hk, rfl, m, rfl, hm, HP, HK⟩ := hrel
      have hX := (HK.out.at 0 rfl).cells
      by_cases hlt : k < p.subs.length
      · obtain ⟨x, hx⟩ : ∃ x, p.subs[k]? = some x := ⟨_, List.getElem?_eq_getElem hlt⟩
        obtain ⟨b, o, ha1, hc1, hc2⟩ := (HK.out.rowAt 0 rfl).sub hx
        subst ha1
        have hxs := (HEA.out x (List.mem_of_getElem? hx)).1
        have HN := Lib.hid (show m + (2 + x.1.size + 1) = x0 + subsLen 1 (p.subs.take (k + 1)) by rw [subsLen_step _ _ _ _ hx, ← Nat.add_assoc x0, ← HP.out])
        clear hx HP
        go_wp2_with fail
        go_roundw
        case rel => exact ⟨k + 1, by omega, by first | rfl | go_num, m + (2 + x.1.size + 1), by first | rfl | go_num | (congr 1; push_cast; omega), by omega, HN, HK⟩
        case measure => simp [intOf]; omega
      · have hk2 : k = p.subs.length := by omega
        subst hk2
        have hp2 := HP.out
        rw [List.take_length] at hp2
        have HQ := Lib.hid (show restR p = m + 0 by rw [HR.out, ← hp2])
        clear hp2 HP HR hlt
        go_wp2_with fail
        all_goals go_ret
        all_goals
          refine FIN.out _ _ ?_ HK.out.low
          rw [HQ.out]
          clear FIN HQ HK HEA hX
          clear k0 k1 k2 k3 k4 k5 k6 k7 k8 k9 k10 k11 k12 k13 k14 k15 k16 k17 k18 k19 k20 k21 k22 k23
          (try unfold connectLen)
          (try simp_all)
          all_goals (try omega)
set_option maxRecDepth 100000 in
set_option maxHeartbeats 8000000 in
theorem restR_n (p : Pk) (a : Option Addr) (c : Nat) (w : World) (hE : Env w) (hp : PkOk p) (ha : CellsA w a (subCells p.subs)) (hty : p.ty ≠ 1 ∧ p.ty ≠ 2 ∧ p.ty ≠ 3 ∧ p.ty ≠ 8) : Calls Tryd.prog 81 #[.agg (pkV p a c)] w fun e w' => e = .returned (.int .i64 (restR p : Nat)) ∧ Below w.heap.size w w' := by
  have s1 := hp.client
  have s2 := hp.wtopic
  have s3 := hp.wpayload
  have s4 := hp.user
  have s5 := hp.pass
  have s6 := hp.payload
  have s7 := hp.codes
  have s8 := hp.topic
  have hfew := hp.few
  have HEA := Lib.hid hp.each
  have FIN := Lib.hid (show ∀ (n : Int) (w' : World), ((restR p : Nat) : Int) = n → Below w.heap.size w w' → Ending.returned (.int .i64 n) = .returned (.int .i64 (restR p : Nat)) ∧ Below w.heap.size w w' from by rintro n w' rfl h; exact ⟨rfl, h⟩)
  have HK := Lib.hid ((Keep.begin hE [(a, subCells p.subs)] (by intro r hr; simp at hr; subst hr; exact ha)).alloc' (pkV p a c) 27 w.heap.size rfl)
  obtain ⟨k0, k1, k2, k3, k4, k5, k6, k7, k8, k9, k10, k11, k12, k13, k14, k15, k16, k17, k18, k19, k20, k21, k22, k23⟩ := pk_at p a c
  have t1 : ((p.ty : Int) == 1) = false := by rw [beq_eq_false_iff_ne]; omega
  have t2 : ((p.ty : Int) == 2) = false := by rw [beq_eq_false_iff_ne]; omega
  have t3 : ((p.ty : Int) == 3) = false := by rw [beq_eq_false_iff_ne]; omega
  have t8 : ((p.ty : Int) == 8) = false := by rw [beq_eq_false_iff_ne]; omega
  obtain ⟨x0, hx0⟩ : ∃ x0, p.payload.size + p.codes.size + (if p.id = 0 then 0 else 2) = x0 := ⟨_, rfl⟩
  have hxb : x0 ≤ 600000002 := by rw [← hx0]; split <;> omega
  have HR := Lib.hid (show restR p = x0 + subsLen 0 p.subs + 0 by unfold restR; rw [hx0]; simp [hty])
  clear hp hE ha hty
  by_cases hid : p.id = 0
  · have hi : decide (0 < p.id) = false := by rw [decide_eq_false_iff_not]; omega
    simp only [hid, if_true] at hx0
    clear hid
    go_enter Tryd.func81, Tryd.ntmps81
    go_upto_region 1 with fail
    show Code.wp _ _ _ _ (w.alloc (.cells (pkV p a c) 27))
    generalize World.alloc w _ = w2 at HK ⊢
    have hX := (HK.out.at 0 rfl).cells
    go_wp2_with fail
    clear hX hi
    go_loopw [3, 4] (fun n i wr => ∃ k : Nat, k ≤ p.subs.length ∧ i = .int .i64 k ∧ ∃ m : Nat, n = .int .i64 (m : Int) ∧ m ≤ 600000002 + k * 300000010 ∧ Hid (m = x0 + subsLen 0 (p.subs.take k)) ∧ Hid (Keep w [(w.heap.size, pkV p a c, 27)] [(a, subCells p.subs)] wr)) (fun _ i _ => p.subs.length - (intOf i).toNat)
    case atStart => exact ⟨0, by omega, rfl, x0, by congr 1; omega, by omega, rfl, HK⟩
    case round =>
      clear HK
      obtain ⟨k, hk, rfl, m, rfl, hm, HP, HK⟩ := hrel
      have hX := (HK.out.at 0 rfl).cells
      by_cases hlt : k < p.subs.length
      · obtain ⟨x, hx⟩ : ∃ x, p.subs[k]? = some x := ⟨_, List.getElem?_eq_getElem hlt⟩
        obtain ⟨b, o, ha1, hc1, hc2⟩ := (HK.out.rowAt 0 rfl).sub hx
        subst ha1
        have hxs := (HEA.out x (List.mem_of_getElem? hx)).1
        have HN := Lib.hid (show m + (2 + x.1.size + 0) = x0 + subsLen 0 (p.subs.take (k + 1)) by rw [subsLen_step _ _ _ _ hx, ← Nat.add_assoc x0, ← HP.out])
        clear hx HP
        go_wp2_with fail
        go_roundw
        case rel => exact ⟨k + 1, by omega, by first | rfl | go_num, m + (2 + x.1.size + 0), by first | rfl | go_num | (congr 1; push_cast; omega), by omega, HN, HK⟩
        case measure => simp [intOf]; omega
      · have hk2 : k = p.subs.length := by omega
        subst hk2
        have hp2 := HP.out
        rw [List.take_length] at hp2
        have HQ := Lib.hid (show restR p = m + 0 by rw [HR.out, ← hp2])
        clear hp2 HP HR hlt
        go_wp2_with fail
        all_goals go_ret
        all_goals
          refine FIN.out _ _ ?_ HK.out.low
          rw [HQ.out]
          clear FIN HQ HK HEA hX
          clear k0 k1 k2 k3 k4 k5 k6 k7 k8 k9 k10 k11 k12 k13 k14 k15 k16 k17 k18 k19 k20 k21 k22 k23
          (try unfold connectLen)
          (try simp_all)
          all_goals (try omega)
  · have hi : decide (0 < p.id) = true := by rw [decide_eq_true_eq]; omega
    simp only [hid, if_false] at hx0
    clear hid
    go_enter Tryd.func81, Tryd.ntmps81
    go_upto_region 1 with fail
    show Code.wp _ _ _ _ (w.alloc (.cells (pkV p a c) 27))
    generalize World.alloc w _ = w2 at HK ⊢
    have hX := (HK.out.at 0 rfl).cells
    go_wp2_with fail
    clear hX hi
    go_loopw [3, 4] (fun n i wr => ∃ k : Nat, k ≤ p.subs.length ∧ i = .int .i64 k ∧ ∃ m : Nat, n = .int .i64 (m : Int) ∧ m ≤ 600000002 + k * 300000010 ∧ Hid (m = x0 + subsLen 0 (p.subs.take k)) ∧ Hid (Keep w [(w.heap.size, pkV p a c, 27)] [(a, subCells p.subs)] wr)) (fun _ i _ => p.subs.length - (intOf i).toNat)
    case atStart => exact ⟨0, by omega, rfl, x0, by congr 1; omega, by omega, rfl, HK⟩
    case round =>
      clear HK
      obtain ⟨k, hk, rfl, m, rfl, hm, HP, HK⟩ := hrel
      have hX := (HK.out.at 0 rfl).cells
      by_cases hlt : k < p.subs.length
      · obtain ⟨x, hx⟩ : ∃ x, p.subs[k]? = some x := ⟨_, List.getElem?_eq_getElem hlt⟩
        obtain ⟨b, o, ha1, hc1, hc2⟩ := (HK.out.rowAt 0 rfl).sub hx
        subst ha1
        have hxs := (HEA.out x (List.mem_of_getElem? hx)).1
        have HN := Lib.hid (show m + (2 + x.1.size + 0) = x0 + subsLen 0 (p.subs.take (k + 1)) by rw [subsLen_step _ _ _ _ hx, ← Nat.add_assoc x0, ← HP.out])
        clear hx HP
        go_wp2_with fail
        go_roundw
        case rel => exact ⟨k + 1, by omega, by first | rfl | go_num, m + (2 + x.1.size + 0), by first | rfl | go_num | (congr 1; push_cast; omega), by omega, HN, HK⟩
        case measure => simp [intOf]; omega
      · have hk2 : k = p.subs.length := by omega
        subst hk2
        have hp2 := HP.out
        rw [List.take_length] at hp2
        have HQ := Lib.hid (show restR p = m + 0 by rw [HR.out, ← hp2])
        clear hp2 HP HR hlt
        go_wp2_with fail
        all_goals go_ret
        all_goals
          refine FIN.out _ _ ?_ HK.out.low
          rw [HQ.out]
          clear FIN HQ HK HEA hX
          clear k0 k1 k2 k3 k4 k5 k6 k7 k8 k9 k10 k11 k12 k13 k14 k15 k16 k17 k18 k19 k20 k21 k22 k23
          (try unfold connectLen)
          (try simp_all)
          all_goals (try omega)
theorem ref03_rest (p : Pk) (a : Option Addr) (c : Nat) (w : World) (hE : Env w) (hp : PkOk p) (ha : CellsA w a (subCells p.subs)) : Calls Tryd.prog 81 #[.agg (pkV p a c)] w fun e w' => e = .returned (.int .i64 (restR p : Nat)) ∧ Below w.heap.size w w' := by
  by_cases h1 : p.ty = 1
  · exact restR_1 p a c w hE hp ha h1
  by_cases h2 : p.ty = 2
  · exact restR_2 p a c w hE hp ha h2
  by_cases h3 : p.ty = 3
  · exact restR_3 p a c w hE hp ha h3
  by_cases h8 : p.ty = 8
  · exact restR_8 p a c w hE hp ha h8
  exact restR_n p a c w hE hp ha ⟨h1, h2, h3, h8⟩
end Go.Proofs.YtfljdlaelanliaaDoor
