import Derived.Test.YtnnpokndajpkiaaDoorPacketRest
import Derived.Test.YtnnpokndajpkiaaDoorRefPacket
import Derived.Test.YtnnpokndajpkiaaDoorJoinC
import Derived.Test.YtnnpokndajpkiaaDoorJoinB
namespace Go.Proofs.YtnnpokndajpkiaaDoor
open Go.RowKit
set_option maxRecDepth 100000 in
set_option maxHeartbeats 8000000 in
theorem ref03_connect (p : Pk) (a : Option Addr) (c : Nat) (w : World) (hp : PkOk p) : Calls Tryd.prog 88 #[.agg (pkV p a c)] w fun e w' => e = .returned (.bool (connectR p)) ∧ Below w.heap.size w w' := by
  have s1 := hp.client; have s2 := hp.wtopic; have s3 := hp.wpayload; have s4 := hp.user; have s5 := hp.pass; have HV := Lib.hid (fun (w1 : World) => ref02_Valid p.client w1 (by omega)); have HU := Lib.hid (fun (w1 : World) => ref02_Valid p.user w1 (by omega)); have HN := Lib.hid (fun (w1 : World) => ref03_Name p.wtopic w1 s2); rw [show p.client.data.toList = bl p.client from rfl] at HV; rw [show p.user.data.toList = bl p.user from rfl] at HU; have FIN := Lib.hid (show ∀ (n : Bool) (w' : World), connectR p = n → Below w.heap.size w w' → Ending.returned (.bool n) = .returned (.bool (connectR p)) ∧ Below w.heap.size w w' from by rintro n w' rfl h; exact ⟨rfl, h⟩); clear hp; obtain ⟨k0, k1, k2, k3, k4, k5, k6, k7, k8, k9, k10, k11, k12, k13, k14, k15, k16, k17, k18, k19, k20, k21, k22, k23⟩ := pk_at p a c; have eu := empty_toList p.user; have ep := empty_toList p.pass; have hb : Below w.heap.size w (w.alloc (.cells (pkV p a c) 40)) := (Below.refl _ _).alloc (Nat.le_refl _) _; have HBX := Lib.hid (BoxAt.new w (pkV p a c) 40); go_enter Tryd.func88, Tryd.ntmps88
  go_wp2_with (first
    | (go_at_call 89; (with_reducible refine Calls.mono (HN.out _) ?_); rintro e w1 ⟨rfl, hb1⟩; replace HBX := Lib.hid (HBX.out.below hb1); have hX := HBX.out.cells; replace hb := Below.then hb hb1; clear hb1)
    | (go_at_call 103; (with_reducible refine Calls.mono (HV.out _) ?_); rintro e w1 ⟨rfl, hb1⟩; replace HBX := Lib.hid (HBX.out.below hb1); have hX := HBX.out.cells; replace hb := Below.then hb hb1; clear hb1)
    | (go_at_call 103; (with_reducible refine Calls.mono (HU.out _) ?_); rintro e w1 ⟨rfl, hb1⟩; replace HBX := Lib.hid (HBX.out.below hb1); have hX := HBX.out.cells; replace hb := Below.then hb hb1; clear hb1))
  all_goals go_ret
  all_goals
    refine FIN.out _ _ ?_ hb; have q1 := nil_e0 p.wtopic; have q2 := nil_e0 p.wpayload; clear FIN HV HU HN HBX hb; clear k0 k1 k2 k3 k4 k5 k6 k7 k8 k9 k10 k11 k12 k13 k14 k15 k16 k17 k18 k19 k20 k21 k22 k23; unfold connectR willOk willZero; simp_all
  all_goals (try omega)
  all_goals (rw [Bool.eq_iff_iff]; simp only [Bool.and_eq_true, decide_eq_true_eq]; omega)
end Go.Proofs.YtnnpokndajpkiaaDoor
namespace Go.Proofs.YtnnpokndajpkiaaDoor
open Go.RowKit
theorem subR_val (p : Pk) (x : Sb) {f b2 b10 b0 : Bool} (hf : filterL (bl x.1) = f) (h2 : decide ((2 : Int) < (x.2 : Int)) = b2) (h10 : ((p.ty : Int) == 10) = b10) (h0 : decide (0 < x.2) = b0) : subR p x = (f && !b2 && !(b10 && b0)) := by
  unfold subR fB; rw [hf]; have e2 : decide (x.2 ≤ 2) = !b2 := by
    rw [← h2, Bool.eq_iff_iff]; simp; omega
  have e10 : decide (p.ty = 10) = b10 := by
    rw [← h10, Bool.eq_iff_iff]; simp; omega
  rw [e2, e10, h0]
theorem code_val (b : UInt8) {c2 c128 : Bool} (h2 : decide ((2 : Int) < (b.toNat : Int)) = c2) (h128 : ((b.toNat : Int) != 128) = c128) : codeOk b = !(c2 && c128) := by
  unfold codeOk; have e2 : decide (b.toNat ≤ 2) = !c2 := by
    rw [← h2, Bool.eq_iff_iff]; simp; omega
  have e3 : decide (b.toNat = 128) = !c128 := by
    rw [← h128, Bool.eq_iff_iff]; simp; omega
  rw [e2, e3]; cases c2 <;> cases c128 <;> rfl
theorem all_step {α : Type} (f : α → Bool) (L : List α) (k : Nat) (x : α) (hx : L[k]? = some x) (h : (L.take k).all f = true) : (L.take (k + 1)).all f = f x := by
  rw [List.take_add_one, hx, List.all_append, h]; simp
theorem all_no {α : Type} (f : α → Bool) (L : List α) (k : Nat) (x : α) (hx : L[k]? = some x) (h : f x = false) : L.all f = false := by
  rw [List.all_eq_false]; exact ⟨x, List.mem_of_getElem? hx, by rw [h]; decide⟩
set_option maxRecDepth 100000 in
set_option maxHeartbeats 8000000 in
theorem ref03_lists (p : Pk) (a : Option Addr) (c : Nat) (w : World) (hE : Env w) (hp : PkOk p) (ha : CellsA w a (subCells p.subs)) : Calls Tryd.prog 87 #[.agg (pkV p a c)] w fun e w' => e = .returned (.bool (listsR p)) ∧ Below w.heap.size w w' := by
  have s7 := hp.codes; have hfew := hp.few; have HEA := Lib.hid hp.each; have FIN := Lib.hid (show ∀ (n : Bool) (w' : World), listsR p = n → Below w.heap.size w w' → Ending.returned (.bool n) = .returned (.bool (listsR p)) ∧ Below w.heap.size w w' from by rintro n w' rfl h; exact ⟨rfl, h⟩); have HK := Lib.hid ((Keep.begin hE [(a, subCells p.subs)] (by intro r hr; simp at hr; subst hr; exact ha)).alloc' (pkV p a c) 40 w.heap.size rfl); obtain ⟨k0, k1, k2, k3, k4, k5, k6, k7, k8, k9, k10, k11, k12, k13, k14, k15, k16, k17, k18, k19, k20, k21, k22, k23⟩ := pk_at p a c; clear hp hE ha; obtain ⟨b10, h10⟩ : ∃ b, ((p.ty : Int) == 10) = b := ⟨_, rfl⟩
  go_enter Tryd.func87, Tryd.ntmps87
  go_upto_region 1 with fail
  show Code.wp _ _ _ _ (w.alloc (.cells (pkV p a c) 40)); generalize World.alloc w _ = w2 at HK ⊢; go_wp2_with fail
  go_loopw [3] (fun i wr => ∃ k : Nat, k ≤ p.subs.length ∧ i = .int .i64 k ∧ Hid ((p.subs.take k).all (subR p) = true) ∧ Hid (Keep w [(w.heap.size, pkV p a c, 40)] [(a, subCells p.subs)] wr)) (fun i _ => p.subs.length - (intOf i).toNat)
  case atStart => exact ⟨0, by omega, rfl, rfl, HK⟩
  case round =>
    clear HK; obtain ⟨k, hk, rfl, HP, HK⟩ := hrel; have hX := (HK.out.at 0 rfl).cells; by_cases hlt : k < p.subs.length
    · obtain ⟨x, hx⟩ : ∃ x, p.subs[k]? = some x := ⟨_, List.getElem?_eq_getElem hlt⟩
      obtain ⟨b, o, ha1, hc1, hc2⟩ := (HK.out.rowAt 0 rfl).sub hx; subst ha1; have hbl := World.block_lt_of_cell? _ _ hc2; dsimp only at hbl
      have hxs := (HEA.out x (List.mem_of_getElem? hx)).1; have hF := fun w1 => ref03_Filter x.1 w1 hxs
      obtain ⟨f, hf⟩ : ∃ f, filterL (bl x.1) = f := ⟨_, rfl⟩
      obtain ⟨b2, h2⟩ : ∃ b2, decide ((2 : Int) < (x.2 : Int)) = b2 := ⟨_, rfl⟩
      obtain ⟨b0, h0⟩ : ∃ b2, decide (0 < x.2) = b2 := ⟨_, rfl⟩
      have hv := subR_val p x hf h2 h10 h0; have HST := Lib.hid ((all_step (subR p) p.subs k x hx HP.out).trans hv); have HNO := Lib.hid (fun h => all_no (subR p) p.subs k x hx (hv.trans h)); rw [hf] at hF; have HF := Lib.hid hF; clear hv hx hf hF; cases f
      · have HX := Lib.hid (show listsR p = false by unfold listsR; rw [HNO.out rfl]; rfl)
        clear h2 h0; go_wp2_with (go_at_call 115; (with_reducible refine Calls.mono (HF.out _) ?_); rintro e w1 ⟨rfl, hb1⟩; replace HK := Lib.hid (HK.out.below hb1); have hX := (HK.out.at 0 rfl).cells; clear hb1)
        go_ret
        exact FIN.out _ _ HX.out HK.out.low
      · cases b2
        · cases b10 <;> cases b0
          rotate_right
          · have HX := Lib.hid (show listsR p = false by unfold listsR; rw [HNO.out rfl]; rfl)
            go_wp2_with (go_at_call 115; (with_reducible refine Calls.mono (HF.out _) ?_); rintro e w1 ⟨rfl, hb1⟩; have HCL := Lib.hid (hb1.cell (p := ⟨b, o + k * 2 + 1, none⟩) hbl); replace HK := Lib.hid (HK.out.below hb1); have hX := (HK.out.at 0 rfl).cells; have hc3 := HCL.out.trans hc2; clear hb1)
            go_ret
            exact FIN.out _ _ HX.out HK.out.low
          · go_wp2_with (go_at_call 115; (with_reducible refine Calls.mono (HF.out _) ?_); rintro e w1 ⟨rfl, hb1⟩; have HCL := Lib.hid (hb1.cell (p := ⟨b, o + k * 2 + 1, none⟩) hbl); replace HK := Lib.hid (HK.out.below hb1); have hX := (HK.out.at 0 rfl).cells; have hc3 := HCL.out.trans hc2; clear hb1)
            go_roundw
            case rel => exact ⟨k + 1, by omega, by first | rfl | go_num, HST, HK⟩
            case measure => simp [intOf]; omega
          · go_wp2_with (go_at_call 115; (with_reducible refine Calls.mono (HF.out _) ?_); rintro e w1 ⟨rfl, hb1⟩; have HCL := Lib.hid (hb1.cell (p := ⟨b, o + k * 2 + 1, none⟩) hbl); replace HK := Lib.hid (HK.out.below hb1); have hX := (HK.out.at 0 rfl).cells; have hc3 := HCL.out.trans hc2; clear hb1)
            go_roundw
            case rel => exact ⟨k + 1, by omega, by first | rfl | go_num, HST, HK⟩
            case measure => simp [intOf]; omega
          · go_wp2_with (go_at_call 115; (with_reducible refine Calls.mono (HF.out _) ?_); rintro e w1 ⟨rfl, hb1⟩; have HCL := Lib.hid (hb1.cell (p := ⟨b, o + k * 2 + 1, none⟩) hbl); replace HK := Lib.hid (HK.out.below hb1); have hX := (HK.out.at 0 rfl).cells; have hc3 := HCL.out.trans hc2; clear hb1)
            go_roundw
            case rel => exact ⟨k + 1, by omega, by first | rfl | go_num, HST, HK⟩
            case measure => simp [intOf]; omega
        · have HX := Lib.hid (show listsR p = false by unfold listsR; rw [HNO.out rfl]; rfl)
          clear h0; go_wp2_with (go_at_call 115; (with_reducible refine Calls.mono (HF.out _) ?_); rintro e w1 ⟨rfl, hb1⟩; have HCL := Lib.hid (hb1.cell (p := ⟨b, o + k * 2 + 1, none⟩) hbl); replace HK := Lib.hid (HK.out.below hb1); have hX := (HK.out.at 0 rfl).cells; have hc3 := HCL.out.trans hc2; clear hb1)
          go_ret
          exact FIN.out _ _ HX.out HK.out.low
    · have hk2 : k = p.subs.length := by omega
      subst hk2; have ha := HP.out; rw [List.take_length] at ha; have HA := Lib.hid ha; clear ha HP hlt hk; go_wp2_with fail
      clear hX; go_loopw [4] (fun i wr => ∃ k : Nat, k ≤ p.codes.size ∧ i = .int .i64 k ∧ Hid (((bl p.codes).take k).all codeOk = true) ∧ Hid (Keep w [(w.heap.size, pkV p a c, 40)] [(a, subCells p.subs)] wr)) (fun i _ => p.codes.size - (intOf i).toNat)
      case atStart => exact ⟨0, by omega, rfl, rfl, HK⟩
      case round =>
        clear HK; obtain ⟨k, hk, rfl, HP, HK⟩ := hrel; have hX := (HK.out.at 0 rfl).cells; by_cases hlt : k < p.codes.size
        · have hx := get_bl p.codes k hlt
          obtain ⟨c2, h2⟩ : ∃ c2, decide ((2 : Int) < ((p.codes[k]'hlt).toNat : Int)) = c2 := ⟨_, rfl⟩
          obtain ⟨c3, h3⟩ : ∃ c2, (((p.codes[k]'hlt).toNat : Int) != 128) = c2 := ⟨_, rfl⟩
          have hv := code_val _ h2 h3; have HST := Lib.hid ((all_step codeOk (bl p.codes) k _ hx HP.out).trans hv); have HNO := Lib.hid (fun h => all_no codeOk (bl p.codes) k _ hx (hv.trans h)); clear hv hx; cases c2 <;> cases c3
          rotate_right
          · have HX := Lib.hid (show listsR p = false by unfold listsR; rw [HNO.out rfl, Bool.and_false]; rfl)
            go_wp2_with fail
            go_ret
            exact FIN.out _ _ HX.out HK.out.low
          · go_wp2_with fail
            go_roundw
            case rel => exact ⟨k + 1, by omega, by first | rfl | go_num, HST, HK⟩
            case measure => simp [intOf]; omega
          · go_wp2_with fail
            go_roundw
            case rel => exact ⟨k + 1, by omega, by first | rfl | go_num, HST, HK⟩
            case measure => simp [intOf]; omega
          · go_wp2_with fail
            go_roundw
            case rel => exact ⟨k + 1, by omega, by first | rfl | go_num, HST, HK⟩
            case measure => simp [intOf]; omega
        · have hk2 : k = p.codes.size := by omega
          subst hk2; have ha := HP.out; rw [← bl_len, List.take_length] at ha; obtain ⟨l, hl⟩ : ∃ l, decide (0 < p.subs.length) = l := ⟨_, rfl⟩
          obtain ⟨b8, h8⟩ : ∃ b, ((p.ty : Int) == 8) = b := ⟨_, rfl⟩
          obtain ⟨b9, h9⟩ : ∃ b, ((p.ty : Int) == 9) = b := ⟨_, rfl⟩
          have HX := Lib.hid (show listsR p = (((b8 || b10) == l) && (b9 == decide (0 < p.codes.size))) by
            unfold listsR; rw [HA.out, ha]; have e1 : decide (p.ty = 8 ∨ p.ty = 10) = (b8 || b10) := by rw [← h8, ← h10, Bool.eq_iff_iff]; simp; omega
            have e2 : (!p.subs.isEmpty) = l := by
              rw [← hl]; cases p.subs with
              | nil => rfl
              | cons x r => simp
            have e3 : decide (p.ty = 9) = b9 := by rw [← h9, Bool.eq_iff_iff]; simp; omega
            have e4 : (!(bl p.codes).isEmpty) = decide (0 < p.codes.size) := by
              rw [empty_size]; by_cases h : p.codes.size = 0
              · rw [decide_eq_true h, h]; rfl
              · rw [decide_eq_false h, decide_eq_true (by omega)]; rfl
            rw [e1, e2, e3, e4]; rfl)
          clear ha HP; cases b8 <;> cases b10 <;> cases b9 <;> cases l
          all_goals
            go_wp2_with fail
            go_ret
            exact FIN.out _ _ (HX.out.trans (by first | rfl | simp)) HK.out.low
end Go.Proofs.YtnnpokndajpkiaaDoor
namespace Go.Proofs.YtnnpokndajpkiaaDoor
open Go.RowKit
theorem subsLen_step (m : Nat) (S : List Sb) (k : Nat) (x : Sb) (hx : S[k]? = some x) : subsLen m (S.take (k + 1)) = subsLen m (S.take k) + (2 + x.1.size + m) := by
  rw [List.take_add_one, hx]; exact subLen_more m _ x
set_option maxRecDepth 100000 in
set_option maxHeartbeats 8000000 in
theorem restR_1 (p : Pk) (a : Option Addr) (c : Nat) (w : World) (hE : Env w) (hp : PkOk p) (ha : CellsA w a (subCells p.subs)) (hty : p.ty = 1) : Calls Tryd.prog 91 #[.agg (pkV p a c)] w fun e w' => e = .returned (.int .i64 (restR p : Nat)) ∧ Below w.heap.size w w' := by
  have s1 := hp.client; have s2 := hp.wtopic; have s3 := hp.wpayload; have s4 := hp.user; have s5 := hp.pass; have s6 := hp.payload; have s7 := hp.codes; have s8 := hp.topic; have hfew := hp.few; have HEA := Lib.hid hp.each; have FIN := Lib.hid (show ∀ (n : Int) (w' : World), ((restR p : Nat) : Int) = n → Below w.heap.size w w' → Ending.returned (.int .i64 n) = .returned (.int .i64 (restR p : Nat)) ∧ Below w.heap.size w w' from by rintro n w' rfl h; exact ⟨rfl, h⟩); have HK := Lib.hid ((Keep.begin hE [(a, subCells p.subs)] (by intro r hr; simp at hr; subst hr; exact ha)).alloc' (pkV p a c) 40 w.heap.size rfl); obtain ⟨k0, k1, k2, k3, k4, k5, k6, k7, k8, k9, k10, k11, k12, k13, k14, k15, k16, k17, k18, k19, k20, k21, k22, k23⟩ := pk_at p a c; have t1 : ((p.ty : Int) == 1) = true := by rw [hty]; rfl
  have t2 : ((p.ty : Int) == 2) = false := by rw [beq_eq_false_iff_ne]; omega
  have t3 : ((p.ty : Int) == 3) = false := by rw [beq_eq_false_iff_ne]; omega
  have t8 : ((p.ty : Int) == 8) = false := by rw [beq_eq_false_iff_ne]; omega
  obtain ⟨x0, hx0⟩ : ∃ x0, p.payload.size + p.codes.size + (if p.id = 0 then 0 else 2) = x0 := ⟨_, rfl⟩
  have hxb : x0 ≤ 600000002 := by rw [← hx0]; split <;> omega
  have HR := Lib.hid (show restR p = x0 + subsLen 0 p.subs + connectLen p by unfold restR; rw [hx0]; simp [hty]; try omega); clear hp hE ha hty; by_cases hid : p.id = 0
  · have hi : decide (0 < p.id) = false := by rw [decide_eq_false_iff_not]; omega
    simp only [hid, if_true] at hx0; clear hid; go_enter Tryd.func91, Tryd.ntmps91
    go_upto_region 1 with fail
    show Code.wp _ _ _ _ (w.alloc (.cells (pkV p a c) 40)); generalize World.alloc w _ = w2 at HK ⊢; have hX := (HK.out.at 0 rfl).cells; go_wp2_with fail
    clear hX hi; go_loopw [3, 4] (fun n i wr => ∃ k : Nat, k ≤ p.subs.length ∧ i = .int .i64 k ∧ ∃ m : Nat, n = .int .i64 (m : Int) ∧ m ≤ 600000002 + k * 300000010 ∧ Hid (m = x0 + subsLen 0 (p.subs.take k)) ∧ Hid (Keep w [(w.heap.size, pkV p a c, 40)] [(a, subCells p.subs)] wr)) (fun _ i _ => p.subs.length - (intOf i).toNat)
    case atStart => exact ⟨0, by omega, rfl, x0, by congr 1; omega, by omega, rfl, HK⟩
    case round =>
      clear HK; obtain ⟨k, hk, rfl, m, rfl, hm, HP, HK⟩ := hrel; have hX := (HK.out.at 0 rfl).cells; by_cases hlt : k < p.subs.length
      · obtain ⟨x, hx⟩ : ∃ x, p.subs[k]? = some x := ⟨_, List.getElem?_eq_getElem hlt⟩
        obtain ⟨b, o, ha1, hc1, hc2⟩ := (HK.out.rowAt 0 rfl).sub hx; subst ha1; have hxs := (HEA.out x (List.mem_of_getElem? hx)).1; have HN := Lib.hid (show m + (2 + x.1.size + 0) = x0 + subsLen 0 (p.subs.take (k + 1)) by rw [subsLen_step _ _ _ _ hx, ← Nat.add_assoc x0, ← HP.out]); clear hx HP; go_wp2_with fail
        go_roundw
        case rel => exact ⟨k + 1, by omega, by first | rfl | go_num, m + (2 + x.1.size + 0), by first | rfl | go_num | (congr 1; push_cast; omega), by omega, HN, HK⟩
        case measure => simp [intOf]; omega
      · have hk2 : k = p.subs.length := by omega
        subst hk2; have hp2 := HP.out; rw [List.take_length] at hp2; have HQ := Lib.hid (show restR p = m + connectLen p by rw [HR.out, ← hp2]); clear hp2 HP HR hlt; go_wp2_with fail
        all_goals go_ret
        all_goals
          refine FIN.out _ _ ?_ HK.out.low; rw [HQ.out]; clear FIN HQ HK HEA hX; clear k0 k1 k2 k3 k4 k5 k6 k7 k8 k9 k10 k11 k12 k13 k14 k15 k16 k17 k18 k19 k20 k21 k22 k23
          (try unfold connectLen)
          (try simp_all)
          all_goals (try omega)
  · have hi : decide (0 < p.id) = true := by rw [decide_eq_true_eq]; omega
    simp only [hid, if_false] at hx0; clear hid; go_enter Tryd.func91, Tryd.ntmps91
    go_upto_region 1 with fail
    show Code.wp _ _ _ _ (w.alloc (.cells (pkV p a c) 40)); generalize World.alloc w _ = w2 at HK ⊢; have hX := (HK.out.at 0 rfl).cells; go_wp2_with fail
    clear hX hi; go_loopw [3, 4] (fun n i wr => ∃ k : Nat, k ≤ p.subs.length ∧ i = .int .i64 k ∧ ∃ m : Nat, n = .int .i64 (m : Int) ∧ m ≤ 600000002 + k * 300000010 ∧ Hid (m = x0 + subsLen 0 (p.subs.take k)) ∧ Hid (Keep w [(w.heap.size, pkV p a c, 40)] [(a, subCells p.subs)] wr)) (fun _ i _ => p.subs.length - (intOf i).toNat)
    case atStart => exact ⟨0, by omega, rfl, x0, by congr 1; omega, by omega, rfl, HK⟩
    case round =>
      clear HK; obtain ⟨k, hk, rfl, m, rfl, hm, HP, HK⟩ := hrel; have hX := (HK.out.at 0 rfl).cells; by_cases hlt : k < p.subs.length
      · obtain ⟨x, hx⟩ : ∃ x, p.subs[k]? = some x := ⟨_, List.getElem?_eq_getElem hlt⟩
        obtain ⟨b, o, ha1, hc1, hc2⟩ := (HK.out.rowAt 0 rfl).sub hx; subst ha1; have hxs := (HEA.out x (List.mem_of_getElem? hx)).1; have HN := Lib.hid (show m + (2 + x.1.size + 0) = x0 + subsLen 0 (p.subs.take (k + 1)) by rw [subsLen_step _ _ _ _ hx, ← Nat.add_assoc x0, ← HP.out]); clear hx HP; go_wp2_with fail
        go_roundw
        case rel => exact ⟨k + 1, by omega, by first | rfl | go_num, m + (2 + x.1.size + 0), by first | rfl | go_num | (congr 1; push_cast; omega), by omega, HN, HK⟩
        case measure => simp [intOf]; omega
      · have hk2 : k = p.subs.length := by omega
        subst hk2; have hp2 := HP.out; rw [List.take_length] at hp2; have HQ := Lib.hid (show restR p = m + connectLen p by rw [HR.out, ← hp2]); clear hp2 HP HR hlt; go_wp2_with fail
        all_goals go_ret
        all_goals
          refine FIN.out _ _ ?_ HK.out.low; rw [HQ.out]; clear FIN HQ HK HEA hX; clear k0 k1 k2 k3 k4 k5 k6 k7 k8 k9 k10 k11 k12 k13 k14 k15 k16 k17 k18 k19 k20 k21 k22 k23
          (try unfold connectLen)
          (try simp_all)
          all_goals (try omega)
set_option maxRecDepth 100000 in
set_option maxHeartbeats 8000000 in
theorem restR_2 (p : Pk) (a : Option Addr) (c : Nat) (w : World) (hE : Env w) (hp : PkOk p) (ha : CellsA w a (subCells p.subs)) (hty : p.ty = 2) : Calls Tryd.prog 91 #[.agg (pkV p a c)] w fun e w' => e = .returned (.int .i64 (restR p : Nat)) ∧ Below w.heap.size w w' := by
  have s1 := hp.client; have s2 := hp.wtopic; have s3 := hp.wpayload; have s4 := hp.user; have s5 := hp.pass; have s6 := hp.payload; have s7 := hp.codes; have s8 := hp.topic; have hfew := hp.few; have HEA := Lib.hid hp.each; have FIN := Lib.hid (show ∀ (n : Int) (w' : World), ((restR p : Nat) : Int) = n → Below w.heap.size w w' → Ending.returned (.int .i64 n) = .returned (.int .i64 (restR p : Nat)) ∧ Below w.heap.size w w' from by rintro n w' rfl h; exact ⟨rfl, h⟩); have HK := Lib.hid ((Keep.begin hE [(a, subCells p.subs)] (by intro r hr; simp at hr; subst hr; exact ha)).alloc' (pkV p a c) 40 w.heap.size rfl); obtain ⟨k0, k1, k2, k3, k4, k5, k6, k7, k8, k9, k10, k11, k12, k13, k14, k15, k16, k17, k18, k19, k20, k21, k22, k23⟩ := pk_at p a c; have t1 : ((p.ty : Int) == 1) = false := by rw [beq_eq_false_iff_ne]; omega
  have t2 : ((p.ty : Int) == 2) = true := by rw [hty]; rfl
  have t3 : ((p.ty : Int) == 3) = false := by rw [beq_eq_false_iff_ne]; omega
  have t8 : ((p.ty : Int) == 8) = false := by rw [beq_eq_false_iff_ne]; omega
  obtain ⟨x0, hx0⟩ : ∃ x0, p.payload.size + p.codes.size + (if p.id = 0 then 0 else 2) = x0 := ⟨_, rfl⟩
  have hxb : x0 ≤ 600000002 := by rw [← hx0]; split <;> omega
  have HR := Lib.hid (show restR p = x0 + subsLen 0 p.subs + 2 by unfold restR; rw [hx0]; simp [hty]; try omega); clear hp hE ha hty; by_cases hid : p.id = 0
  · have hi : decide (0 < p.id) = false := by rw [decide_eq_false_iff_not]; omega
    simp only [hid, if_true] at hx0; clear hid; go_enter Tryd.func91, Tryd.ntmps91
    go_upto_region 1 with fail
    show Code.wp _ _ _ _ (w.alloc (.cells (pkV p a c) 40)); generalize World.alloc w _ = w2 at HK ⊢; have hX := (HK.out.at 0 rfl).cells; go_wp2_with fail
    clear hX hi; go_loopw [3, 4] (fun n i wr => ∃ k : Nat, k ≤ p.subs.length ∧ i = .int .i64 k ∧ ∃ m : Nat, n = .int .i64 (m : Int) ∧ m ≤ 600000002 + k * 300000010 ∧ Hid (m = x0 + subsLen 0 (p.subs.take k)) ∧ Hid (Keep w [(w.heap.size, pkV p a c, 40)] [(a, subCells p.subs)] wr)) (fun _ i _ => p.subs.length - (intOf i).toNat)
    case atStart => exact ⟨0, by omega, rfl, x0, by congr 1; omega, by omega, rfl, HK⟩
    case round =>
      clear HK; obtain ⟨k, hk, rfl, m, rfl, hm, HP, HK⟩ := hrel; have hX := (HK.out.at 0 rfl).cells; by_cases hlt : k < p.subs.length
      · obtain ⟨x, hx⟩ : ∃ x, p.subs[k]? = some x := ⟨_, List.getElem?_eq_getElem hlt⟩
        obtain ⟨b, o, ha1, hc1, hc2⟩ := (HK.out.rowAt 0 rfl).sub hx; subst ha1; have hxs := (HEA.out x (List.mem_of_getElem? hx)).1; have HN := Lib.hid (show m + (2 + x.1.size + 0) = x0 + subsLen 0 (p.subs.take (k + 1)) by rw [subsLen_step _ _ _ _ hx, ← Nat.add_assoc x0, ← HP.out]); clear hx HP; go_wp2_with fail
        go_roundw
        case rel => exact ⟨k + 1, by omega, by first | rfl | go_num, m + (2 + x.1.size + 0), by first | rfl | go_num | (congr 1; push_cast; omega), by omega, HN, HK⟩
        case measure => simp [intOf]; omega
      · have hk2 : k = p.subs.length := by omega
        subst hk2; have hp2 := HP.out; rw [List.take_length] at hp2; have HQ := Lib.hid (show restR p = m + 2 by rw [HR.out, ← hp2]); clear hp2 HP HR hlt; go_wp2_with fail
        all_goals go_ret
        all_goals
          refine FIN.out _ _ ?_ HK.out.low; rw [HQ.out]; clear FIN HQ HK HEA hX; clear k0 k1 k2 k3 k4 k5 k6 k7 k8 k9 k10 k11 k12 k13 k14 k15 k16 k17 k18 k19 k20 k21 k22 k23
          (try unfold connectLen)
          (try simp_all)
          all_goals (try omega)
  · have hi : decide (0 < p.id) = true := by rw [decide_eq_true_eq]; omega
    simp only [hid, if_false] at hx0; clear hid; go_enter Tryd.func91, Tryd.ntmps91
    go_upto_region 1 with fail
    show Code.wp _ _ _ _ (w.alloc (.cells (pkV p a c) 40)); generalize World.alloc w _ = w2 at HK ⊢; have hX := (HK.out.at 0 rfl).cells; go_wp2_with fail
    clear hX hi; go_loopw [3, 4] (fun n i wr => ∃ k : Nat, k ≤ p.subs.length ∧ i = .int .i64 k ∧ ∃ m : Nat, n = .int .i64 (m : Int) ∧ m ≤ 600000002 + k * 300000010 ∧ Hid (m = x0 + subsLen 0 (p.subs.take k)) ∧ Hid (Keep w [(w.heap.size, pkV p a c, 40)] [(a, subCells p.subs)] wr)) (fun _ i _ => p.subs.length - (intOf i).toNat)
    case atStart => exact ⟨0, by omega, rfl, x0, by congr 1; omega, by omega, rfl, HK⟩
    case round =>
      clear HK; obtain ⟨k, hk, rfl, m, rfl, hm, HP, HK⟩ := hrel; have hX := (HK.out.at 0 rfl).cells; by_cases hlt : k < p.subs.length
      · obtain ⟨x, hx⟩ : ∃ x, p.subs[k]? = some x := ⟨_, List.getElem?_eq_getElem hlt⟩
        obtain ⟨b, o, ha1, hc1, hc2⟩ := (HK.out.rowAt 0 rfl).sub hx; subst ha1; have hxs := (HEA.out x (List.mem_of_getElem? hx)).1; have HN := Lib.hid (show m + (2 + x.1.size + 0) = x0 + subsLen 0 (p.subs.take (k + 1)) by rw [subsLen_step _ _ _ _ hx, ← Nat.add_assoc x0, ← HP.out]); clear hx HP; go_wp2_with fail
        go_roundw
        case rel => exact ⟨k + 1, by omega, by first | rfl | go_num, m + (2 + x.1.size + 0), by first | rfl | go_num | (congr 1; push_cast; omega), by omega, HN, HK⟩
        case measure => simp [intOf]; omega
      · have hk2 : k = p.subs.length := by omega
        subst hk2; have hp2 := HP.out; rw [List.take_length] at hp2; have HQ := Lib.hid (show restR p = m + 2 by rw [HR.out, ← hp2]); clear hp2 HP HR hlt; go_wp2_with fail
        all_goals go_ret
        all_goals
          refine FIN.out _ _ ?_ HK.out.low; rw [HQ.out]; clear FIN HQ HK HEA hX; clear k0 k1 k2 k3 k4 k5 k6 k7 k8 k9 k10 k11 k12 k13 k14 k15 k16 k17 k18 k19 k20 k21 k22 k23
          (try unfold connectLen)
          (try simp_all)
          all_goals (try omega)
set_option maxRecDepth 100000 in
set_option maxHeartbeats 8000000 in
theorem restR_3 (p : Pk) (a : Option Addr) (c : Nat) (w : World) (hE : Env w) (hp : PkOk p) (ha : CellsA w a (subCells p.subs)) (hty : p.ty = 3) : Calls Tryd.prog 91 #[.agg (pkV p a c)] w fun e w' => e = .returned (.int .i64 (restR p : Nat)) ∧ Below w.heap.size w w' := by
  have s1 := hp.client; have s2 := hp.wtopic; have s3 := hp.wpayload; have s4 := hp.user; have s5 := hp.pass; have s6 := hp.payload; have s7 := hp.codes; have s8 := hp.topic; have hfew := hp.few; have HEA := Lib.hid hp.each; have FIN := Lib.hid (show ∀ (n : Int) (w' : World), ((restR p : Nat) : Int) = n → Below w.heap.size w w' → Ending.returned (.int .i64 n) = .returned (.int .i64 (restR p : Nat)) ∧ Below w.heap.size w w' from by rintro n w' rfl h; exact ⟨rfl, h⟩); have HK := Lib.hid ((Keep.begin hE [(a, subCells p.subs)] (by intro r hr; simp at hr; subst hr; exact ha)).alloc' (pkV p a c) 40 w.heap.size rfl); obtain ⟨k0, k1, k2, k3, k4, k5, k6, k7, k8, k9, k10, k11, k12, k13, k14, k15, k16, k17, k18, k19, k20, k21, k22, k23⟩ := pk_at p a c; have t1 : ((p.ty : Int) == 1) = false := by rw [beq_eq_false_iff_ne]; omega
  have t2 : ((p.ty : Int) == 2) = false := by rw [beq_eq_false_iff_ne]; omega
  have t3 : ((p.ty : Int) == 3) = true := by rw [hty]; rfl
  have t8 : ((p.ty : Int) == 8) = false := by rw [beq_eq_false_iff_ne]; omega
  obtain ⟨x0, hx0⟩ : ∃ x0, p.payload.size + p.codes.size + (if p.id = 0 then 0 else 2) = x0 := ⟨_, rfl⟩
  have hxb : x0 ≤ 600000002 := by rw [← hx0]; split <;> omega
  have HR := Lib.hid (show restR p = x0 + subsLen 0 p.subs + (2 + p.topic.size) by unfold restR; rw [hx0]; simp [hty]; try omega); clear hp hE ha hty; by_cases hid : p.id = 0
  · have hi : decide (0 < p.id) = false := by rw [decide_eq_false_iff_not]; omega
    simp only [hid, if_true] at hx0; clear hid; go_enter Tryd.func91, Tryd.ntmps91
    go_upto_region 1 with fail
    show Code.wp _ _ _ _ (w.alloc (.cells (pkV p a c) 40)); generalize World.alloc w _ = w2 at HK ⊢; have hX := (HK.out.at 0 rfl).cells; go_wp2_with fail
    clear hX hi; go_loopw [3, 4] (fun n i wr => ∃ k : Nat, k ≤ p.subs.length ∧ i = .int .i64 k ∧ ∃ m : Nat, n = .int .i64 (m : Int) ∧ m ≤ 600000002 + k * 300000010 ∧ Hid (m = x0 + subsLen 0 (p.subs.take k)) ∧ Hid (Keep w [(w.heap.size, pkV p a c, 40)] [(a, subCells p.subs)] wr)) (fun _ i _ => p.subs.length - (intOf i).toNat)
    case atStart => exact ⟨0, by omega, rfl, x0, by congr 1; omega, by omega, rfl, HK⟩
    case round =>
      clear HK; obtain ⟨k, hk, rfl, m, rfl, hm, HP, HK⟩ := hrel; have hX := (HK.out.at 0 rfl).cells; by_cases hlt : k < p.subs.length
      · obtain ⟨x, hx⟩ : ∃ x, p.subs[k]? = some x := ⟨_, List.getElem?_eq_getElem hlt⟩
        obtain ⟨b, o, ha1, hc1, hc2⟩ := (HK.out.rowAt 0 rfl).sub hx; subst ha1; have hxs := (HEA.out x (List.mem_of_getElem? hx)).1; have HN := Lib.hid (show m + (2 + x.1.size + 0) = x0 + subsLen 0 (p.subs.take (k + 1)) by rw [subsLen_step _ _ _ _ hx, ← Nat.add_assoc x0, ← HP.out]); clear hx HP; go_wp2_with fail
        go_roundw
        case rel => exact ⟨k + 1, by omega, by first | rfl | go_num, m + (2 + x.1.size + 0), by first | rfl | go_num | (congr 1; push_cast; omega), by omega, HN, HK⟩
        case measure => simp [intOf]; omega
      · have hk2 : k = p.subs.length := by omega
        subst hk2; have hp2 := HP.out; rw [List.take_length] at hp2; have HQ := Lib.hid (show restR p = m + (2 + p.topic.size) by rw [HR.out, ← hp2]); clear hp2 HP HR hlt; go_wp2_with fail
        all_goals go_ret
        all_goals
          refine FIN.out _ _ ?_ HK.out.low; rw [HQ.out]; clear FIN HQ HK HEA hX; clear k0 k1 k2 k3 k4 k5 k6 k7 k8 k9 k10 k11 k12 k13 k14 k15 k16 k17 k18 k19 k20 k21 k22 k23
          (try unfold connectLen)
          (try simp_all)
          all_goals (try omega)
  · have hi : decide (0 < p.id) = true := by rw [decide_eq_true_eq]; omega
    simp only [hid, if_false] at hx0; clear hid; go_enter Tryd.func91, Tryd.ntmps91
    go_upto_region 1 with fail
    show Code.wp _ _ _ _ (w.alloc (.cells (pkV p a c) 40)); generalize World.alloc w _ = w2 at HK ⊢; have hX := (HK.out.at 0 rfl).cells; go_wp2_with fail
    clear hX hi; go_loopw [3, 4] (fun n i wr => ∃ k : Nat, k ≤ p.subs.length ∧ i = .int .i64 k ∧ ∃ m : Nat, n = .int .i64 (m : Int) ∧ m ≤ 600000002 + k * 300000010 ∧ Hid (m = x0 + subsLen 0 (p.subs.take k)) ∧ Hid (Keep w [(w.heap.size, pkV p a c, 40)] [(a, subCells p.subs)] wr)) (fun _ i _ => p.subs.length - (intOf i).toNat)
    case atStart => exact ⟨0, by omega, rfl, x0, by congr 1; omega, by omega, rfl, HK⟩
    case round =>
      clear HK; obtain ⟨k, hk, rfl, m, rfl, hm, HP, HK⟩ := hrel; have hX := (HK.out.at 0 rfl).cells; by_cases hlt : k < p.subs.length
      · obtain ⟨x, hx⟩ : ∃ x, p.subs[k]? = some x := ⟨_, List.getElem?_eq_getElem hlt⟩
        obtain ⟨b, o, ha1, hc1, hc2⟩ := (HK.out.rowAt 0 rfl).sub hx; subst ha1; have hxs := (HEA.out x (List.mem_of_getElem? hx)).1; have HN := Lib.hid (show m + (2 + x.1.size + 0) = x0 + subsLen 0 (p.subs.take (k + 1)) by rw [subsLen_step _ _ _ _ hx, ← Nat.add_assoc x0, ← HP.out]); clear hx HP; go_wp2_with fail
        go_roundw
        case rel => exact ⟨k + 1, by omega, by first | rfl | go_num, m + (2 + x.1.size + 0), by first | rfl | go_num | (congr 1; push_cast; omega), by omega, HN, HK⟩
        case measure => simp [intOf]; omega
      · have hk2 : k = p.subs.length := by omega
        subst hk2; have hp2 := HP.out; rw [List.take_length] at hp2; have HQ := Lib.hid (show restR p = m + (2 + p.topic.size) by rw [HR.out, ← hp2]); clear hp2 HP HR hlt; go_wp2_with fail
        all_goals go_ret
        all_goals
          refine FIN.out _ _ ?_ HK.out.low; rw [HQ.out]; clear FIN HQ HK HEA hX; clear k0 k1 k2 k3 k4 k5 k6 k7 k8 k9 k10 k11 k12 k13 k14 k15 k16 k17 k18 k19 k20 k21 k22 k23
          (try unfold connectLen)
          (try simp_all)
          all_goals (try omega)
set_option maxRecDepth 100000 in
set_option maxHeartbeats 8000000 in
theorem restR_8 (p : Pk) (a : Option Addr) (c : Nat) (w : World) (hE : Env w) (hp : PkOk p) (ha : CellsA w a (subCells p.subs)) (hty : p.ty = 8) : Calls Tryd.prog 91 #[.agg (pkV p a c)] w fun e w' => e = .returned (.int .i64 (restR p : Nat)) ∧ Below w.heap.size w w' := by
  have s1 := hp.client; have s2 := hp.wtopic; have s3 := hp.wpayload; have s4 := hp.user; have s5 := hp.pass; have s6 := hp.payload; have s7 := hp.codes; have s8 := hp.topic; have hfew := hp.few; have HEA := Lib.hid hp.each; have FIN := Lib.hid (show ∀ (n : Int) (w' : World), ((restR p : Nat) : Int) = n → Below w.heap.size w w' → Ending.returned (.int .i64 n) = .returned (.int .i64 (restR p : Nat)) ∧ Below w.heap.size w w' from by rintro n w' rfl h; exact ⟨rfl, h⟩); have HK := Lib.hid ((Keep.begin hE [(a, subCells p.subs)] (by intro r hr; simp at hr; subst hr; exact ha)).alloc' (pkV p a c) 40 w.heap.size rfl); obtain ⟨k0, k1, k2, k3, k4, k5, k6, k7, k8, k9, k10, k11, k12, k13, k14, k15, k16, k17, k18, k19, k20, k21, k22, k23⟩ := pk_at p a c; have t1 : ((p.ty : Int) == 1) = false := by rw [beq_eq_false_iff_ne]; omega
  have t2 : ((p.ty : Int) == 2) = false := by rw [beq_eq_false_iff_ne]; omega
  have t3 : ((p.ty : Int) == 3) = false := by rw [beq_eq_false_iff_ne]; omega
  have t8 : ((p.ty : Int) == 8) = true := by rw [hty]; rfl
  obtain ⟨x0, hx0⟩ : ∃ x0, p.payload.size + p.codes.size + (if p.id = 0 then 0 else 2) = x0 := ⟨_, rfl⟩
  have hxb : x0 ≤ 600000002 := by rw [← hx0]; split <;> omega
  have HR := Lib.hid (show restR p = x0 + subsLen 1 p.subs + 0 by unfold restR; rw [hx0]; simp [hty]; try omega); clear hp hE ha hty; by_cases hid : p.id = 0
  · have hi : decide (0 < p.id) = false := by rw [decide_eq_false_iff_not]; omega
    simp only [hid, if_true] at hx0; clear hid; go_enter Tryd.func91, Tryd.ntmps91
    go_upto_region 1 with fail
    show Code.wp _ _ _ _ (w.alloc (.cells (pkV p a c) 40)); generalize World.alloc w _ = w2 at HK ⊢; have hX := (HK.out.at 0 rfl).cells; go_wp2_with fail
    clear hX hi; go_loopw [3, 4] (fun n i wr => ∃ k : Nat, k ≤ p.subs.length ∧ i = .int .i64 k ∧ ∃ m : Nat, n = .int .i64 (m : Int) ∧ m ≤ 600000002 + k * 300000010 ∧ Hid (m = x0 + subsLen 1 (p.subs.take k)) ∧ Hid (Keep w [(w.heap.size, pkV p a c, 40)] [(a, subCells p.subs)] wr)) (fun _ i _ => p.subs.length - (intOf i).toNat)
    case atStart => exact ⟨0, by omega, rfl, x0, by congr 1; omega, by omega, rfl, HK⟩
    case round =>
      clear HK; obtain ⟨k, hk, rfl, m, rfl, hm, HP, HK⟩ := hrel; have hX := (HK.out.at 0 rfl).cells; by_cases hlt : k < p.subs.length
      · obtain ⟨x, hx⟩ : ∃ x, p.subs[k]? = some x := ⟨_, List.getElem?_eq_getElem hlt⟩
        obtain ⟨b, o, ha1, hc1, hc2⟩ := (HK.out.rowAt 0 rfl).sub hx; subst ha1; have hxs := (HEA.out x (List.mem_of_getElem? hx)).1; have HN := Lib.hid (show m + (2 + x.1.size + 1) = x0 + subsLen 1 (p.subs.take (k + 1)) by rw [subsLen_step _ _ _ _ hx, ← Nat.add_assoc x0, ← HP.out]); clear hx HP; go_wp2_with fail
        go_roundw
        case rel => exact ⟨k + 1, by omega, by first | rfl | go_num, m + (2 + x.1.size + 1), by first | rfl | go_num | (congr 1; push_cast; omega), by omega, HN, HK⟩
        case measure => simp [intOf]; omega
      · have hk2 : k = p.subs.length := by omega
        subst hk2; have hp2 := HP.out; rw [List.take_length] at hp2; have HQ := Lib.hid (show restR p = m + 0 by rw [HR.out, ← hp2]); clear hp2 HP HR hlt; go_wp2_with fail
        all_goals go_ret
        all_goals
          refine FIN.out _ _ ?_ HK.out.low; rw [HQ.out]; clear FIN HQ HK HEA hX; clear k0 k1 k2 k3 k4 k5 k6 k7 k8 k9 k10 k11 k12 k13 k14 k15 k16 k17 k18 k19 k20 k21 k22 k23
          (try unfold connectLen)
          (try simp_all)
          all_goals (try omega)
  · have hi : decide (0 < p.id) = true := by rw [decide_eq_true_eq]; omega
    simp only [hid, if_false] at hx0; clear hid; go_enter Tryd.func91, Tryd.ntmps91
    go_upto_region 1 with fail
    show Code.wp _ _ _ _ (w.alloc (.cells (pkV p a c) 40)); generalize World.alloc w _ = w2 at HK ⊢; have hX := (HK.out.at 0 rfl).cells; go_wp2_with fail
    clear hX hi; go_loopw [3, 4] (fun n i wr => ∃ k : Nat, k ≤ p.subs.length ∧ i = .int .i64 k ∧ ∃ m : Nat, n = .int .i64 (m : Int) ∧ m ≤ 600000002 + k * 300000010 ∧ Hid (m = x0 + subsLen 1 (p.subs.take k)) ∧ Hid (Keep w [(w.heap.size, pkV p a c, 40)] [(a, subCells p.subs)] wr)) (fun _ i _ => p.subs.length - (intOf i).toNat)
    case atStart => exact ⟨0, by omega, rfl, x0, by congr 1; omega, by omega, rfl, HK⟩
    case round =>
      clear HK; obtain ⟨k, hk, rfl, m, rfl, hm, HP, HK⟩ := hrel; have hX := (HK.out.at 0 rfl).cells; by_cases hlt : k < p.subs.length
      · obtain ⟨x, hx⟩ : ∃ x, p.subs[k]? = some x := ⟨_, List.getElem?_eq_getElem hlt⟩
        obtain ⟨b, o, ha1, hc1, hc2⟩ := (HK.out.rowAt 0 rfl).sub hx; subst ha1; have hxs := (HEA.out x (List.mem_of_getElem? hx)).1; have HN := Lib.hid (show m + (2 + x.1.size + 1) = x0 + subsLen 1 (p.subs.take (k + 1)) by rw [subsLen_step _ _ _ _ hx, ← Nat.add_assoc x0, ← HP.out]); clear hx HP; go_wp2_with fail
        go_roundw
        case rel => exact ⟨k + 1, by omega, by first | rfl | go_num, m + (2 + x.1.size + 1), by first | rfl | go_num | (congr 1; push_cast; omega), by omega, HN, HK⟩
        case measure => simp [intOf]; omega
      · have hk2 : k = p.subs.length := by omega
        subst hk2; have hp2 := HP.out; rw [List.take_length] at hp2; have HQ := Lib.hid (show restR p = m + 0 by rw [HR.out, ← hp2]); clear hp2 HP HR hlt; go_wp2_with fail
        all_goals go_ret
        all_goals
          refine FIN.out _ _ ?_ HK.out.low; rw [HQ.out]; clear FIN HQ HK HEA hX; clear k0 k1 k2 k3 k4 k5 k6 k7 k8 k9 k10 k11 k12 k13 k14 k15 k16 k17 k18 k19 k20 k21 k22 k23
          (try unfold connectLen)
          (try simp_all)
          all_goals (try omega)
set_option maxRecDepth 100000 in
set_option maxHeartbeats 8000000 in
theorem restR_n (p : Pk) (a : Option Addr) (c : Nat) (w : World) (hE : Env w) (hp : PkOk p) (ha : CellsA w a (subCells p.subs)) (hty : p.ty ≠ 1 ∧ p.ty ≠ 2 ∧ p.ty ≠ 3 ∧ p.ty ≠ 8) : Calls Tryd.prog 91 #[.agg (pkV p a c)] w fun e w' => e = .returned (.int .i64 (restR p : Nat)) ∧ Below w.heap.size w w' := by
  have s1 := hp.client; have s2 := hp.wtopic; have s3 := hp.wpayload; have s4 := hp.user; have s5 := hp.pass; have s6 := hp.payload; have s7 := hp.codes; have s8 := hp.topic; have hfew := hp.few; have HEA := Lib.hid hp.each; have FIN := Lib.hid (show ∀ (n : Int) (w' : World), ((restR p : Nat) : Int) = n → Below w.heap.size w w' → Ending.returned (.int .i64 n) = .returned (.int .i64 (restR p : Nat)) ∧ Below w.heap.size w w' from by rintro n w' rfl h; exact ⟨rfl, h⟩); have HK := Lib.hid ((Keep.begin hE [(a, subCells p.subs)] (by intro r hr; simp at hr; subst hr; exact ha)).alloc' (pkV p a c) 40 w.heap.size rfl); obtain ⟨k0, k1, k2, k3, k4, k5, k6, k7, k8, k9, k10, k11, k12, k13, k14, k15, k16, k17, k18, k19, k20, k21, k22, k23⟩ := pk_at p a c; have t1 : ((p.ty : Int) == 1) = false := by rw [beq_eq_false_iff_ne]; omega
  have t2 : ((p.ty : Int) == 2) = false := by rw [beq_eq_false_iff_ne]; omega
  have t3 : ((p.ty : Int) == 3) = false := by rw [beq_eq_false_iff_ne]; omega
  have t8 : ((p.ty : Int) == 8) = false := by rw [beq_eq_false_iff_ne]; omega
  obtain ⟨x0, hx0⟩ : ∃ x0, p.payload.size + p.codes.size + (if p.id = 0 then 0 else 2) = x0 := ⟨_, rfl⟩
  have hxb : x0 ≤ 600000002 := by rw [← hx0]; split <;> omega
  have HR := Lib.hid (show restR p = x0 + subsLen 0 p.subs + 0 by unfold restR; rw [hx0]; simp [hty]); clear hp hE ha hty; by_cases hid : p.id = 0
  · have hi : decide (0 < p.id) = false := by rw [decide_eq_false_iff_not]; omega
    simp only [hid, if_true] at hx0; clear hid; go_enter Tryd.func91, Tryd.ntmps91
    go_upto_region 1 with fail
    show Code.wp _ _ _ _ (w.alloc (.cells (pkV p a c) 40)); generalize World.alloc w _ = w2 at HK ⊢; have hX := (HK.out.at 0 rfl).cells; go_wp2_with fail
    clear hX hi; go_loopw [3, 4] (fun n i wr => ∃ k : Nat, k ≤ p.subs.length ∧ i = .int .i64 k ∧ ∃ m : Nat, n = .int .i64 (m : Int) ∧ m ≤ 600000002 + k * 300000010 ∧ Hid (m = x0 + subsLen 0 (p.subs.take k)) ∧ Hid (Keep w [(w.heap.size, pkV p a c, 40)] [(a, subCells p.subs)] wr)) (fun _ i _ => p.subs.length - (intOf i).toNat)
    case atStart => exact ⟨0, by omega, rfl, x0, by congr 1; omega, by omega, rfl, HK⟩
    case round =>
      clear HK; obtain ⟨k, hk, rfl, m, rfl, hm, HP, HK⟩ := hrel; have hX := (HK.out.at 0 rfl).cells; by_cases hlt : k < p.subs.length
      · obtain ⟨x, hx⟩ : ∃ x, p.subs[k]? = some x := ⟨_, List.getElem?_eq_getElem hlt⟩
        obtain ⟨b, o, ha1, hc1, hc2⟩ := (HK.out.rowAt 0 rfl).sub hx; subst ha1; have hxs := (HEA.out x (List.mem_of_getElem? hx)).1; have HN := Lib.hid (show m + (2 + x.1.size + 0) = x0 + subsLen 0 (p.subs.take (k + 1)) by rw [subsLen_step _ _ _ _ hx, ← Nat.add_assoc x0, ← HP.out]); clear hx HP; go_wp2_with fail
        go_roundw
        case rel => exact ⟨k + 1, by omega, by first | rfl | go_num, m + (2 + x.1.size + 0), by first | rfl | go_num | (congr 1; push_cast; omega), by omega, HN, HK⟩
        case measure => simp [intOf]; omega
      · have hk2 : k = p.subs.length := by omega
        subst hk2; have hp2 := HP.out; rw [List.take_length] at hp2; have HQ := Lib.hid (show restR p = m + 0 by rw [HR.out, ← hp2]); clear hp2 HP HR hlt; go_wp2_with fail
        all_goals go_ret
        all_goals
          refine FIN.out _ _ ?_ HK.out.low; rw [HQ.out]; clear FIN HQ HK HEA hX; clear k0 k1 k2 k3 k4 k5 k6 k7 k8 k9 k10 k11 k12 k13 k14 k15 k16 k17 k18 k19 k20 k21 k22 k23
          (try unfold connectLen)
          (try simp_all)
          all_goals (try omega)
  · have hi : decide (0 < p.id) = true := by rw [decide_eq_true_eq]; omega
    simp only [hid, if_false] at hx0; clear hid; go_enter Tryd.func91, Tryd.ntmps91
    go_upto_region 1 with fail
    show Code.wp _ _ _ _ (w.alloc (.cells (pkV p a c) 40)); generalize World.alloc w _ = w2 at HK ⊢; have hX := (HK.out.at 0 rfl).cells; go_wp2_with fail
    clear hX hi; go_loopw [3, 4] (fun n i wr => ∃ k : Nat, k ≤ p.subs.length ∧ i = .int .i64 k ∧ ∃ m : Nat, n = .int .i64 (m : Int) ∧ m ≤ 600000002 + k * 300000010 ∧ Hid (m = x0 + subsLen 0 (p.subs.take k)) ∧ Hid (Keep w [(w.heap.size, pkV p a c, 40)] [(a, subCells p.subs)] wr)) (fun _ i _ => p.subs.length - (intOf i).toNat)
    case atStart => exact ⟨0, by omega, rfl, x0, by congr 1; omega, by omega, rfl, HK⟩
    case round =>
      clear HK; obtain ⟨k, hk, rfl, m, rfl, hm, HP, HK⟩ := hrel; have hX := (HK.out.at 0 rfl).cells; by_cases hlt : k < p.subs.length
      · obtain ⟨x, hx⟩ : ∃ x, p.subs[k]? = some x := ⟨_, List.getElem?_eq_getElem hlt⟩
        obtain ⟨b, o, ha1, hc1, hc2⟩ := (HK.out.rowAt 0 rfl).sub hx; subst ha1; have hxs := (HEA.out x (List.mem_of_getElem? hx)).1; have HN := Lib.hid (show m + (2 + x.1.size + 0) = x0 + subsLen 0 (p.subs.take (k + 1)) by rw [subsLen_step _ _ _ _ hx, ← Nat.add_assoc x0, ← HP.out]); clear hx HP; go_wp2_with fail
        go_roundw
        case rel => exact ⟨k + 1, by omega, by first | rfl | go_num, m + (2 + x.1.size + 0), by first | rfl | go_num | (congr 1; push_cast; omega), by omega, HN, HK⟩
        case measure => simp [intOf]; omega
      · have hk2 : k = p.subs.length := by omega
        subst hk2; have hp2 := HP.out; rw [List.take_length] at hp2; have HQ := Lib.hid (show restR p = m + 0 by rw [HR.out, ← hp2]); clear hp2 HP HR hlt; go_wp2_with fail
        all_goals go_ret
        all_goals
          refine FIN.out _ _ ?_ HK.out.low; rw [HQ.out]; clear FIN HQ HK HEA hX; clear k0 k1 k2 k3 k4 k5 k6 k7 k8 k9 k10 k11 k12 k13 k14 k15 k16 k17 k18 k19 k20 k21 k22 k23
          (try unfold connectLen)
          (try simp_all)
          all_goals (try omega)
theorem ref03_rest (p : Pk) (a : Option Addr) (c : Nat) (w : World) (hE : Env w) (hp : PkOk p) (ha : CellsA w a (subCells p.subs)) : Calls Tryd.prog 91 #[.agg (pkV p a c)] w fun e w' => e = .returned (.int .i64 (restR p : Nat)) ∧ Below w.heap.size w w' := by
  by_cases h1 : p.ty = 1
  · exact restR_1 p a c w hE hp ha h1
  by_cases h2 : p.ty = 2
  · exact restR_2 p a c w hE hp ha h2
  by_cases h3 : p.ty = 3
  · exact restR_3 p a c w hE hp ha h3
  by_cases h8 : p.ty = 8
  · exact restR_8 p a c w hE hp ha h8
  exact restR_n p a c w hE hp ha ⟨h1, h2, h3, h8⟩
end Go.Proofs.YtnnpokndajpkiaaDoor
