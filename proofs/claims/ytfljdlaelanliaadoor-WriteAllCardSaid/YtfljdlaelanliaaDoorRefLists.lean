/- The walk of the reference's lists. Conditions: a machine's bounds on the packet's sizes; its list in its cells; the decoder's tables lie as Go lays them. -/
import Derived.Test.YtfljdlaelanliaaDoorPacketRest
import Derived.Test.YtfljdlaelanliaaDoorRefPacket
import Derived.Test.YtfljdlaelanliaaDoorJoinC
import Derived.Test.YtfljdlaelanliaaDoorJoinB
namespace Go.Proofs.YtfljdlaelanliaaDoor
open Go.RowKit
theorem subR_val (p : Pk) (x : Sb) {f b2 b10 b0 : Bool} (hf : filterL (bl x.1) = f) (h2 : decide ((2 : Int) < (x.2 : Int)) = b2) (h10 : ((p.ty : Int) == 10) = b10) (h0 : decide (0 < x.2) = b0) : subR p x = (f && !b2 && !(b10 && b0)) := by
  unfold subR fB
  rw [hf]
  have e2 : decide (x.2 ≤ 2) = !b2 := by
    rw [← h2, Bool.eq_iff_iff]; simp; omega
  have e10 : decide (p.ty = 10) = b10 := by
    rw [← h10, Bool.eq_iff_iff]; simp; omega
  rw [e2, e10, h0]
theorem code_val (b : UInt8) {c2 c128 : Bool} (h2 : decide ((2 : Int) < (b.toNat : Int)) = c2) (h128 : ((b.toNat : Int) != 128) = c128) : codeOk b = !(c2 && c128) := by
  unfold codeOk
  have e2 : decide (b.toNat ≤ 2) = !c2 := by
    rw [← h2, Bool.eq_iff_iff]; simp; omega
  have e3 : decide (b.toNat = 128) = !c128 := by
    rw [← h128, Bool.eq_iff_iff]; simp; omega
  rw [e2, e3]
  cases c2 <;> cases c128 <;> rfl
theorem all_step {α : Type} (f : α → Bool) (L : List α) (k : Nat) (x : α) (hx : L[k]? = some x) (h : (L.take k).all f = true) : (L.take (k + 1)).all f = f x := by
  rw [List.take_add_one, hx, List.all_append, h]; simp
theorem all_no {α : Type} (f : α → Bool) (L : List α) (k : Nat) (x : α) (hx : L[k]? = some x) (h : f x = false) : L.all f = false := by
  rw [List.all_eq_false]
  exact ⟨x, List.mem_of_getElem? hx, by rw [h]; decide⟩
set_option maxRecDepth 100000 in
set_option maxHeartbeats 8000000 in
theorem ref03_lists (p : Pk) (a : Option Addr) (c : Nat) (w : World) (hE : Env w) (hp : PkOk p) (ha : CellsA w a (subCells p.subs)) : Calls Tryd.prog 77 #[.agg (pkV p a c)] w fun e w' => e = .returned (.bool (listsR p)) ∧ Below w.heap.size w w' := by
  have s7 := hp.codes
  have hfew := hp.few
  have HEA := Lib.hid hp.each
  have FIN := Lib.hid (show ∀ (n : Bool) (w' : World), listsR p = n → Below w.heap.size w w' → Ending.returned (.bool n) = .returned (.bool (listsR p)) ∧ Below w.heap.size w w' from by rintro n w' rfl h; exact ⟨rfl, h⟩)
  have HK := Lib.hid ((Keep.begin hE [(a, subCells p.subs)] (by intro r hr; simp at hr; subst hr; exact ha)).alloc' (pkV p a c) 27 w.heap.size rfl)
  obtain ⟨k0, k1, k2, k3, k4, k5, k6, k7, k8, k9, k10, k11, k12, k13, k14, k15, k16, k17, k18, k19, k20, k21, k22, k23⟩ := pk_at p a c
  clear hp hE ha
  obtain ⟨b10, h10⟩ : ∃ b, ((p.ty : Int) == 10) = b := ⟨_, rfl⟩
  go_enter Tryd.func77, Tryd.ntmps77
  go_upto_region 1 with fail
  show Code.wp _ _ _ _ (w.alloc (.cells (pkV p a c) 27))
  generalize World.alloc w _ = w2 at HK ⊢
  go_wp2_with fail
  go_loopw [3] (fun i wr => ∃ k : Nat, k ≤ p.subs.length ∧ i = .int .i64 k ∧ Hid ((p.subs.take k).all (subR p) = true) ∧ Hid (Keep w [(w.heap.size, pkV p a c, 27)] [(a, subCells p.subs)] wr)) (fun i _ => p.subs.length - (intOf i).toNat)
  case atStart => exact ⟨0, by omega, rfl, rfl, HK⟩
  case round =>
    clear HK
    obtain ⟨k, hk, rfl, HP, HK⟩ := hrel
    have hX := (HK.out.at 0 rfl).cells
    by_cases hlt : k < p.subs.length
    · obtain ⟨x, hx⟩ : ∃ x, p.subs[k]? = some x := ⟨_, List.getElem?_eq_getElem hlt⟩
      obtain ⟨b, o, ha1, hc1, hc2⟩ := (HK.out.rowAt 0 rfl).sub hx
      subst ha1
      have hbl := World.block_lt_of_cell? _ _ hc2
      dsimp only at hbl
      have hxs := (HEA.out x (List.mem_of_getElem? hx)).1
      have hF := fun w1 => ref03_Filter x.1 w1 hxs
      obtain ⟨f, hf⟩ : ∃ f, filterL (bl x.1) = f := ⟨_, rfl⟩
      obtain ⟨b2, h2⟩ : ∃ b2, decide ((2 : Int) < (x.2 : Int)) = b2 := ⟨_, rfl⟩
      obtain ⟨b0, h0⟩ : ∃ b2, decide (0 < x.2) = b2 := ⟨_, rfl⟩
      have hv := subR_val p x hf h2 h10 h0
      have HST := Lib.hid ((all_step (subR p) p.subs k x hx HP.out).trans hv)
      have HNO := Lib.hid (fun h => all_no (subR p) p.subs k x hx (hv.trans h))
      rw [hf] at hF
      have HF := Lib.hid hF
      clear hv hx hf hF
      cases f
      · have HX := Lib.hid (show listsR p = false by unfold listsR; rw [HNO.out rfl]; rfl)
        clear h2 h0
        go_wp2_with (go_at_call 98; (with_reducible refine Calls.mono (HF.out _) ?_); rintro e w1 ⟨rfl, hb1⟩; replace HK := Lib.hid (HK.out.below hb1); have hX := (HK.out.at 0 rfl).cells; clear hb1)
        go_ret
        exact FIN.out _ _ HX.out HK.out.low
      · cases b2
        · cases b10 <;> cases b0
          rotate_right
          · have HX := Lib.hid (show listsR p = false by unfold listsR; rw [HNO.out rfl]; rfl)
            go_wp2_with (go_at_call 98; (with_reducible refine Calls.mono (HF.out _) ?_); rintro e w1 ⟨rfl, hb1⟩; have HCL := Lib.hid (hb1.cell (p := ⟨b, o + k * 2 + 1, none⟩) hbl); replace HK := Lib.hid (HK.out.below hb1); have hX := (HK.out.at 0 rfl).cells; have hc3 := HCL.out.trans hc2; clear hb1)
            go_ret
            exact FIN.out _ _ HX.out HK.out.low
          · go_wp2_with (go_at_call 98; (with_reducible refine Calls.mono (HF.out _) ?_); rintro e w1 ⟨rfl, hb1⟩; have HCL := Lib.hid (hb1.cell (p := ⟨b, o + k * 2 + 1, none⟩) hbl); replace HK := Lib.hid (HK.out.below hb1); have hX := (HK.out.at 0 rfl).cells; have hc3 := HCL.out.trans hc2; clear hb1)
            go_roundw
            case rel => exact ⟨k + 1, by omega, by first | rfl | go_num, HST, HK⟩
            case measure => simp [intOf]; omega
          · go_wp2_with (go_at_call 98; (with_reducible refine Calls.mono (HF.out _) ?_); rintro e w1 ⟨rfl, hb1⟩; have HCL := Lib.hid (hb1.cell (p := ⟨b, o + k * 2 + 1, none⟩) hbl); replace HK := Lib.hid (HK.out.below hb1); have hX := (HK.out.at 0 rfl).cells; have hc3 := HCL.out.trans hc2; clear hb1)
            go_roundw
            case rel => exact ⟨k + 1, by omega, by first | rfl | go_num, HST, HK⟩
            case measure => simp [intOf]; omega
          · go_wp2_with (go_at_call 98; (with_reducible refine Calls.mono (HF.out _) ?_); rintro e w1 ⟨rfl, hb1⟩; have HCL := Lib.hid (hb1.cell (p := ⟨b, o + k * 2 + 1, none⟩) hbl); replace HK := Lib.hid (HK.out.below hb1); have hX := (HK.out.at 0 rfl).cells; have hc3 := HCL.out.trans hc2; clear hb1)
            go_roundw
            case rel => exact ⟨k + 1, by omega, by first | rfl | go_num, HST, HK⟩
            case measure => simp [intOf]; omega
        · have HX := Lib.hid (show listsR p = false by unfold listsR; rw [HNO.out rfl]; rfl)
          clear h0
          go_wp2_with (go_at_call 98; (with_reducible refine Calls.mono (HF.out _) ?_); rintro e w1 ⟨rfl, hb1⟩; have HCL := Lib.hid (hb1.cell (p := ⟨b, o + k * 2 + 1, none⟩) hbl); replace HK := Lib.hid (HK.out.below hb1); have hX := (HK.out.at 0 rfl).cells; have hc3 := HCL.out.trans hc2; clear hb1)
          go_ret
          exact FIN.out _ _ HX.out HK.out.low
    · have hk2 : k = p.subs.length := by omega
      subst hk2
      have ha := HP.out
      rw [List.take_length] at ha
      have HA := Lib.hid ha
      clear ha HP hlt hk
      go_wp2_with fail
      clear hX
      go_loopw [4] (fun i wr => ∃ k : Nat, k ≤ p.codes.size ∧ i = .int .i64 k ∧ Hid (((bl p.codes).take k).all codeOk = true) ∧ Hid (Keep w [(w.heap.size, pkV p a c, 27)] [(a, subCells p.subs)] wr)) (fun i _ => p.codes.size - (intOf i).toNat)
      case atStart => exact ⟨0, by omega, rfl, rfl, HK⟩
      case round =>
        clear HK
        obtain ⟨k, hk, rfl, HP, HK⟩ := hrel
        have hX := (HK.out.at 0 rfl).cells
        by_cases hlt : k < p.codes.size
        · have hx := get_bl p.codes k hlt
          obtain ⟨c2, h2⟩ : ∃ c2, decide ((2 : Int) < ((p.codes[k]'hlt).toNat : Int)) = c2 := ⟨_, rfl⟩
          obtain ⟨c3, h3⟩ : ∃ c2, (((p.codes[k]'hlt).toNat : Int) != 128) = c2 := ⟨_, rfl⟩
          have hv := code_val _ h2 h3
          have HST := Lib.hid ((all_step codeOk (bl p.codes) k _ hx HP.out).trans hv)
          have HNO := Lib.hid (fun h => all_no codeOk (bl p.codes) k _ hx (hv.trans h))
          clear hv hx
          cases c2 <;> cases c3
          rotate_right
          · have HX := Lib.hid (show listsR p = false by unfold listsR; rw [HNO.out rfl, Bool.and_false]; rfl)
            go_wp2_with fail
            go_ret
            exact FIN.out _ _ HX.out HK.out.low
          · go_wp2_with fail
            go_roundw
            case rel => exact ⟨k + 1, by omega, by first | rfl | go_num, HST, HK⟩
            case measure => simp [intOf]; omega
          · go_wp2_with fail
            go_roundw
            case rel => exact ⟨k + 1, by omega, by first | rfl | go_num, HST, HK⟩
            case measure => simp [intOf]; omega
          · go_wp2_with fail
            go_roundw
            case rel => exact ⟨k + 1, by omega, by first | rfl | go_num, HST, HK⟩
            case measure => simp [intOf]; omega
        · have hk2 : k = p.codes.size := by omega
          subst hk2
          have ha := HP.out
          rw [← bl_len, List.take_length] at ha
          obtain ⟨l, hl⟩ : ∃ l, decide (0 < p.subs.length) = l := ⟨_, rfl⟩
          obtain ⟨b8, h8⟩ : ∃ b, ((p.ty : Int) == 8) = b := ⟨_, rfl⟩
          obtain ⟨b9, h9⟩ : ∃ b, ((p.ty : Int) == 9) = b := ⟨_, rfl⟩
          have HX := Lib.hid (show listsR p = (((b8 || b10) == l) && (b9 == decide (0 < p.codes.size))) by
            unfold listsR
            rw [HA.out, ha]
            have e1 : decide (p.ty = 8 ∨ p.ty = 10) = (b8 || b10) := by rw [← h8, ← h10, Bool.eq_iff_iff]; simp; omega
            have e2 : (!p.subs.isEmpty) = l := by
              rw [← hl]
              cases p.subs with
              | nil => rfl
              | cons x r => simp
            have e3 : decide (p.ty = 9) = b9 := by rw [← h9, Bool.eq_iff_iff]; simp; omega
            have e4 : (!(bl p.codes).isEmpty) = decide (0 < p.codes.size) := by
              rw [empty_size]
              by_cases h : p.codes.size = 0
              · rw [decide_eq_true h, h]; rfl
              · rw [decide_eq_false h, decide_eq_true (by omega)]; rfl
            rw [e1, e2, e3, e4]; rfl)
          clear ha HP
          cases b8 <;> cases b10 <;> cases b9 <;> cases l
          all_goals
            go_wp2_with fail
            go_ret
            exact FIN.out _ _ (HX.out.trans (by first | rfl | simp)) HK.out.low
end Go.Proofs.YtfljdlaelanliaaDoor
