/- The walk of SubsKnown; the list's methods at a nil one. Conditions: the decoder's tables lie as Go lays them. -/
import Derived.Test.YtbhmflkhcadaeaaDoorLawTries
namespace Go.Proofs.YtbhmflkhcadaeaaDoor
open Go.RowKit

theorem nil_Subs (w : World) : Calls Tryd.prog 14 #[.pointer none] w fun e w' => e = .returned (.slice none 0 0) ∧ w = w' := by
  go_enter Tryd.func14, Tryd.ntmps14
  go_wp2_with fail
  go_ret
  exact ⟨rfl, rfl⟩
theorem nil_Set (f : ByteArray) (q : Nat) (w : World) : Calls Tryd.prog 20 #[.pointer none, .string f, .int .u8 (q : Int)] w fun e w' => e = .returned (.int .u8 128) ∧ w = w' := by
  go_enter Tryd.func20, Tryd.ntmps20
  go_wp2_with fail
  go_ret
  exact ⟨rfl, rfl⟩
theorem nil_Drop (f : ByteArray) (w : World) : Calls Tryd.prog 21 #[.pointer none, .string f] w fun e w' => e = .returned (.bool false) ∧ w = w' := by
  go_enter Tryd.func21, Tryd.ntmps21
  go_wp2_with fail
  go_ret
  exact ⟨rfl, rfl⟩
theorem nil_Best (f : ByteArray) (w : World) : Calls Tryd.prog 19 #[.pointer none, .string f] w fun e w' => e = .returned (.tuple #[.int .u8 0, .bool false]) ∧ w = w' := by
  go_enter Tryd.func19, Tryd.ntmps19
  go_wp2_with (go_at_call 14; refine Calls.mono (nil_Subs _) ?_; rintro e w1 ⟨rfl, rfl⟩)
  go_loopw [6, 7, 13] (fun p q i wr => p = .int .u8 0 ∧ q = .bool false ∧ i = .int .i64 0 ∧ w = wr) (fun _ _ i _ => 0)
  case atStart => exact ⟨rfl, rfl, rfl, rfl⟩
  case round =>
    obtain ⟨rfl, rfl, rfl, rfl⟩ := hrel
    go_wp2_with fail
    go_ret2
    exact ⟨rfl, rfl⟩
theorem nil_Clear (w : World) : Calls Tryd.prog 22 #[.pointer none] w fun e w' => e = .returned (.slice none 0 0) ∧ w = w' := by
  go_enter Tryd.func22, Tryd.ntmps22
  go_wp2_with (go_at_call 14; refine Calls.mono (nil_Subs _) ?_; rintro e w1 ⟨rfl, rfl⟩)
  go_loopw [3, 9] (fun p i wr => p = .slice none 0 0 ∧ i = .int .i64 0 ∧ w = wr) (fun _ i _ => 0)
  case atStart => exact ⟨rfl, rfl, rfl⟩
  case round =>
    obtain ⟨rfl, rfl, rfl⟩ := hrel
    go_wp2_with fail
    go_ret
    exact ⟨rfl, rfl⟩
theorem nil_try1 (f : ByteArray) (q : Nat) (w : World) : Calls Tryd.prog 31 #[.agg #[.string f, .int .u8 (q : Int)]] w fun e w' => e = .returned (.int .u8 128) ∧ Below w.heap.size w w' := by
  go_enter Tryd.func31, Tryd.ntmps31
  go_wp2_with fail
  go_ret
  exact ⟨rfl, by go_grown⟩

def reps (k : Nat) : List Nat := List.replicate k 128
theorem reps_snoc (k : Nat) : reps (k + 1) = reps k ++ [128] := List.replicate_succ'
set_option maxRecDepth 100000 in
theorem nil_Try (a : Option Addr) (c : Nat) (T : List Sb) (w : World) (ha : CellsA w a (subCells T)) (hn : T.length ≤ 60) :
    Calls Tryd.prog 15 #[.pointer none, .slice a T.length c] w fun e w' => e = .returned (.string (strN (reps T.length))) ∧ Below w.heap.size w w' := by
  obtain ⟨i0, hi, hz0, hz1, hz2⟩ := info_parts infoU8
  go_enter Tryd.func15, Tryd.ntmps15
  go_wp2_with fail
  go_loopw [7, 19] (fun p i wr => ∃ (k : Nat), k ≤ T.length ∧ i = .int .i64 k ∧ Hid (wr.ownsRow w.heap.size 5 1 p k (natV (reps k))) ∧ Below w.heap.size w wr) (fun _ i _ => T.length - (intOf i).toNat)
  case atStart => exact ⟨0, by omega, rfl, World.ownsRow_nil _ _ _ _, Below.refl _ _⟩
  case round =>
    obtain ⟨k, hk, rfl, HA, hbr⟩ := hrel
    by_cases hlt : k < T.length
    · obtain ⟨x, hx⟩ : ∃ x, T[k]? = some x := ⟨_, List.getElem?_eq_getElem hlt⟩
      obtain ⟨bb, o, rfl, c1, c2⟩ := (ha.below hbr).sub hx
      obtain ⟨f, q⟩ := x
      dsimp only at *
      have hsz := hbr.size
      clear hx
      go_wp2_with (first
        | (go_at_call 31; refine Calls.mono (nil_try1 _ _ _) ?_; rintro e w2 ⟨rfl, hb2⟩; have hbx : Below wr.heap.size wr w2 := Below.then ((Below.refl _ _).alloc (Nat.le_refl _) _) hb2; have HO2 := Lib.hid (own_only HA.out (Only.of_below hbx (fun _ => False)) (fun _ _ h => h)); have hbw := Below.then hbr hbx; have hszw := hbw.size; clear hb2 hbx)
        | (at_builtin; refine wpList_append_own _ rfl (.tmp 23) (.tmp 27) 56 rfl w.heap.size 5 i0 _ 1 1 Tryd.underlying56 hi hz0 hz1 hz2 rfl (by decide) _ k (natV (reps k)) rfl (HO2.out.alloc _) ⟨w2.heap.size, 0, none⟩ 1 1 (natV [128]) rfl rfl (newsN _ _ _ _ rfl) (natV_one _) (by unfold maxLen; omega) (by omega) (by simp; omega) ?_; intro v3 w3 hown3 hg3 _; have hb3 := Below.grown' (hbw.alloc hszw _) hg3 (by simp; omega) (fun r hr => (own_lt HO2.out hr).2); have HC3 := Lib.hid hown3; clear hown3 hg3))
      go_roundw
      case rel => exact ⟨k + 1, by omega, by first | rfl | go_num, by rw [Hid, reps_snoc, natV_append]; exact HC3.out, hb3⟩
      case measure => simp [intOf]; omega
    · have : k = T.length := by omega
      subst this
      have hout := HA.out
      obtain ⟨ap, cp, rfl, _, hcp⟩ := own_form hout
      have kc := conv_nats (P := Tryd.prog) wr 56 5 Tryd.underlying56 Tryd.underlying5 ap cp _ _ (show T.length = (reps T.length).length by simp [reps]) hcp 9 Tryd.underlying9
      clear hout hcp
      go_wp2_with fail
      go_ret
      exact ⟨rfl, hbr⟩

theorem kb1 : bestS small3 (bl (b1 [97])) = (0, true) := by kernel_rfl
theorem kb2 : bestS small3 (bl (b1 [98])) = (2, true) := by kernel_rfl
theorem kb3 : bestS small3 (bl (b1 [99])) = (0, false) := by kernel_rfl
def tries3 : List Sb := [(b1 [99], 1), (b1 [99, 43], 0), (b1 [97, 47, 35], 2)]
theorem kt1 : strN (tryS small3 tries3) = b1 [1, 128, 2] := by kernel_rfl
theorem ks1 : setS small3 (b1 [98]) 3 = (128, small3) := by kernel_rfl
theorem kd1 : atS small3 (bl (b1 [99])) = false := by kernel_rfl
theorem kd2 : delS small3 (bl (b1 [99])) = small3 := by kernel_rfl
theorem kr1 : strN (reps 1) = b1 [128] := by kernel_rfl
def texts3 : List ByteArray := [b1 [97, 47, 35], b1 [97, 47, 43], b1 [98]]
theorem kst : strsOf small3 = texts3.map Value.string := by kernel_rfl

set_option maxRecDepth 100000 in
set_option maxHeartbeats 2000000 in
theorem law15_SubsKnown (w : World) (hE : Env w) : Calls Tryd.prog 5 #[] w fun e w' => e = .returned (.bool true) ∧ Below w.heap.size w w' := by
  have hB1 := fun B g v (w : World) hE hL => subs_Best B g v small3 (b1 [97]) w hE hL fine3 (by decide)
  have hB2 := fun B g v (w : World) hE hL => subs_Best B g v small3 (b1 [98]) w hE hL fine3 (by decide)
  have hB3 := fun B g v (w : World) hE hL => subs_Best B g v small3 (b1 [99]) w hE hL fine3 (by decide)
  rw [kb1] at hB1
  rw [kb2] at hB2
  rw [kb3] at hB3
  have hT := fun B g v (w : World) hE hL a c ha => subs_Try B g v small3 a c tries3 w hE hL fine3 ha (by intro x hx; simp [tries3] at hx; rcases hx with rfl | rfl | rfl <;> decide) (by decide)
  rw [kt1] at hT
  have hS := fun B g v (w : World) hE hL hB => own_Set (B := B) (g := g) (v := v) (w := w) (f := b1 [98]) (q := 3) hE hL fine3 hB (by decide) (by decide)
  rw [ks1] at hS
  have hD := fun B g v (w : World) hL hB => own_Drop (B := B) (g := g) (v := v) (w := w) (f := b1 [99]) hL fine3 hB
  rw [kd1, kd2] at hD
  have hN := fun (w : World) a c ha => nil_Try a c [(b1 [97], 0)] w ha (by decide)
  rw [show strN (reps ([(b1 [97], 0)] : List Sb).length) = b1 [128] from kr1] at hN
  have HB1 := Lib.hid hB1
  have HB2 := Lib.hid hB2
  have HB3 := Lib.hid hB3
  have HT := Lib.hid hT
  have HS := Lib.hid hS
  have HD := Lib.hid hD
  have HN := Lib.hid hN
  have e0 : ((b1 [1, 128, 2]).toList == [1, 128, 2]) = true := by rw [Lib.toList_data]; rfl
  have e1 : ((b1 [128]).toList == [128]) = true := by rw [Lib.toList_data]; rfl
  clear hB1 hB2 hB3 hT hS hD hN
  go_enter Tryd.func5, Tryd.ntmps5
  go_wp2_with fail
  go_at_call 18
  refine Calls.mono (law15_small _ hE) ?_
  rintro e w1 ⟨g, v, rfl, hL, hb⟩
  go_wp2_with fail
  go_at_call 19
  refine Calls.mono (HB1.out _ _ _ _ (hE.below hb) hL) ?_
  rintro e w2 ⟨rfl, hb2⟩
  replace hb := Below.then hb hb2
  replace hL := hL.below hb2
  clear hb2
  go_wp2_with fail
  go_at_call 19
  refine Calls.mono (HB2.out _ _ _ _ (hE.below hb) hL) ?_
  rintro e w3 ⟨rfl, hb2⟩
  replace hb := Below.then hb hb2
  replace hL := hL.below hb2
  clear hb2
  go_wp2_with fail
  go_at_call 19
  refine Calls.mono (HB3.out _ _ _ _ (hE.below hb) hL) ?_
  rintro e w4 ⟨rfl, hb2⟩
  replace hb := Below.then hb hb2
  replace hL := hL.below hb2
  clear hb2
  go_wp2_with fail
  go_at_call 15
  have h0 : Below w4.heap.size w4 (w4.alloc (.cells (subCells tries3).toArray 33)) := (Below.refl _ _).alloc (Nat.le_refl _) _
  refine Calls.mono (HT.out _ _ _ (w4.alloc (.cells (subCells tries3).toArray 33)) ((hE.below hb).below h0) (hL.below h0) _ _ cells_new) ?_
  rintro e w5 ⟨rfl, hb2⟩
  replace hb := Below.then (Below.then hb h0) hb2
  replace hL := (hL.below h0).below hb2
  clear hb2 h0
  go_wp2_with fail
  go_at_call 20
  refine Calls.mono (HS.out _ _ _ _ (hE.below hb) hL hb.size) ?_
  rintro e w6 ⟨v6, rfl, hL6, hb2⟩
  replace hb := hb.trans hb2
  clear hb2 hL
  go_wp2_with fail
  go_at_call 21
  refine Calls.mono (HD.out _ _ _ _ hL6 hb.size) ?_
  rintro e w7 ⟨v7, rfl, hL7, hb2⟩
  replace hb := hb.trans hb2
  clear hb2 hL6
  go_wp2_with fail
  go_at_call 14
  refine Calls.mono (subs_Subs _ _ _ small3 _ hL7 (by decide)) ?_
  rintro e w8 ⟨v8, rfl, ho8, hb2⟩
  obtain ⟨a8, c8, rfl, _, hc8⟩ := own_form ho8
  replace hb := Below.then hb hb2
  have hL8 := hL7.below hb2
  clear hb2 ho8 hL7
  go_wp2_with fail
  go_at_call 17
  have h0 : Below w8.heap.size w8 (w8.alloc (.cells (subCells small3).toArray 33)) := (Below.refl _ _).alloc (Nat.le_refl _) _
  refine Calls.mono (same_self (S := small3) (w := w8.alloc (.cells (subCells small3).toArray 33)) (by decide) (hc8.below h0) cells_new) ?_
  rintro e w9 ⟨rfl, hb2⟩
  replace hb := Below.then (Below.then hb h0) hb2
  have hL9 := (hL8.below h0).below hb2
  clear hb2 h0 hL8 hc8
  go_wp2_with (first
    | (go_at_call 19; refine Calls.mono (nil_Best _ _) ?_; rintro e w10 ⟨rfl, rfl⟩)
    | (go_at_call 20; refine Calls.mono (nil_Set _ 0 _) ?_; rintro e w10 ⟨rfl, rfl⟩)
    | (go_at_call 21; refine Calls.mono (nil_Drop _ _) ?_; rintro e w10 ⟨rfl, rfl⟩)
    | fail)
  go_at_call 15
  have h0 : Below w9.heap.size w9 (w9.alloc (.cells (subCells [(b1 [97], 0)]).toArray 33)) := (Below.refl _ _).alloc (Nat.le_refl _) _
  refine Calls.mono (HN.out (w9.alloc (.cells (subCells [(b1 [97], 0)]).toArray 33)) _ _ cells_new) ?_
  rintro e w10 ⟨rfl, hb2⟩
  replace hb := Below.then (Below.then hb h0) hb2
  have hL10 := (hL9.below h0).below hb2
  clear hb2 h0 hL9
  go_wp2_with fail
  go_at_call 14
  refine Calls.mono (nil_Subs _) ?_
  rintro e w11 ⟨rfl, rfl⟩
  go_wp2_with fail
  go_at_call 22
  refine Calls.mono (nil_Clear _) ?_
  rintro e w11 ⟨rfl, rfl⟩
  go_wp2_with fail
  go_at_call 22
  refine Calls.mono (subs_Clear _ _ _ small3 _ hL10 (by decide)) ?_
  rintro e w12 ⟨r12, rfl, ho12, hL12, hO12⟩
  obtain ⟨a12, c12, rfl, _, hc12⟩ := own_form ho12
  replace hb := hb.trans (hO12.below hb.size (by
    rintro k (e | e)
    · rw [e]; exact hL10.lo
    · exact (hL10.own.lt e).2))
  rw [kst] at hc12
  clear ho12 hO12 hL10
  go_wp2_with fail
  go_at_call 23
  have h0 : Below w12.heap.size w12 (w12.alloc (.cells (texts3.map Value.string).toArray 9)) := (Below.refl _ _).alloc (Nat.le_refl _) _
  refine Calls.mono (law07_SameTexts a12 (some ⟨w12.heap.size, 0, none⟩) c12 3 texts3 texts3 (w12.alloc (.cells (texts3.map Value.string).toArray 9)) (by decide) (hc12.below h0) cells_new) ?_
  rintro e w13 ⟨he, hb2⟩
  rw [beq_self_eq_true] at he
  subst he
  replace hb := Below.then (Below.then hb h0) hb2
  have hL13 := (hL12.below h0).below hb2
  clear hb2 h0 hL12 hc12
  go_wp2_with fail
  go_at_call 14
  refine Calls.mono (subs_Subs _ _ _ [] _ hL13 (by decide)) ?_
  rintro e w14 ⟨v14, rfl, ho14, hb2⟩
  obtain ⟨a14, c14, rfl, _, _⟩ := own_form ho14
  replace hb := Below.then hb hb2
  clear ho14 hb2 hL13
  go_wp2_with (first
    | (go_at_call 10; refine Calls.mono (law15_awake _ (hE.below hb)) ?_; rintro e w15 ⟨rfl, hb2⟩))
  go_ret
  exact ⟨rfl, Below.then hb hb2⟩
end Go.Proofs.YtbhmflkhcadaeaaDoor
