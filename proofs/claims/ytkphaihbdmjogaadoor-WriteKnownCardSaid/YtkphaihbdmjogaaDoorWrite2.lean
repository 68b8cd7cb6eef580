/- The walks of words, fields and a length's bytes. Conditions: a row of bytes of the caller's own. -/
import Derived.Test.YtkphaihbdmjogaaDoorWrite
namespace Go.Proofs.YtkphaihbdmjogaaDoor
open Go.RowKit

theorem wrap_u8 (n : Nat) : IntKind.u8.wrap (n : Int) = ((n % 256 : Nat) : Int) := by
  show ((n : Int) % 256) = _
  omega
theorem byteN_toNat (n : Nat) : (byteN n).toNat = n % 256 := by simp [byteN]
theorem u8V_word (n : Nat) (h : n ≤ 65535) : u8V (wordB n) = [.int .u8 ((n / 256 : Nat) : Int), .int .u8 ((n % 256 : Nat) : Int)] := by
  unfold u8V wordB
  simp only [List.map_cons, List.map_nil, byteN_toNat, Nat.mod_mod]
  rw [Nat.mod_eq_of_lt (show n / 256 < 256 by omega)]
set_option maxRecDepth 100000 in
set_option maxHeartbeats 1000000 in
theorem num_Words (n : Nat) (h : n ≤ 65535) (b o : Nat) (w : World) (hc : w.cell? ⟨b, o, none⟩ = some (.int .i64 (n : Int))) : Calls Tryd.prog 80 #[.slice (some ⟨b, o, none⟩) 1 1] w fun e w' => e = .returned (.tuple #[.string (bB (wordB n)), .int .i64 0]) ∧ Below w.heap.size w w' := by
  obtain ⟨i0, hi, hz0, hz1, hz2⟩ := info_parts infoU8
  have HW := Lib.hid (u8V_word n h)
  have n1 : (n : Int) ≤ 65535 := by omega
  have hb := World.block_lt_of_cell? _ _ hc
  dsimp only at hb
  go_enter Tryd.func80, Tryd.ntmps80
  have FIN := Lib.hid (show ∀ (s : ByteArray) (w' : World), bB (wordB n) = s → Below w.heap.size w w' → Ending.returned (.tuple #[.string s, .int .i64 0]) = .returned (.tuple #[.string (bB (wordB n)), .int .i64 0]) ∧ Below w.heap.size w w' from by rintro s w' rfl h; exact ⟨rfl, h⟩)
  go_wp2_with (at_make; refine wpList_make_own _ rfl _ _ _ rfl w.heap.size 5 i0 _ 1 Tryd.underlying44 hi hz0 hz1 .i64 .i64 _ 2 rfl rfl rfl (by rw [hz2]; omega) (by unfold maxLen; omega) (Nat.le_refl _) ?_; intro v1 hown1 hg1; have HO := Lib.hid hown1; have hb1 := below_none hg1; clear hown1 hg1)
  go_loopw [4, 13] (fun v i wr => ∃ k : Nat, k ≤ 1 ∧ i = .int .i64 (k : Int) ∧ Hid (Out wr w.heap.size v (if k = 0 then [] else wordB n)) ∧ Below w.heap.size w wr) (fun _ i _ => 1 - (intOf i).toNat)
  case atStart => exact ⟨0, by omega, rfl, HO, hb1⟩
  case round =>
    clear HO hb1
    obtain ⟨k, hk, rfl, HO, hbr⟩ := hrel
    by_cases hlt : k < 1
    · have hk0 : k = 0 := by omega
      subst hk0
      have hcr := cell_later hc hbr
      have hsz := hbr.size
      have HO0 := Lib.hid (show Out wr w.heap.size u4 [] from by have := HO.out; simpa using this)
      clear HO
      go_wp2_with (at_builtin; refine wpList_append_own _ rfl _ _ 44 rfl w.heap.size 5 i0 _ 1 1 Tryd.underlying44 hi hz0 hz1 hz2 rfl (by decide) _ 0 [] rfl (World.ownsRow.alloc HO0.out _) ⟨wr.heap.size, 0, none⟩ 2 2 (u8V (wordB n)) rfl rfl (by rw [HW.out]; exact newsN _ _ _ _ rfl) (u8V_one _) (by unfold maxLen; omega) (by omega) (by simp; omega) ?_; intro v3 w3 hown3 hg3 _; have hb3 := Below.grown' (hbr.alloc hsz _) hg3 (by simp; omega) (fun r hr => (own_lt HO0.out hr).2); have HC3 := Lib.hid hown3; clear hown3 hg3)
      go_roundw
      case rel => exact ⟨1, by omega, by first | rfl | go_num, HC3.out, hb3⟩
      case measure => simp [intOf]
    · have hk1 : k = 1 := by omega
      subst hk1
      have hout := show Out wr w.heap.size u4 (wordB n) from by have := HO.out; simpa using this
      obtain ⟨a1, c1, hv, _, hcells⟩ := own_form hout
      subst hv
      rw [u8V_nat] at hcells
      have kc := conv_nats (P := Tryd.prog) wr 44 5 Tryd.underlying44 Tryd.underlying5 a1 c1 _ (wordB n).length (by simp) hcells 9 Tryd.underlying9
      rw [strN_u8] at kc
      clear hout hcells HO
      go_wp2_with fail
      go_ret2
      exact FIN.out _ _ rfl hbr

theorem err_ok : (0 : Int) = 0 := rfl
set_option maxRecDepth 100000 in
theorem text_PutData (s : ByteArray) (h : s.size ≤ 65535) (w : World) : Calls Tryd.prog 79 #[.string s] w fun e w' => e = .returned (.tuple #[.string (bB (dataB s)), .int .i64 0]) ∧ Below w.heap.size w w' := by
  have hbw : Below w.heap.size w (w.alloc (.cells #[.int .i64 (s.size : Int)] 3)) := (Below.refl _ _).alloc (Nat.le_refl _) _
  have HW := Lib.hid (num_Words s.size h w.heap.size 0 (w.alloc (.cells #[.int .i64 (s.size : Int)] 3)) (by rw [World.cell?_alloc_new]; rfl))
  have HS := Lib.hid (show bB (wordB s.size) ++ s = bB (dataB s) by
    unfold dataB
    apply bl_inj
    unfold bl bB
    simp)
  have hz : ¬ 9223372036854775807 < 2 + s.size := by omega
  have hz2 : ¬ 9223372036854775807 < (bB (wordB s.size)).size + s.size := by show ¬ 9223372036854775807 < 2 + s.size; omega
  go_enter Tryd.func79, Tryd.ntmps79
  go_wp2_with (go_at_call 80; refine Calls.mono HW.out ?_; rintro e w1 ⟨rfl, hb1⟩; replace hb1 := Below.then hbw hb1)
  go_ret2
  exact ⟨by rw [← HS.out]; rfl, hb1⟩
end Go.Proofs.YtkphaihbdmjogaaDoor
