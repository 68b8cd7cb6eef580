/- The walks of field, word, bit, a length's bytes. Conditions: a row of bytes of the caller's own. -/
import Derived.Test.YtkphaihbdmjogaaDoorWrite2
namespace Go.Proofs.YtkphaihbdmjogaaDoor
open Go.RowKit

/-- What a function leaves that puts bytes behind a row of one's own. -/
def RetOut (B : Nat) (L : Bs) (w : World) (e : Ending) (w' : World) : Prop := ∃ v, e = .returned v ∧ Out w' B v L ∧ OnlyU B w w'
theorem out_append {w : World} {B : Nat} {L : Bs} {s : ByteArray} {v' : Value} (h : w.ownsRow B 5 1 v' (L.length + s.size) (u8V L ++ Lib.strCells s)) : Out w B v' (L ++ bl s) := by
  unfold Out
  rw [List.length_append, blen, u8V_append]
  exact h
set_option maxRecDepth 100000 in
theorem write_field (B : Nat) (v : Value) (L : Bs) (s : ByteArray) (w : World) (hO : Out w B v L) (hB : B ≤ w.heap.size) (hs : s.size ≤ 65535) (hL : L.length ≤ 1000000000000) :
    Calls Tryd.prog 68 #[v, .string s] w (RetOut B (L ++ dataB s) w) := by
  obtain ⟨i0, hi, hz0, hz1, hz2⟩ := info_parts infoU8
  have HP := Lib.hid (text_PutData s hs w)
  have HO := Lib.hid hO
  have hd : (bB (dataB s)).size ≤ 65537 := by show (dataB s).length ≤ _; rw [dataB_len]; omega
  have HX4 := Lib.hid (show L.length + (bB (dataB s)).size ≤ 140737488355328 by omega)
  have HX5 := Lib.hid (show L.length + (bB (dataB s)).size ≤ maxLen by unfold maxLen; omega)
  clear hO
  go_enter Tryd.func68, Tryd.ntmps68
  go_wp2_with (first
    | (go_at_call 79; refine Calls.mono HP.out ?_; rintro e w1 ⟨rfl, hb1⟩)
    | (at_builtin; have X1 := HO.out.below hb1; have X3 := Nat.le_trans hB hb1.size; refine (@Lib.wpList_append_own_string Tryd.prog w1) rfl (.tmp 12) (.tmp 13) 44 9 rfl B 5 i0 Tryd.underlying44 Tryd.underlying9 hi hz0 hz1 hz2 v L.length (u8V L) rfl X1 (bB (dataB s)) rfl HX5.out HX4.out X3 ?_; intro v3 w3 hown3 hg3 _; have hu0 : OnlyU B w1 w3 := OnlyU.grown X1 hg3; have hu : OnlyU B w w3 := OnlyU.trans (OnlyU.of_below hb1) hu0; have HC3 := Lib.hid (out_append hown3); clear hown3 hg3 X1 X3 hu0))
  go_ret
  exact ⟨_, rfl, HC3.out, hu⟩
set_option maxRecDepth 100000 in
theorem write_word (B : Nat) (v : Value) (L : Bs) (n : Nat) (w : World) (hO : Out w B v L) (hB : B ≤ w.heap.size) (hn : n ≤ 65535) (hL : L.length ≤ 1000000000000) :
    Calls Tryd.prog 69 #[v, .int .u16 (n : Int)] w (RetOut B (L ++ wordB n) w) := by
  obtain ⟨i0, hi, hz0, hz1, hz2⟩ := info_parts infoU8
  have hbw : Below w.heap.size w (w.alloc (.cells #[.int .i64 (n : Int)] 3)) := (Below.refl _ _).alloc (Nat.le_refl _) _
  have HW := Lib.hid (num_Words n hn w.heap.size 0 (w.alloc (.cells #[.int .i64 (n : Int)] 3)) (by rw [World.cell?_alloc_new]; rfl))
  have HO := Lib.hid hO
  have hd : (bB (wordB n)).size ≤ 2 := Nat.le_refl _
  have HX4 := Lib.hid (show L.length + (bB (wordB n)).size ≤ 140737488355328 by omega)
  have HX5 := Lib.hid (show L.length + (bB (wordB n)).size ≤ maxLen by unfold maxLen; omega)
  have n1 : (n : Int) ≤ 65535 := by omega
  clear hO
  go_enter Tryd.func69, Tryd.ntmps69
  go_wp2_with (first
    | (go_at_call 80; refine Calls.mono HW.out ?_; rintro e w1 ⟨rfl, hb1⟩; replace hb1 := Below.then hbw hb1)
    | (at_builtin; have X1 := HO.out.below hb1; have X3 := Nat.le_trans hB hb1.size; refine (@Lib.wpList_append_own_string Tryd.prog w1) rfl (.tmp 14) (.tmp 15) 44 9 rfl B 5 i0 Tryd.underlying44 Tryd.underlying9 hi hz0 hz1 hz2 v L.length (u8V L) rfl X1 (bB (wordB n)) rfl HX5.out HX4.out X3 ?_; intro v3 w3 hown3 hg3 _; have hu0 : OnlyU B w1 w3 := OnlyU.grown X1 hg3; have hu : OnlyU B w w3 := OnlyU.trans (OnlyU.of_below hb1) hu0; have HC3 := Lib.hid (out_append hown3); clear hown3 hg3 X1 X3 hu0))
  go_ret
  exact ⟨_, rfl, HC3.out, hu⟩
/-- A flag's value, if it is so. -/
def bitI (b : Bool) (n : Int) : Int := if b then n else 0
theorem write_bit (b : Bool) (k : Nat) (n : Int) (hk : (k = 0 ∧ n = 1) ∨ (k = 1 ∧ n = 2) ∨ (k = 2 ∧ n = 4) ∨ (k = 3 ∧ n = 8) ∨ (k = 5 ∧ n = 32) ∨ (k = 6 ∧ n = 64) ∨ (k = 7 ∧ n = 128)) (w : World) :
    Calls Tryd.prog 66 #[.bool b, .int .u64 (k : Int)] w fun e w' => e = .returned (.int .u8 (bitI b n)) ∧ w = w' := by
  cases b
  · go_enter Tryd.func66, Tryd.ntmps66
    go_wp2_with fail
    go_ret
    exact ⟨rfl, rfl⟩
  · rcases hk with ⟨rfl, rfl⟩ | ⟨rfl, rfl⟩ | ⟨rfl, rfl⟩ | ⟨rfl, rfl⟩ | ⟨rfl, rfl⟩ | ⟨rfl, rfl⟩ | ⟨rfl, rfl⟩
    all_goals
      go_enter Tryd.func66, Tryd.ntmps66
      go_wp2_with fail
      go_ret
      exact ⟨rfl, rfl⟩
theorem u8V_snoc (L : Bs) (n : Nat) (h : n < 256) : u8V (L ++ [byteN n]) = u8V L ++ [.int .u8 (n : Int)] := by
  rw [u8V_append]
  unfold u8V
  simp [byteN_toNat, Nat.mod_eq_of_lt h]
theorem lenF_step (f n : Nat) (h : 128 ≤ n) : lenF (f + 1) n = byteN (n % 128 + 128) :: lenF f (n / 128) := by
  show (if n < 128 then _ else _) = _
  rw [if_neg (by omega)]
theorem lenF_last (f n : Nat) (h : n < 128) : lenF f n = [byteN n] := by
  cases f with
  | zero => rfl
  | succ f => show (if n < 128 then _ else _) = _; rw [if_pos h]
set_option maxRecDepth 100000 in
set_option maxHeartbeats 1000000 in
theorem num_Len (n : Nat) (h : n ≤ 268435455) (w : World) : Calls Tryd.prog 54 #[.int .i64 (n : Int)] w fun e w' => e = .returned (.tuple #[.string (bB (lenB n)), .int .i64 0]) ∧ Below w.heap.size w w' := by
  obtain ⟨i0, hi, hz0, hz1, hz2⟩ := info_parts infoU8
  have FIN := Lib.hid (show ∀ (s : ByteArray) (w' : World), bB (lenB n) = s → Below w.heap.size w w' → Ending.returned (.tuple #[.string s, .int .i64 0]) = .returned (.tuple #[.string (bB (lenB n)), .int .i64 0]) ∧ Below w.heap.size w w' from by rintro s w' rfl h; exact ⟨rfl, h⟩)
  have HS := Lib.hid (num_Size n h w)
  have h4 : ((lenS n : Nat) : Int) ≠ 0 := by unfold lenS; (repeat' split) <;> omega
  have h4' : (((lenS n : Nat) : Int) == 0) = false := beq_eq_false_iff_ne.2 h4
  clear h4
  generalize lenS n = z at *
  go_enter Tryd.func54, Tryd.ntmps54
  go_wp2_with (first
    | (go_at_call 39; refine Calls.mono HS.out ?_; rintro e w1 ⟨rfl, rfl⟩)
    | (at_make; refine wpList_make_own _ rfl _ _ _ rfl w.heap.size 5 i0 _ 1 Tryd.underlying44 hi hz0 hz1 .i64 .i64 _ 4 rfl rfl rfl (by rw [hz2]; omega) (by unfold maxLen; omega) (Nat.le_refl _) ?_; intro v1 hown1 hg1; have HO := Lib.hid hown1; have hb1 := below_none hg1; clear hown1 hg1))
  go_loopw [0, 5] (fun m v wr => ∃ (x f : Nat) (L : Bs), x ≤ 268435455 ∧ m = .int .i64 (x : Int) ∧ Hid (x < 128 ^ (f + 1) ∧ lenB n = L ++ lenF f x ∧ L.length + f = 3 ∧ Out wr w.heap.size v L) ∧ L.length ≤ 3 ∧ Below w.heap.size w wr) (fun m _ _ => (intOf m).toNat)
  case atStart => exact ⟨n, 3, [], h, rfl, ⟨by omega, rfl, rfl, HO.out⟩, by simp, hb1⟩
  case round =>
    clear HO hb1
    obtain ⟨x, f, L, hx, rfl, HP, hL, hbr⟩ := hrel
    have hsz := hbr.size
    have HO := Lib.hid HP.out.2.2.2
    by_cases hl : 128 ≤ x
    · have hi1 : (128 : Int) ≤ (x : Int) := by omega
      obtain ⟨g, rfl⟩ : ∃ g, f = g + 1 := by
        cases f with
        | zero => have := HP.out.1; omega
        | succ g => exact ⟨g, rfl⟩
      have HB := Lib.hid (show u8V (L ++ [byteN (x % 128 + 128)]) = u8V L ++ [.int .u8 ((x : Int) % 128 + 128)] by
        rw [u8V_snoc _ _ (by omega)]; push_cast; rfl)
      go_wp2_with (at_builtin; refine wpList_append_own _ rfl _ _ 44 rfl w.heap.size 5 i0 _ 1 1 Tryd.underlying44 hi hz0 hz1 hz2 rfl (by decide) _ L.length (u8V L) rfl (World.ownsRow.alloc HO.out _) ⟨wr.heap.size, 0, none⟩ 1 1 [.int .u8 ((x : Int) % 128 + 128)] rfl rfl (newsN _ _ _ _ rfl) (by intro u hu; simp at hu; subst hu; rfl) (by unfold maxLen; omega) (by omega) (by simp; omega) ?_; intro v3 w3 hown3 hg3 _; have hb3 := Below.grown' (hbr.alloc hsz _) hg3 (by simp; omega) (fun r hr => (own_lt HO.out hr).2); have HC3 := Lib.hid hown3; clear hown3 hg3)
      go_roundw
      case rel => exact ⟨x / 128, g, L ++ [byteN (x % 128 + 128)], by omega, by first | rfl | go_num | (congr 1; omega), ⟨by have := HP.out.1; rw [Nat.pow_succ] at this; omega, by rw [HP.out.2.1, lenF_step g x hl, List.append_assoc]; rfl, by have := HP.out.2.2.1; rw [List.length_append]; simp; omega, by unfold Out; rw [HB.out, List.length_append]; exact HC3.out⟩, by have := HP.out.2.2.1; rw [List.length_append]; simp; omega, hb3⟩
      case measure => simp [intOf]; omega
    · have hi1 : ¬ (128 : Int) ≤ (x : Int) := by omega
      have hmod : (x : Int) % 256 = (x : Int) := by omega
      have HB := Lib.hid (show u8V (L ++ [byteN x]) = u8V L ++ [.int .u8 (x : Int)] from u8V_snoc _ _ (by omega))
      have HE := Lib.hid (show lenB n = L ++ [byteN x] by rw [HP.out.2.1, lenF_last f x (by omega)])
      go_wp2_with (at_builtin; refine wpList_append_own _ rfl _ _ 44 rfl w.heap.size 5 i0 _ 1 1 Tryd.underlying44 hi hz0 hz1 hz2 rfl (by decide) _ L.length (u8V L) rfl (World.ownsRow.alloc HO.out _) ⟨wr.heap.size, 0, none⟩ 1 1 [.int .u8 (x : Int)] rfl rfl (newsN _ _ _ _ rfl) (by intro u hu; simp at hu; subst hu; rfl) (by unfold maxLen; omega) (by omega) (by simp; omega) ?_; intro v3 w3 hown3 hg3 _; have hb3 := Below.grown' (hbr.alloc hsz _) hg3 (by simp; omega) (fun r hr => (own_lt HO.out hr).2); rw [← HB.out] at hown3; obtain ⟨a1, c1, hv, _, hcells⟩ := own_form hown3; subst hv; rw [u8V_nat] at hcells; have kc := conv_nats (P := Tryd.prog) w3 44 5 Tryd.underlying44 Tryd.underlying5 a1 c1 _ (L.length + 1) (by simp) hcells 9 Tryd.underlying9; rw [strN_u8] at kc; clear hown3 hg3 hcells)
      go_ret2
      exact FIN.out _ _ (by rw [HE.out]) hb3
end Go.Proofs.YtkphaihbdmjogaaDoor
