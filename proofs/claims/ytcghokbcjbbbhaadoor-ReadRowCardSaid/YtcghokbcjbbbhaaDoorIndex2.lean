/- strings.IndexAny and ContainsAny at the cutset "+#": of any text shorter than 4294967281 bytes. -/
import Derived.Test.YtcghokbcjbbbhaaDoorIndex
namespace Go.Proofs.YtcghokbcjbbbhaaDoor
open Go.RowKit

def SomeIndex (p : Bool) (w : World) (e : Ending) (w' : World) : Prop := ∃ n : Int, e = .returned (.int .i64 n) ∧ decide (0 ≤ n) = !p ∧ Below w.heap.size w w'

set_option maxRecDepth 100000 in
theorem IndexAny_short (s : ByteArray) (w : World) (h8 : s.size ≤ 8) :
    Calls Tryd.prog 117 #[.string s, .string pmS] w (SomeIndex (plainL s.data.toList) w) := by
  have h8' : decide ((8 : Int) < (s.size : Int)) = false := decide_eq_false (by omega)
  have hA := Lib.hid (Tryd.strings_shouldUseASCIISet)
  have hR := Lib.hid (Tryd.strings_IndexRune_ascii)
  have hH := Lib.hid (IndexRune_high)
  go_enter Tryd.func117, Tryd.ntmps117
  go_wp2_with (first | (go_at_call 124; refine (hA.out _ _).mono ?_; rintro e w' ⟨rfl, hw⟩; rw [hw, h8']))
  go_loopw [9, 10] (fun _ _ wr => ∃ k : Nat, k ≤ s.size ∧ wr.heap[w.heap.size]? = some (.stringIter s k) ∧ Hid (plainL (s.data.toList.drop k) = plainL s.data.toList) ∧ Below w.heap.size w wr) (fun _ _ wr => s.size - wr.iterPos w.heap.size)
  case atStart => exact ⟨0, by omega, by simpa using World.iter_heap w s 0, rfl, (Below.refl _ _).alloc (Nat.le_refl _) _⟩
  case round =>
    obtain ⟨k, hk, hit, HP, hb⟩ := hrel
    by_cases hlt : k < s.size
    · have hnx : ∀ ty, (Instr.next (.pointer (some ⟨w.heap.size, 0, none⟩)) true ty).run Tryd.prog wr = _ := fun ty => Lib.run_next_any_at wr w.heap.size s k ty hit hlt
      have hit2 := Lib.iterAt_heap wr w.heap.size s k (k + (Utf8.decode s k).2) hit
      have hb2 := Lib.below_iterAt hb (Nat.le_refl _) s (k + (Utf8.decode s k).2)
      have hw := width_ge s k hlt
      have hle := decode_le s k
      by_cases hc : (Utf8.decode s k).1 < 128
      · obtain ⟨e1, e2⟩ := (decode_byte s k hlt).1 hc
        have hd := plainL_drop s.data.toList k (by rw [← Lib.size_eq]; exact hlt)
        rw [e1, e2] at hnx
        rw [e2] at hit2 hb2 hw
        have hi := indexAny_pm [s[k]'hlt]
        have hx : ((s[k]'hlt) == 43 || (s[k]'hlt) == 35) = decide (0 ≤ Lib.indexByte [43, 35] (s[k]'hlt)) := by
          rw [← Lib.contains_iff_indexByte, plain_contains]
        have e : s.data.toList[k]'(by rw [← Lib.size_eq]; exact hlt) = s[k]'hlt := rfl
        rw [e, hx] at hd
        rw [e1] at hc
        clear e e1 e2 hi hx hle
        generalize s[k]'hlt = b at *
        have hbk : ((b.toNat : Int)).toNat.toUInt8 = b := by simp
        have hRb := hR.out pmS (b.toNat : Int) (wr.iterAt w.heap.size s (k + 1)) (by omega) (by omega)
        rw [hbk, pm_list] at hRb
        have HR := Lib.hid hRb
        have HD := Lib.hid hd
        clear hRb hd hbk
        by_cases hin : (0 : Int) ≤ Lib.indexByte [43, 35] b
        · go_wp2_with (first | (go_at_call 123; refine HR.out.mono ?_; rintro e w' ⟨rfl, hw'⟩; rw [hw']))
          go_ret
          refine ⟨_, rfl, ?_, hb2⟩
          rw [← HP.out, HD.out, decide_eq_true hin]
          simp
        · go_wp2_with (first | (go_at_call 123; refine HR.out.mono ?_; rintro e w' ⟨rfl, hw'⟩; rw [hw']))
          go_roundw
          case rel =>
            refine ⟨k + 1, by omega, hit2, ?_, hb2⟩
            show _ = _
            rw [← HP.out, HD.out, decide_eq_false (by omega)]
            simp
          case measure => simp only [World.iterPos, hit2, hit]; omega
      · have hv := utf8_valid_decode s k (by omega)
        have hpc := plain_char s k hlt (by omega)
        have hmx : (Utf8.decode s k).1 ≤ 1114111 := by
          have := Lib.decodeL_rune (s.data.toList.drop k)
          rw [Lib.decodeL_drop] at this
          exact this
        generalize Utf8.decode s k = d at *
        obtain ⟨c, z⟩ := d
        simp only at *
        have HC := Lib.hid (hH.out (c : Int) (wr.iterAt w.heap.size s (k + z)) (by omega) (by omega) hv)
        have HD := Lib.hid hpc
        clear hpc hv
        go_wp2_with (first | (go_at_call 123; refine HC.out.mono ?_; rintro e w1 ⟨rfl, hb3⟩; have hit3 := iter_kept hit2 hb3; replace hb3 := Below.then hb2 hb3))
        go_roundw
        case rel =>
          refine ⟨k + z, by omega, hit3, ?_, hb3⟩
          show _ = _
          rw [← HP.out, HD.out]
        case measure => simp only [World.iterPos, hit3, hit]; omega
    · have : k = s.size := by omega
      subst this
      have hnx : ∀ ty, (Instr.next (.pointer (some ⟨w.heap.size, 0, none⟩)) true ty).run Tryd.prog wr = _ := fun ty => Lib.run_next_end_at wr w.heap.size s _ ty hit hlt
      go_wp2_with fail
      go_ret
      refine ⟨_, rfl, ?_, hb⟩
      rw [← HP.out, List.drop_eq_nil_of_le (by rw [← Lib.size_eq]; omega)]
      rfl

theorem IndexAny_pm (s : ByteArray) (w : World) (hs : s.size < 4294967281) :
    Calls Tryd.prog 117 #[.string s, .string pmS] w (SomeIndex (plainL s.data.toList) w) := by
  by_cases h8 : s.size ≤ 8
  · exact IndexAny_short s w h8
  · refine (Tryd.strings_IndexAny_long (zero_of_info (n := 256) (by kernel_rfl)).1 s pmS w (by decide) (by omega) hs (by decide) ?_).mono ?_
    · intro j b hb
      rw [pm_list] at hb
      match j, hb with
      | 0, hb => simp at hb; subst hb; decide
      | 1, hb => simp at hb; subst hb; decide
    · rintro e w' ⟨rfl, rfl⟩
      exact ⟨_, rfl, by rw [pm_list]; exact indexAny_pm _, by go_grown⟩

theorem ContainsAny_pm (s : ByteArray) (w : World) (hs : s.size < 4294967281) :
    Calls Tryd.prog 109 #[.string s, .string pmS] w fun e w' => e = .returned (.bool (!plainL s.data.toList)) ∧ Below w.heap.size w w' := by
  go_enter Tryd.func109, Tryd.ntmps109
  go_wp2_with (first | (go_at_call 117; refine (IndexAny_pm s _ hs).mono ?_; rintro e w' ⟨n, rfl, hn, hb⟩))
  go_ret
  exact ⟨rfl, hb⟩
end Go.Proofs.YtcghokbcjbbbhaaDoor
