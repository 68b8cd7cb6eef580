/- The walks of Count and Valid, the reference's and the program's: they tell the same plain function of the bytes. Conditions: the decoder's tables lie as Go lays them. -/
import Derived.Test.YtcghokbcjbbbhaaDoorText
import Derived.Lib.OthersKept
namespace Go.Proofs.YtcghokbcjbbbhaaDoor
open Go.RowKit

theorem extract_ba (s : ByteArray) (k : Nat) : (s.extract k s.size).data.toList = s.data.toList.drop k := Lib.extract_to_end s k

set_option maxRecDepth 100000 in
theorem ref02_Count (s : ByteArray) (w : World) (hs : s.size ≤ 140737488355328) :
    Calls Tryd.prog 114 #[.string s] w fun e w' => e = .returned (.int .i64 (countL s.data.toList)) ∧ Below w.heap.size w w' := by
  have fin : ∀ (c : Int) (w' : World), c = countL s.data.toList → Below w.heap.size w w' → Ending.returned (.int .i64 c) = Ending.returned (.int .i64 (countL s.data.toList)) ∧ Below w.heap.size w w' := by
    rintro c w' rfl h; exact ⟨rfl, h⟩
  have FIN := Lib.hid fin; clear fin
  by_cases hl : 65535 < s.size
  · have hl' : (65535 : Int) < (s.size : Int) := by omega
    go_enter Tryd.func114, Tryd.ntmps114
    go_wp2_with fail
    go_ret
    refine FIN.out _ _ ?_ (Below.refl _ _)
    unfold countL
    rw [if_neg (by rw [← Lib.size_eq]; omega)]
  · have hl' : (s.size : Int) ≤ 65535 := by omega
    go_enter Tryd.func114, Tryd.ntmps114
    go_wp2_with fail
    go_loopw [3, 4] (fun m a wr => ∃ k n : Nat, k ≤ s.size ∧ n ≤ k ∧ a = .int .i64 k ∧ m = .int .i64 n ∧ Hid ((cntO (s.data.toList.drop k)).map (n + ·) = cntO s.data.toList) ∧ Below w.heap.size w wr)
      (fun _ a _ => s.size - (intOf a).toNat)
    case atStart => exact ⟨0, 0, by omega, by omega, rfl, rfl, by simp [Hid], Below.refl _ _⟩
    case round =>
      obtain ⟨k, n, hk, hn, rfl, rfl, HR, hb⟩ := hrel
      by_cases hlt : k < s.size
      · have hne : s.data.toList.drop k ≠ [] := by
          intro e; have := congrArg List.length e; have hL := Lib.size_eq s; simp at this; omega
        have hst := cntO_step _ hne
        have hle := chrD_le (s.data.toList.drop k)
        have hcall := ref02_character (s.extract k s.size) wr (by have hL := Lib.size_eq s; rw [Lib.size_eq, extract_ba]; simp; omega) (by have hL := Lib.size_eq s; rw [Lib.size_eq, extract_ba]; simp; omega)
        rw [extract_ba] at hcall
        rw [List.length_drop, ← Lib.size_eq] at hle
        generalize hch : chrD (s.data.toList.drop k) = ch at hst hle hcall
        obtain ⟨c, d⟩ := ch
        simp only at hst hle hcall
        have HC := Lib.hid hcall
        have HS := Lib.hid hst
        clear hcall hst hch
        by_cases hd : d = 0
        · subst hd
          go_wp2_with (go_at_call 121; refine HC.out.mono ?_; rintro e w1 ⟨rfl, hb1⟩; replace hb1 := Below.then hb hb1)
          go_ret
          refine FIN.out _ _ ?_ hb1
          have h1 := HR.out
          rw [HS.out] at h1
          unfold countL told
          rw [if_pos (by rw [← Lib.size_eq]; omega), ← h1]
          simp
        · have hd' : ¬ ((d : Int) = 0) := by omega
          go_wp2_with (go_at_call 121; refine HC.out.mono ?_; rintro e w1 ⟨rfl, hb1⟩; replace hb1 := Below.then hb hb1)
          go_roundw
          case rel =>
            refine ⟨k + d, n + 1, by omega, by omega, by go_num, by go_num, ?_, hb1⟩
            show _ = _
            rw [← HR.out, HS.out, if_neg hd, List.drop_drop, Option.map_map]
            congr 1
            funext x
            simp; omega
          case measure => simp [intOf]; omega
      · have : k = s.size := by omega
        subst this
        go_wp2_with fail
        go_ret
        refine FIN.out _ _ ?_ hb
        have h1 := HR.out
        rw [List.drop_eq_nil_of_le (by rw [← Lib.size_eq]; omega), cntO_nil] at h1
        unfold countL told
        rw [if_pos (by rw [← Lib.size_eq]; omega), ← h1]
        simp

theorem ref02_Valid (s : ByteArray) (w : World) (hs : s.size ≤ 140737488355328) :
    Calls Tryd.prog 100 #[.string s] w fun e w' => e = .returned (.bool (validL s.data.toList)) ∧ Below w.heap.size w w' := by
  rw [← countL_valid]
  go_enter Tryd.func100, Tryd.ntmps100
  go_wp2_with (go_at_call 114; refine (ref02_Count _ _ hs).mono ?_; rintro e w1 ⟨rfl, hb1⟩)
  go_ret
  exact ⟨rfl, hb1⟩

theorem text_whole (s : ByteArray) (w : World) (hE : Env w) :
    Calls Tryd.prog 116 #[.string s] w fun e w' => e = .returned (.bool (decide (1 < ((Lib.decodeGo s).2 : Int)))) ∧ Below w.heap.size w w' := by
  generalize hd : Lib.decodeGo s = d
  have HC := Lib.hid (Tryd.utf8_DecodeRuneInString s w hE.tabs)
  rw [hd] at HC
  clear hd
  go_enter Tryd.func116, Tryd.ntmps116
  go_wp2_with (go_at_call 122; refine HC.out.mono ?_; rintro e w1 ⟨rfl, hb1⟩)
  go_ret
  exact ⟨rfl, hb1⟩

theorem iter_kept {w w' : World} {k : Nat} {o : Obj} (h : w.heap[k]? = some o) (hb : Below w.heap.size w w') : w'.heap[k]? = some o := by
  have hlt : k < w.heap.size := (Array.getElem?_eq_some_iff.1 h).1
  rw [hb.block k hlt, h]

set_option maxRecDepth 100000 in
theorem text_Count (s : ByteArray) (w : World) (hE : Env w) (hs : s.size ≤ 140737488355328) :
    Calls Tryd.prog 108 #[.string s] w fun e w' => e = .returned (.int .i64 (countL s.data.toList)) ∧ Below w.heap.size w w' := by
  have fin : ∀ (c : Int) (w' : World), c = countL s.data.toList → Below w.heap.size w w' → Ending.returned (.int .i64 c) = Ending.returned (.int .i64 (countL s.data.toList)) ∧ Below w.heap.size w w' := by
    rintro c w' rfl h; exact ⟨rfl, h⟩
  have FIN := Lib.hid fin; clear fin
  by_cases hl : 65535 < s.size
  · have hl' : (65535 : Int) < (s.size : Int) := by omega
    go_enter Tryd.func108, Tryd.ntmps108
    go_wp2_with fail
    go_ret
    refine FIN.out _ _ ?_ (Below.refl _ _)
    unfold countL
    rw [if_neg (by rw [← Lib.size_eq]; omega)]
  · have hl' : (s.size : Int) ≤ 65535 := by omega
    go_enter Tryd.func108, Tryd.ntmps108
    go_wp2_with fail
    go_loopw [3] (fun m wr => ∃ k n : Nat, k ≤ s.size ∧ n ≤ k ∧ m = .int .i64 n ∧ wr.heap[w.heap.size]? = some (.stringIter s k) ∧ Hid ((cntO (s.data.toList.drop k)).map (n + ·) = cntO s.data.toList) ∧ Below w.heap.size w wr)
      (fun _ wr => s.size - wr.iterPos w.heap.size)
    case atStart => exact ⟨0, 0, by omega, by omega, rfl, by simpa using World.iter_heap w s 0, by simp [Hid], (Below.refl _ _).alloc (Nat.le_refl _) _⟩
    case round =>
      obtain ⟨k, n, hk, hn, rfl, hit, HR, hb⟩ := hrel
      have hsz : w.heap.size < wr.heap.size := (Array.getElem?_eq_some_iff.1 hit).1
      by_cases hlt : k < s.size
      · have hnx : ∀ ty, (Instr.next (.pointer (some ⟨w.heap.size, 0, none⟩)) true ty).run Tryd.prog wr = _ := fun ty => Lib.run_next_any_at wr w.heap.size s k ty hit hlt
        have hne : s.data.toList.drop k ≠ [] := by
          intro e; have := congrArg List.length e; have hL := Lib.size_eq s; simp at this; omega
        have hst := cntO_step _ hne
        have hle := Lib.decodeL_le _ hne
        have hpos := Lib.decodeL_width (s.data.toList.drop k)
        rw [List.length_drop, ← Lib.size_eq] at hle
        have hch : chrD (s.data.toList.drop k) = cut (Lib.decodeL (s.data.toList.drop k)) := by unfold chrD cut; simp only [hne, false_or]
        have hrn := Lib.decodeL_rune (s.data.toList.drop k)
        have hdr := Lib.decodeL_drop s k
        rw [hdr] at hle hpos hch hrn
        rw [hch] at hst
        have hit2 := Lib.iterAt_heap wr w.heap.size s k (k + (Utf8.decode s k).2) hit
        have hb2 := Lib.below_iterAt hb (Nat.le_refl _) s (k + (Utf8.decode s k).2)
        have hcall := text_whole (s.extract k s.size) (wr.iterAt w.heap.size s (k + (Utf8.decode s k).2)) (hE.below hb2)
        have hdg : Lib.decodeGo (s.extract k s.size) = Utf8.decode s k := by
          have hL := Lib.size_eq (s.extract k s.size)
          rw [extract_ba] at hL
          have h0 : (s.extract k s.size).size ≠ 0 := by rw [hL]; intro e; exact hne (List.eq_nil_of_length_eq_zero e)
          unfold Lib.decodeGo
          rw [if_neg h0, ← hdr, ← extract_ba]
          unfold Lib.decodeL
          rw [Lib.mk_data]
        rw [hdg] at hcall
        generalize hd : Utf8.decode s k = d at *
        obtain ⟨c, z⟩ := d
        simp only at hle hpos hrn hit2 hb2 hnx
        have HC := Lib.hid hcall
        have HS := Lib.hid hst
        clear hcall hst hch hdr hdg hd
        have hbad : cut (c, z) = (0, 0) → countL s.data.toList = -1 := by
          intro h
          have h1 := HR.out
          rw [HS.out, h] at h1
          unfold countL told
          rw [if_pos (by rw [← Lib.size_eq]; omega), ← h1]
          simp
        have HB := Lib.hid hbad
        clear hbad
        by_cases c0 : c = 0
        · have c0' : (c : Int) = 0 := by omega
          go_wp2_with fail
          go_ret
          exact FIN.out _ _ (by rw [HB.out (by subst c0; rfl)]) hb2
        · have c0' : ¬ (c : Int) = 0 := by omega
          by_cases c1 : c = 65533
          · have c1' : (c : Int) = 65533 := by omega
            by_cases z1 : z = 1
            · subst z1
              have z1' : decide ((1 : Int) < ((1 : Nat) : Int)) = false := by decide
              rw [z1'] at HC
              go_wp2_with (go_at_call 116; refine HC.out.mono ?_; rintro e w1 ⟨rfl, hb1⟩; replace hb1 := Below.then hb2 hb1)
              go_ret
              exact FIN.out _ _ (by rw [HB.out (by subst c1; rfl)]) hb1
            · have z1' : (1 : Int) < (z : Int) := by omega
              have h2 : cut (c, z) = (c, z) := cut_ok _ _ c0 (Or.inl z1)
              go_wp2_with (go_at_call 116; refine HC.out.mono ?_; rintro e w1 ⟨rfl, hb1⟩; have hit3 := iter_kept hit2 hb1; replace hb1 := Below.then hb2 hb1)
              go_roundw
              case rel =>
                refine ⟨k + z, n + 1, by omega, by omega, by go_num, hit3, ?_, hb1⟩
                show _ = _
                rw [← HR.out, HS.out, h2, if_neg (by simp only; omega), List.drop_drop, Option.map_map]
                congr 1
                funext x
                simp; omega
              case measure => simp only [World.iterPos, hit3, hit]; omega
          · have c1' : ¬ (c : Int) = 65533 := by omega
            have h2 : cut (c, z) = (c, z) := by unfold cut; rw [if_neg]; simp only; omega
            go_wp2_with fail
            go_roundw
            case rel =>
              refine ⟨k + z, n + 1, by omega, by omega, by go_num, hit2, ?_, hb2⟩
              show _ = _
              rw [← HR.out, HS.out, h2, if_neg (by simp only; omega), List.drop_drop, Option.map_map]
              congr 1
              funext x
              simp; omega
            case measure => simp only [World.iterPos, hit2, hit]; omega
      · have : k = s.size := by omega
        subst this
        have hnx : ∀ ty, (Instr.next (.pointer (some ⟨w.heap.size, 0, none⟩)) true ty).run Tryd.prog wr = _ := fun ty => Lib.run_next_end_at wr w.heap.size s _ ty hit hlt
        go_wp2_with fail
        go_ret
        refine FIN.out _ _ ?_ hb
        have h1 := HR.out
        rw [List.drop_eq_nil_of_le (by rw [← Lib.size_eq]; omega), cntO_nil] at h1
        unfold countL told
        rw [if_pos (by rw [← Lib.size_eq]; omega), ← h1]
        simp

theorem text_Valid (s : ByteArray) (w : World) (hE : Env w) (hs : s.size ≤ 140737488355328) :
    Calls Tryd.prog 95 #[.string s] w fun e w' => e = .returned (.bool (validL s.data.toList)) ∧ Below w.heap.size w w' := by
  rw [← countL_valid]
  go_enter Tryd.func95, Tryd.ntmps95
  go_wp2_with (go_at_call 108; refine (text_Count _ _ hE hs).mono ?_; rintro e w1 ⟨rfl, hb1⟩)
  go_ret
  exact ⟨rfl, hb1⟩
end Go.Proofs.YtcghokbcjbbbhaaDoor
