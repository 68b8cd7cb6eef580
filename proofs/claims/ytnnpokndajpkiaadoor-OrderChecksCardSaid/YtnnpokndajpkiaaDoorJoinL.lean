import Derived.Test.YtnnpokndajpkiaaDoorTopic2
import Derived.Laws.EntriesVeiled
import Derived.StillTailTactics
namespace Go.Proofs.YtnnpokndajpkiaaDoor
open Go.RowKit
theorem ref07_plain (s : ByteArray) (w : World) (hs : s.size ≤ 140737488355328) :
    Calls Tryd.prog 102 #[.string s] w fun e w' => e = .returned (.bool (plainL (bl s))) ∧ w = w' := by
  have fin : ∀ (b : Bool) (w' : World), plainL (bl s) = b → w = w' → Ending.returned (.bool b) = .returned (.bool (plainL (bl s))) ∧ w = w' := by
    rintro b w' rfl rfl; exact ⟨rfl, rfl⟩
  have FIN := Lib.hid fin; clear fin; go_enter Tryd.func102, Tryd.ntmps102
  go_wp2_with fail
  go_loopw [3] (fun i wr => ∃ k : Nat, k ≤ s.size ∧ i = .int .i64 k ∧ Hid (plainL ((bl s).drop k) = plainL (bl s)) ∧ w = wr) (fun i _ => s.size - (intOf i).toNat)
  case atStart => exact ⟨0, by omega, rfl, rfl, rfl⟩
  case round =>
    obtain ⟨k, hk, rfl, HP, rfl⟩ := hrel; by_cases hlt : k < s.size
    · have hd := plainL_drop (bl s) k (by rw [bl_len]; exact hlt)
      have e : (bl s)[k]'(by rw [bl_len]; exact hlt) = s[k]'hlt := rfl; rw [e] at hd; have HB := Lib.hid hd; clear hd e; obtain ⟨b, hbk⟩ : ∃ b, s[k]'hlt = b := ⟨_, rfl⟩
      rw [hbk] at HB; by_cases c1 : b = 43
      · have c1' : ((b.toNat : Int) == 43) = true := by rw [c1]; rfl
        go_wp2_with fail
        go_ret
        exact FIN.out _ _ (by rw [← HP.out, HB.out, c1]; rfl) rfl
      · have c1' : ((b.toNat : Int) == 43) = false := by
          rw [beq_eq_false_iff_ne]; intro h; apply c1; apply UInt8.toNat.inj; have : (43 : UInt8).toNat = 43 := rfl; omega
        by_cases c2 : b = 35
        · have c2' : ((b.toNat : Int) == 35) = true := by rw [c2]; rfl
          go_wp2_with fail
          go_ret
          exact FIN.out _ _ (by rw [← HP.out, HB.out, c2]; rfl) rfl
        · have c2' : ((b.toNat : Int) == 35) = false := by
            rw [beq_eq_false_iff_ne]; intro h; apply c2; apply UInt8.toNat.inj; have : (35 : UInt8).toNat = 35 := rfl; omega
          have e1 : (b == 43) = false := by simpa using c1
          have e2 : (b == 35) = false := by simpa using c2
          have HQ := Lib.hid (show plainL ((bl s).drop (k + 1)) = plainL (bl s) by rw [← HP.out, HB.out, e1, e2]; rfl); clear e1 e2 c1 c2; go_wp2_with fail
          go_roundw
          case rel => exact ⟨k + 1, by omega, by go_num, HQ, by first | trivial | rfl⟩
          case measure => simp [intOf]; omega
    · have : k = s.size := by omega
      subst this; go_wp2_with fail
      go_ret
      exact FIN.out _ _ (by rw [← HP.out, List.drop_eq_nil_of_le (by rw [bl_len]; omega)]; rfl) rfl
theorem growLast_snoc (l : List Bs) (a : Bs) (b : UInt8) : growLast (l ++ [a]) b = l ++ [a ++ [b]] := by
  unfold growLast; rw [List.dropLast_concat, List.getLastD_concat]
set_option maxRecDepth 100000 in
theorem ref07_Levels (s : ByteArray) (w : World) (hs : s.size ≤ 4294967281) :
    Calls Tryd.prog 101 #[.string s] w (RetTexts (levelsL (bl s)) w) := by
  obtain ⟨i0, hi, hz0, hz1, hz2⟩ := info_parts (show (Tryd.prog.info? 9).map (fun i => (i.zero, i.size, i.bytes)) = some (some (.string ByteArray.empty), 1, 16) by kernel_rfl); have fin : ∀ (L : List ByteArray) (v : Value) (w' : World), L.map bl = levelsL (bl s) → w'.ownsRow w.heap.size 9 1 v L.length (L.map Value.string) → Below w.heap.size w w' → RetTexts (levelsL (bl s)) w (.returned v) w' := by
    intro L v w' h1 h2 h3; rcases h2.2 with ⟨rfl, hn⟩ | ⟨g, cap, cur, rfl, hbg, hg, hnc, hcm, hcs, htake⟩
    · exact ⟨L, none, 0, by rw [hn], h1, by rw [List.eq_nil_of_length_eq_zero hn]; exact CellsA.nil _ _, h3⟩
    · refine ⟨L, _, _, rfl, h1, ?_, h3⟩
      intro j v hv; refine ⟨_, _, rfl, ?_⟩; rw [Nat.zero_add, cell_of_row _ _ _ _ _ _ hg, ← Array.getElem?_toList]; rw [← htake] at hv; have hj : j < L.length * 1 := by
        apply Nat.lt_of_not_le
        intro h; rw [List.getElem?_eq_none (by rw [List.length_take]; omega)] at hv; simp at hv
      rw [List.getElem?_take_of_lt hj] at hv; exact hv
  have FIN := Lib.hid fin; clear fin; go_enter Tryd.func101, Tryd.ntmps101
  go_wp2_with fail
  go_loopw [3, 4] (fun v i wr => ∃ (k : Nat) (L : List ByteArray), k ≤ s.size ∧ i = .int .i64 k ∧ wr.ownsRow w.heap.size 9 1 v L.length (L.map Value.string) ∧ 0 < L.length ∧ L.length ≤ k + 1 ∧ Hid (L.map bl = levelsL ((bl s).take k)) ∧ Below w.heap.size w wr) (fun _ i _ => s.size - (intOf i).toNat)
  case atStart =>
    refine ⟨0, [ByteArray.empty], by omega, rfl, ?_, by simp, by simp, rfl, by go_grown⟩; refine ⟨rfl, .inr ⟨_, _, _, rfl, Nat.le_refl _, heap_alloc_new w _, Nat.le_refl _, by unfold maxLen; simp, rfl, rfl⟩⟩
  case round =>
    obtain ⟨k, L, hk, rfl, hown, hpos, hlen, HP, hb⟩ := hrel; by_cases hlt : k < s.size
    · have htk := take_snoc s k hlt
      obtain ⟨b, hbk⟩ : ∃ b, s[k]'hlt = b := ⟨_, rfl⟩
      have hsn := levelsL_snoc ((bl s).take k) b; rw [hbk] at htk; rw [← htk, ← HP.out] at hsn; clear htk; by_cases c1 : b = 47
      · have c1' : (b.toNat : Int) = 47 := by rw [c1]; rfl
        have HS := Lib.hid (show levelsL ((bl s).take (k + 1)) = L.map bl ++ [[]] by rw [hsn, if_pos c1]); clear hsn c1; go_wp2_with (first
          | (at_builtin; refine wpList_append_own _ rfl _ _ 27 rfl w.heap.size 9 i0 (.string ByteArray.empty) 1 16 Tryd.underlying27 hi hz0 hz1 hz2 rfl (by decide) _ _ _ rfl (hown.alloc _) ⟨wr.heap.size, 0, none⟩ 1 1 [.string ByteArray.empty] rfl rfl ?c1 ?c2 ?c3 ?c4 ?c5 ?_))
        case c1 =>
          intro j u hj; match j, hj with
          | 0, hj => simp at hj; subst hj; simp [Addr.add]; rfl
        case c2 => intro u hu; simp at hu; subst hu; rfl
        case c3 => unfold maxLen; omega
        case c4 => omega
        case c5 => have := hb.size; simp; omega
        · intro v' w1 hown' hgrow _
          have hb1 : Below w.heap.size w w1 := (hb.alloc hb.size _).grown hgrow (by have := hb.size; simp; omega) (fun j hj => (hown.lt j hj).1); have hown1 : w1.ownsRow w.heap.size 9 1 v' (L ++ [ByteArray.empty]).length ((L ++ [ByteArray.empty]).map Value.string) := by
            simpa [show (⟨#[]⟩ : ByteArray) = ByteArray.empty from rfl] using hown'
          clear hown' hgrow hown; go_wp2
          go_roundw
          case rel => exact ⟨k + 1, L ++ [ByteArray.empty], by omega, by go_num, hown1, by simp, by simp; omega, by rw [Hid, HS.out]; simp [bl], hb1⟩
          case measure => simp [intOf]; omega
      · have c1' : ((b.toNat : Int) == 47) = false := by
          rw [beq_eq_false_iff_ne]; intro h; apply c1; apply UInt8.toNat.inj; have : (47 : UInt8).toNat = 47 := rfl; omega
        have HS := Lib.hid (show levelsL ((bl s).take (k + 1)) = growLast (L.map bl) b by rw [hsn, if_neg c1]); clear hsn c1; obtain ⟨L', x, rfl⟩ : ∃ L' x, L = L' ++ [x] := ⟨L.dropLast, L.getLast (by intro e; subst e; simp at hpos), (List.dropLast_concat_getLast _).symm⟩
        rcases hown.2 with ⟨h0, h1⟩ | ⟨g, cap, cur, rfl, hbg, hg, hnc, hcm, hcs, htake⟩
        · rw [h1] at hpos; exact absurd hpos (Nat.lt_irrefl _)
        · have hxs : x.size ≤ s.size := by
            have h1 : bl x ∈ levelsL ((bl s).take k) := by rw [← HP.out]; simp
            have h2 := levelsL_mem _ _ h1; have h3 := bl_len x; have h4 := bl_len s; rw [List.length_take] at h2; omega
          have hex : (s.extract k (k + 1)).size = 1 := by rw [ByteArray.size_extract]; omega
          have hx1 : ¬ 9223372036854775807 < x.size + 1 := by omega
          have hx2 : ¬ 9223372036854775807 < x.size + (min (k + 1) s.size - k) := by omega
          clear hxs; have hcell : wr.cell? ⟨g, L'.length, none⟩ = some (.string x) := by
            rw [cell_of_row _ _ _ _ _ _ hg, ← Array.getElem?_toList]; have h1 : (cur.toList.take ((L' ++ [x]).length * 1))[L'.length]? = some (.string x) := by rw [htake]; simp
            rw [List.getElem?_take_of_lt (by simp)] at h1; exact h1
          have hfr : wr.frozen? ⟨g, L'.length, none⟩ = false := by
            simp [World.frozen?, hg]
          have HO := Lib.hid hown; clear hown hcs htake hg; simp only [List.length_append, List.length_singleton] at hpos hlen hnc ⊢; go_wp2_with fail
          go_region
          obtain ⟨own2, grow2⟩ := HO.out.stored L'.length (.string (x ++ s.extract k (k + 1))); have own3 : ((wr.setCell ⟨g, L'.length, none⟩ (.string (x ++ s.extract k (k + 1)))).drew).ownsRow w.heap.size 9 1 (.slice (some ⟨g, 0, none⟩) (L' ++ [x ++ s.extract k (k + 1)]).length cap) (L' ++ [x ++ s.extract k (k + 1)]).length ((L' ++ [x ++ s.extract k (k + 1)]).map Value.string) := by
            have h1 := own2.drew; simpa [List.set_append] using h1
          have hb3 : Below w.heap.size w ((wr.setCell ⟨g, L'.length, none⟩ (.string (x ++ s.extract k (k + 1)))).drew) := (hb.setCell (p := ⟨g, L'.length, none⟩) hbg _).drew; have HX := Lib.hid (show (L' ++ [x ++ s.extract k (k + 1)]).map bl = levelsL ((bl s).take (k + 1)) by
            rw [HS.out]; have he : bl (s.extract k (k + 1)) = [b] := by
              show (s.extract k (k + 1)).data.toList = _; rw [Lib.extract_data]; have h1 : (bl s).drop k = b :: (bl s).drop (k + 1) := by rw [← hbk]; exact List.drop_eq_getElem_cons (by rw [bl_len]; exact hlt)
              show ((bl s).drop k).take _ = _; rw [h1]; simp
            have ha : bl (x ++ s.extract k (k + 1)) = bl x ++ [b] := by rw [← he]; unfold bl; simp
            rw [List.map_append, List.map_append]; show _ = growLast (L'.map bl ++ [bl x]) b; rw [growLast_snoc, ← ha]; rfl)
          clear own2 grow2 hex hx1 hx2; go_wp2_with fail
          go_roundw
          case rel => exact ⟨k + 1, L' ++ [x ++ s.extract k (k + 1)], by omega, by go_num, by simpa using own3, by simp, by simp; omega, HX, hb3⟩
          case measure => simp [intOf]; omega
    · have : k = s.size := by omega
      subst this; go_wp2_with fail
      go_ret
      exact FIN.out L _ _ (by rw [HP.out, List.take_of_length_le (by rw [bl_len]; omega)]) hown hb
end Go.Proofs.YtnnpokndajpkiaaDoor
namespace Go.Proofs.YtnnpokndajpkiaaDoor
open Go.RowKit
theorem ref07_Name (s : ByteArray) (w : World) (hs : s.size < 4294967281) :
    Calls Tryd.prog 100 #[.string s] w fun e w' => e = .returned (.bool (nameL (bl s))) ∧ Below w.heap.size w w' := by
  have hV := Lib.hid (ref02_Valid s w (by omega)); have hP := Lib.hid (fun w1 => ref07_plain s w1 (by omega)); rw [show s.data.toList = bl s from rfl] at hV; have hem := empty_size s; by_cases h0 : s.size = 0
  · have h0' : ¬ (0 : Int) < (s.size : Int) := by omega
    rw [decide_eq_true h0] at hem; have HM := Lib.hid hem; clear hem; go_enter Tryd.func100, Tryd.ntmps100
    go_wp2_with fail
    go_ret
    exact ⟨ret_bool (by unfold nameL; rw [HM.out]; rfl), Below.refl _ _⟩
  · have h0' : (0 : Int) < (s.size : Int) := by omega
    rw [decide_eq_false h0] at hem; have HM := Lib.hid hem; clear hem h0; cases hv : validL (bl s); all_goals rw [hv] at hV
    all_goals go_enter Tryd.func100, Tryd.ntmps100
    all_goals go_wp2_with (first | (go_at_call 103; refine hV.out.mono ?_; rintro e w1 ⟨rfl, hb⟩) | (go_at_call 102; refine (hP.out _).mono ?_; rintro e w2 ⟨rfl, rfl⟩))
    all_goals go_ret
    · exact ⟨ret_bool (by unfold nameL; rw [HM.out, hv]; rfl), hb⟩
    · exact ⟨ret_bool (by unfold nameL; rw [HM.out, hv]; rfl), hb⟩
theorem levels_bound {L : List ByteArray} {s : ByteArray} (h : L.map bl = levelsL (bl s)) (hs : s.size < 4294967281) : L.length ≤ 4294967281 := by
  have h1 : L.length = (levelsL (bl s)).length := by rw [← h]; simp
  have h2 := levelsL_len (bl s); have h3 := bl_len s; omega
theorem level_size {L : List ByteArray} {s x : ByteArray} {k : Nat} (h : L.map bl = levelsL (bl s)) (hx : L[k]? = some x) : x.size ≤ s.size := by
  have h1 : bl x ∈ levelsL (bl s) := by rw [← h]; exact List.mem_map.2 ⟨x, List.mem_of_getElem? hx, rfl⟩
  have h2 := levelsL_mem _ _ h1; have h3 := bl_len x; have h4 := bl_len s; omega
theorem levelL_eq (x : Bs) (last : Bool) : levelL x last = !(!plainL x && !(x == [43]) && (!(x == [35]) || !last)) := by
  unfold levelL; cases plainL x <;> cases x == [43] <;> cases x == [35] <;> cases last <;> rfl
theorem ref07_Filter (s : ByteArray) (w : World) (hs : s.size < 4294967281) :
    Calls Tryd.prog 72 #[.string s] w fun e w' => e = .returned (.bool (filterL (bl s))) ∧ Below w.heap.size w w' := by
  have hL := Lib.hid (ref07_Levels s w (by omega)); have hP := Lib.hid (ref07_plain); have hV := Lib.hid (fun w1 => ref02_Valid s w1 (by omega)); go_enter Tryd.func72, Tryd.ntmps72
  go_wp2_with (first | (go_at_call 101; refine hL.out.mono ?_; rintro e w2 ⟨L, a, c, rfl, hT, hcells, hb⟩; have hll := levels_bound hT hs; have HT := Lib.hid hT; clear hT))
  go_loopw [4] (fun i wr => ∃ k : Nat, k ≤ L.length ∧ i = .int .i64 k ∧ Hid (filterLv ((L.map bl).drop k) = filterLv (levelsL (bl s))) ∧ w2 = wr) (fun i _ => L.length - (intOf i).toNat)
  case atStart => exact ⟨0, by omega, rfl, by rw [Hid, ← HT.out]; rfl, rfl⟩
  case round =>
    obtain ⟨k, hk, rfl, HR, rfl⟩ := hrel; by_cases hlt : k < L.length
    · obtain ⟨x, hx⟩ : ∃ x, L[k]? = some x := ⟨_, List.getElem?_eq_getElem hlt⟩
      obtain ⟨b, o, rfl, hcell⟩ := hcells.text hx; have hxs := level_size HT.out hx; have hxT : (L.map bl)[k]? = some (bl x) := by rw [List.getElem?_map, hx]; rfl
      have hst := filterLv_drop _ _ _ hxT; rw [drop_empty, List.length_map] at hst; rw [levelL_eq] at hst; have HPx := Lib.hid (hP.out x w2 (by omega)); have e35 : (x.toList == [35]) = (bl x == [35]) := by rw [Lib.toList_data]; rfl
      have e43 : (x.toList == [43]) = (bl x == [43]) := by rw [Lib.toList_data]; rfl
      clear hx hxT; by_cases hlast : k + 1 < L.length
      · have hl' : (k : Int) < (L.length : Int) - 1 := by omega
        rw [decide_eq_false (show ¬ L.length ≤ k + 1 by omega)] at hst; cases hp : plainL (bl x) <;> cases h43 : bl x == [43] <;> cases h35 : bl x == [35]
        all_goals rw [hp, h43, h35] at hst
        all_goals rw [hp] at HPx
        all_goals rw [h43] at e43
        all_goals rw [h35] at e35
        all_goals have HS := Lib.hid hst
        all_goals clear hst hp h43 h35
        all_goals go_wp2_with (first | (go_at_call 102; refine HPx.out.mono ?_; rintro e w3 ⟨rfl, rfl⟩))
        all_goals first
          | (go_ret
             refine ⟨ret_bool ?_, hb⟩; unfold filterL; rw [← HR.out, HS.out]; simp; done)
          | (go_roundw
             case rel => exact ⟨k + 1, by omega, by go_num, by rw [Hid, ← HR.out, HS.out]; rfl, by first | trivial | rfl⟩
             case measure => simp [intOf]; omega)
      · have hl' : ¬ (k : Int) < (L.length : Int) - 1 := by omega
        rw [decide_eq_true (show L.length ≤ k + 1 by omega)] at hst; cases hp : plainL (bl x) <;> cases h43 : bl x == [43] <;> cases h35 : bl x == [35]
        all_goals rw [hp, h43, h35] at hst
        all_goals rw [hp] at HPx
        all_goals rw [h43] at e43
        all_goals rw [h35] at e35
        all_goals have HS := Lib.hid hst
        all_goals clear hst hp h43 h35
        all_goals go_wp2_with (first | (go_at_call 102; refine HPx.out.mono ?_; rintro e w3 ⟨rfl, rfl⟩))
        all_goals first
          | (go_ret
             refine ⟨ret_bool ?_, hb⟩; unfold filterL; rw [← HR.out, HS.out]; simp; done)
          | (go_roundw
             case rel => exact ⟨k + 1, by omega, by go_num, by rw [Hid, ← HR.out, HS.out]; rfl, by first | trivial | rfl⟩
             case measure => simp [intOf]; omega)
    · have : k = L.length := by omega
      subst this; have hem := empty_size s; have HF := Lib.hid (show filterLv (levelsL (bl s)) = true by rw [← HR.out, List.drop_eq_nil_of_le (by simp)]; rfl); by_cases h0 : s.size = 0
      · have h0' : ¬ (0 : Int) < (s.size : Int) := by omega
        rw [decide_eq_true h0] at hem; have HM := Lib.hid hem; clear hem; go_wp2_with fail
        go_ret
        exact ⟨ret_bool (by unfold filterL; rw [HM.out]; rfl), hb⟩
      · have h0' : (0 : Int) < (s.size : Int) := by omega
        rw [decide_eq_false h0] at hem; have HM := Lib.hid hem; clear hem h0; go_wp2_with (first | (go_at_call 103; refine (hV.out _).mono ?_; rintro e w3 ⟨rfl, hb3⟩; replace hb3 := Below.then hb hb3))
        go_ret
        exact ⟨ret_bool (by unfold filterL; rw [HM.out, HF.out]; simp [bl]), hb3⟩
end Go.Proofs.YtnnpokndajpkiaaDoor
namespace Go.Proofs.YtnnpokndajpkiaaDoor
open Go.RowKit
end Go.Proofs.YtnnpokndajpkiaaDoor
