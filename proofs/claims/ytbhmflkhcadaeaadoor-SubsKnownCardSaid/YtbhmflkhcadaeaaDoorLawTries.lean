/- The walk of SubsTries. Conditions: the acts and the filters lie in their cells; the decoder's tables lie as Go lays them. -/
import Derived.Test.YtbhmflkhcadaeaaDoorSubsMade
namespace Go.Proofs.YtbhmflkhcadaeaaDoor
open Go.RowKit

theorem set_code (S : List Sb) (f : ByteArray) (q : Nat) : (setS S f q = (q, insS S f q) ∧ q ≤ 2) ∨ setS S f q = (128, S) := by
  unfold setS
  split
  · rename_i h
    left
    refine ⟨rfl, ?_⟩
    unfold okQ at h
    simp only [Bool.and_eq_true, decide_eq_true_eq] at h
    exact h.1.1
  · exact Or.inr rfl
theorem try_append : ∀ (A B S : List Sb), tryS S (A ++ B) = tryS S A ++ tryS (runS S A) B
  | [], B, S => rfl
  | y :: r, B, S => by
    have ih := try_append r B (setS S y.1 y.2).2
    rw [List.cons_append, tryS, ih, tryS]; rfl
theorem try_at (S T : List Sb) (k : Nat) (x : Sb) (hx : T[k]? = some x) : (tryS S T)[k]? = some (setS (runS S (T.take k)) x.1 x.2).1 := by
  obtain ⟨h1, h2⟩ := List.getElem?_eq_some_iff.1 hx
  have hT : T = T.take k ++ x :: T.drop (k + 1) := by rw [← h2, ← List.drop_eq_getElem_cons h1, List.take_append_drop]
  have hl : (tryS S (T.take k)).length = k := by rw [try_len, List.length_take]; omega
  conv => lhs; rw [hT, try_append]
  rw [List.getElem?_append_right (by omega), hl, Nat.sub_self]; rfl
theorem strN_at (ns : List Nat) (k c : Nat) (h : k < (strN ns).size) (hc : ns[k]? = some c) (hb : c < 256) : ((strN ns)[k]'h).toNat = c := by
  obtain ⟨h1, h2⟩ := List.getElem?_eq_some_iff.1 hc
  have : (strN ns)[k]'h = UInt8.ofNat c := by
    show (strN ns).data[k] = _
    simp [strN, h2]
  rw [this]
  simp [Nat.mod_eq_of_lt hb]
theorem code_lt (S : List Sb) (f : ByteArray) (q : Nat) : (setS S f q).1 < 256 := by
  rcases set_code S f q with ⟨h, h2⟩ | h
  · rw [h]; show q < 256; omega
  · rw [h]; show 128 < 256; omega

set_option maxHeartbeats 1000000 in
set_option maxRecDepth 100000 in
theorem law15_SubsTries (a : Option Addr) (c : Nat) (L : List Ac) (b : Option Addr) (d : Nat) (T : List Sb) (w : World) (hE : Env w) (hn : L.length ≤ 9223372036854775807) (hq : ∀ x ∈ L, x.q < 256) (ha : CellsA w a (acCells L))
    (_hz : b = none → d = 0) (_hd : T.length ≤ d) (hm : T.length ≤ 9223372036854775807) (hp : ∀ x ∈ T, x.2 < 256) (hb : CellsA w b (subCells T)) :
    Calls Tryd.prog 6 #[.slice a L.length c, .slice b T.length d] w fun e w' => e = .returned (.bool true) ∧ Below w.heap.size w w' := by
  have HG := law15_GreatActs a c L w hn ha
  have HS := law15_Great b d T w hm hb
  have HAW := Lib.hid (fun (w : World) hE => law15_awake w hE)
  cases hg : greatA L with
  | true =>
    rw [hg] at HG
    replace HG := Lib.hid HG
    clear hg HS
    go_enter Tryd.func6, Tryd.ntmps6
    go_wp2_with (first
      | (go_at_call 9; refine Calls.mono HG.out ?_; rintro e w1 ⟨rfl, rfl⟩)
      | (go_at_call 10; refine Calls.mono (HAW.out _ hE) ?_; rintro e w2 ⟨rfl, hb⟩))
    go_ret
    exact ⟨rfl, hb⟩
  | false =>
    rw [hg] at HG
    cases hs : greatS T with
    | true =>
      rw [hs] at HS
      replace HG := Lib.hid HG
      replace HS := Lib.hid HS
      clear hg hs
      go_enter Tryd.func6, Tryd.ntmps6
      go_wp2_with (first
        | (go_at_call 9; refine Calls.mono HG.out ?_; rintro e w1 ⟨rfl, rfl⟩)
        | (go_at_call 13; refine Calls.mono HS.out ?_; rintro e w1 ⟨rfl, rfl⟩)
        | (go_at_call 10; refine Calls.mono (HAW.out _ hE) ?_; rintro e w2 ⟨rfl, hb⟩))
      go_ret
      exact ⟨rfl, hb⟩
    | false =>
      rw [hs] at HS
      replace HG := Lib.hid HG
      replace HS := Lib.hid HS
      obtain ⟨hn80, hsm⟩ := greatA_no hg
      obtain ⟨hn60, hst⟩ := greatS_no hs hp
      have HMADE := Lib.hid (law15_made a c L w hE hn80 hsm hq ha)
      have HST := Lib.hid hst
      clear hg hs hsm hst
      go_enter Tryd.func6, Tryd.ntmps6
      go_wp2_with (first
        | (go_at_call 9; refine Calls.mono HG.out ?_; rintro e w1 ⟨rfl, rfl⟩)
        | (go_at_call 13; refine Calls.mono HS.out ?_; rintro e w1 ⟨rfl, rfl⟩)
        | (go_at_call 24; refine Calls.mono HMADE.out ?_; rintro e w1 ⟨g, v, S, rfl, hL, hF, hb1⟩)
        | fail)
      have HL := Lib.hid hL
      have HF := Lib.hid hF
      have hfew := hF.few
      clear hL hF HG HS HMADE
      go_at_call 14
      refine Calls.mono (subs_Subs _ _ _ S _ HL.out HF.out.few) ?_
      rintro e w2 ⟨v2, rfl, ho2, hb12⟩
      obtain ⟨a2, c2, rfl, _, hc2⟩ := own_form ho2
      clear ho2
      have hb2 := Below.then hb1 hb12
      go_wp2_with fail
      go_at_call 15
      refine Calls.mono (subs_Try _ _ _ S b d T _ (hE.below hb2) (HL.out.below hb12) HF.out (hb.below hb2) HST.out hn60) ?_
      rintro e w3 ⟨rfl, hb23⟩
      have hb3 := Below.then hb2 hb23
      have hb13 := Below.then hb12 hb23
      have htl : (strN (tryS S T)).size = T.length := by
        have := try_len T S
        simp [strN, ByteArray.size, this]
      have hta : ∀ k c (h : k < (strN (tryS S T)).size), (tryS S T)[k]? = some c → c < 256 → ((strN (tryS S T))[k]'h).toNat = c := fun k c h h1 h2 => strN_at _ k c h h1 h2
      generalize strN (tryS S T) = told at *
      have HTA := Lib.hid hta
      clear hta
      go_wp2_with fail
      go_at_call 14
      refine Calls.mono (subs_Subs _ _ _ S _ (HL.out.below hb13) HF.out.few) ?_
      rintro e w4 ⟨v4, rfl, ho4, hb34⟩
      obtain ⟨a4, c4, rfl, _, hc4⟩ := own_form ho4
      clear ho4
      go_wp2_with fail
      go_at_call 17
      refine Calls.mono (same_self HF.out.few hc4 (hc2.below (Below.then hb23 hb34))) ?_
      rintro e w5 ⟨rfl, hb45⟩
      have hb5 := Below.then (Below.then hb3 hb34) hb45
      have HL5 := Lib.hid (HL.out.below (Below.then (Below.then hb13 hb34) hb45))
      clear hc4 hc2 hb34 hb45 hb13 hb23 hb12 HL hb1 hb2 hb3
      go_wp2_with fail
      go_loopw [8] (fun i wr => ∃ (k : Nat) (v : Value), k ≤ T.length ∧ i = .int .i64 k ∧ Hid (LAt wr w.heap.size g v (runS S (T.take k))) ∧ Below w.heap.size w wr) (fun i _ => T.length - (intOf i).toNat)
      case atStart => exact ⟨0, _, by omega, rfl, HL5.out, hb5⟩
      case round =>
        clear HL5 hb5
        obtain ⟨k, v, hk, rfl, HL, hbr⟩ := hrel
        by_cases hlt : k < T.length
        · obtain ⟨x, hx⟩ : ∃ x, T[k]? = some x := ⟨_, List.getElem?_eq_getElem hlt⟩
          obtain ⟨bb, o, rfl, d1, d2⟩ := hb.sub hx
          have hxs := HST.out x (List.mem_of_getElem? hx)
          have hta := try_at S T k x hx
          have htk : T.take (k + 1) = T.take k ++ [x] := by rw [List.take_add_one, hx]; rfl
          have hrun : runS S (T.take (k + 1)) = (setS (runS S (T.take k)) x.1 x.2).2 := by rw [htk, runS_snoc]
          have HF1 := runS_fine (T.take k) S HF.out (HST.out.take k)
          have HF2 := runS_fine (T.take (k + 1)) S HF.out (HST.out.take (k + 1))
          rw [hrun] at HF2
          have HSET := fun (w4 : World) (h4 : Below w.heap.size w w4) hL => own_Set (g := g) (v := v) (hE.below h4) hL HF1 h4.size hxs.1 hxs.2
          have hcl := code_lt (runS S (T.take k)) x.1 x.2
          have hby := HTA.out k _ (by omega) hta hcl
          have hsc := set_code (runS S (T.take k)) x.1 x.2
          obtain ⟨f, q⟩ := x
          dsimp only at *
          generalize hsr : setS (runS S (T.take k)) f q = sc at *
          obtain ⟨code, S2⟩ := sc
          dsimp only at *
          replace HSET := Lib.hid HSET
          have HRUN := Lib.hid hrun
          have hk2 : k < told.size := by omega
          have hne : ((code : Int) != ((told[k]'hk2).toNat : Int)) = false := by rw [hby]; simp
          have h16 : ¬ (16 : Int) < (S2.length : Int) := by have := HF2.few; omega
          have HFA := Lib.hid HF1
          have HFB := Lib.hid HF2
          have hf16 := HF1.few
          clear hx htk hrun hta hby hsr HF1 HF2 hcl
          go_wp2_with fail
          go_at_call 14
          refine Calls.mono (subs_Subs _ _ _ _ _ HL.out HFA.out.few) ?_
          rintro e w3 ⟨v3, rfl, ho3, hbr3⟩
          obtain ⟨a3, c3, rfl, _, _⟩ := own_form ho3
          clear ho3
          have hb3 := Below.then hbr hbr3
          have HL3 := Lib.hid (HL.out.below hbr3)
          generalize hrs : runS S (T.take k) = S1 at *
          clear hrs
          go_wp2_with fail
          refine wp_region_noPanic ?_
          refine wp_region_held_drew (S := fun w' => w'.cell? ⟨bb, o + k * 2, none⟩ = some (.string f) ∧ w'.cell? ⟨bb, o + k * 2 + 1, none⟩ = some (.int .u8 (q : Int))) (by kernel_rfl) ?_ (fun hHeld => ?_)
          · (first | exact ⟨cell_later d1 hb4, cell_later d2 hb4⟩ | exact ⟨cell_later d1 (below_add hb3 1), cell_later d2 (below_add hb3 1)⟩)
          refine wpAnyH_take (i := 0) (oi := ⟨some 47, _, _, _, _, _⟩) (v := ?_) rfl (by kernel_rfl) (by kernel_rfl) (by kernel_rfl) (fun _ _ _ h => h) (Or.inl ⟨by rfl, ?_⟩) (by assumption) ?_
          rotate_left
          · (intro w hSw; (try dsimp only at hSw); go_simp; try with_reducible rfl)
          try simp only [Act.put, List.setIfInBounds_toArray, List.set_cons_zero, List.set_cons_succ]
          refine wpAnyH_take (i := 1) (oi := ⟨some 48, _, _, _, _, _⟩) (v := ?_) rfl (by kernel_rfl) (by kernel_rfl) (by kernel_rfl) (fun _ _ _ h => h) (Or.inl ⟨by rfl, ?_⟩) (by assumption) ?_
          rotate_left
          · (intro w hSw; (try dsimp only at hSw); go_simp; try with_reducible rfl)
          try simp only [Act.put, List.setIfInBounds_toArray, List.set_cons_zero, List.set_cons_succ]
          refine wpAnyH_take (i := 2) (oi := ⟨some 49, _, _, _, _, _⟩) (v := ?_) rfl (by kernel_rfl) (by kernel_rfl) (by kernel_rfl) (fun _ _ _ h => h) (Or.inl ⟨by rfl, ?_⟩) (by assumption) ?_
          rotate_left
          · (intro w hSw; (try dsimp only at hSw); go_simp; try with_reducible rfl)
          try simp only [Act.put, List.setIfInBounds_toArray, List.set_cons_zero, List.set_cons_succ]
          refine wpAnyH_take (i := 3) (oi := ⟨some 50, _, _, _, _, _⟩) (v := ?_) rfl (by kernel_rfl) (by kernel_rfl) (by kernel_rfl) (fun _ _ _ h => h) (Or.inl ⟨by rfl, ?_⟩) (by assumption) ?_
          rotate_left
          · (intro w hSw; (try dsimp only at hSw); go_simp; try with_reducible rfl)
          try simp only [Act.put, List.setIfInBounds_toArray, List.set_cons_zero, List.set_cons_succ]
          refine wpAnyH_take (i := 4) (oi := ⟨some 51, _, _, _, _, _⟩) (v := ?_) rfl (by kernel_rfl) (by kernel_rfl) (by kernel_rfl) (fun _ _ _ h => h) (Or.inl ⟨by rfl, ?_⟩) (by assumption) ?_
          rotate_left
          · (intro w hSw; (try dsimp only at hSw); go_simp; try with_reducible rfl)
          try simp only [Act.put, List.setIfInBounds_toArray, List.set_cons_zero, List.set_cons_succ]
          refine wpAnyH_take (i := 5) (oi := ⟨some 52, _, _, _, _, _⟩) (v := ?_) rfl (by kernel_rfl) (by kernel_rfl) (by kernel_rfl) (fun _ _ _ h => h) (Or.inl ⟨by rfl, ?_⟩) (by assumption) ?_
          rotate_left
          · (intro w hSw; (try dsimp only at hSw); go_simp; try with_reducible rfl)
          try simp only [Act.put, List.setIfInBounds_toArray, List.set_cons_zero, List.set_cons_succ]
          refine wpAnyH_take (i := 6) (oi := ⟨some 53, _, _, _, _, _⟩) (v := ?_) rfl (by kernel_rfl) (by kernel_rfl) (by kernel_rfl) (fun _ _ _ h => h) (Or.inl ⟨by rfl, ?_⟩) (by assumption) ?_
          rotate_left
          · (intro w hSw; (try dsimp only at hSw); go_simp; try with_reducible rfl)
          try simp only [Act.put, List.setIfInBounds_toArray, List.set_cons_zero, List.set_cons_succ]
          refine wpAnyH_take (i := 7) (oi := ⟨some 54, _, _, _, _, _⟩) (v := ?_) rfl (by kernel_rfl) (by kernel_rfl) (by kernel_rfl) (fun _ _ _ h => h) (Or.inl ⟨by rfl, ?_⟩) (by assumption) ?_
          rotate_left
          · (intro w hSw; (try dsimp only at hSw); go_simp; try with_reducible rfl)
          try simp only [Act.put, List.setIfInBounds_toArray, List.set_cons_zero, List.set_cons_succ]
          refine wpAnyH_take (i := 8) (oi := ⟨some 55, _, _, _, _, _⟩) (v := ?_) rfl (by kernel_rfl) (by kernel_rfl) (by kernel_rfl) (fun _ _ _ h => h) (Or.inl ⟨by rfl, ?_⟩) (by assumption) ?_
          rotate_left
          · (intro w hSw; (try dsimp only at hSw); go_simp; try with_reducible rfl)
          try simp only [Act.put, List.setIfInBounds_toArray, List.set_cons_zero, List.set_cons_succ]
          refine wpAnyH_take (i := 9) (oi := ⟨some 56, _, _, _, _, _⟩) (v := ?_) rfl (by kernel_rfl) (by kernel_rfl) (by kernel_rfl) (fun _ _ _ h => h) (Or.inl ⟨by rfl, ?_⟩) (by assumption) ?_
          rotate_left
          · (intro w hSw; (try dsimp only at hSw); go_simp; try with_reducible rfl)
          try simp only [Act.put, List.setIfInBounds_toArray, List.set_cons_zero, List.set_cons_succ]
          refine wpAnyH_take (i := 10) (oi := ⟨some 57, _, _, _, _, _⟩) (v := ?_) rfl (by kernel_rfl) (by kernel_rfl) (by kernel_rfl) (fun _ _ _ h => h) (Or.inl ⟨by rfl, ?_⟩) (by assumption) ?_
          rotate_left
          · (intro w hSw; (try dsimp only at hSw); go_simp; try with_reducible rfl)
          try simp only [Act.put, List.setIfInBounds_toArray, List.set_cons_zero, List.set_cons_succ]
          refine wpAnyH_ready (rs := [11]) (by kernel_rfl) (by simp) ?_
          refine AllReadyH.cons (o := ⟨some 58, _, _, _, _, _⟩) rfl (fun K hK => ?_) AllReadyH.nil
          go_simp
          (go_at_call 20; refine Calls.mono (HSET.out _ (below_add hb3 1) (HL3.out.below (below_draws (n := 1) rfl))) ?_; rintro e w4 ⟨v4, rfl, hL4, hb34⟩; have hb4 := (below_add hb3 1).trans hb34; go_simp)
          refine hK.out _ _ ?_ (fun hHeld => ?_)
          · (first | exact ⟨cell_later d1 hb4, cell_later d2 hb4⟩ | exact ⟨cell_later d1 (below_add hb3 1), cell_later d2 (below_add hb3 1)⟩)
          clear hK K
          try simp only [Act.put, List.setIfInBounds_toArray, List.set_cons_zero, List.set_cons_succ]
          refine wpAnyH_take (i := 12) (oi := ⟨some 10, _, _, _, _, _⟩) (v := ?_) rfl (by kernel_rfl) (by kernel_rfl) (by kernel_rfl) (fun _ _ _ h => h) (Or.inl ⟨by rfl, ?_⟩) (by assumption) ?_
          rotate_left
          · (intro w hSw; (try dsimp only at hSw); go_simp; try with_reducible rfl)
          try simp only [Act.put, List.setIfInBounds_toArray, List.set_cons_zero, List.set_cons_succ]
          refine wpAnyH_done (by kernel_rfl) ?_ _
          refine NoPanic.normal ?_
          go_wp2_with fail
          go_at_call 14
          refine Calls.mono (subs_Subs _ _ _ _ _ hL4 HFB.out.few) ?_
          rintro e w5 ⟨v5, rfl, ho5, hb45⟩
          obtain ⟨a5, c5, rfl, _, _⟩ := own_form ho5
          clear ho5
          have hb5 := Below.then hb4 hb45
          have HL5 := Lib.hid (hL4.below hb45)
          have e1 := cell_later d1 hb5
          have e2 := cell_later d2 hb5
          clear hL4
          have hways : (code = q ∧ q ≤ 2) ∨ (code = 128 ∧ S2 = S1) := by
            rcases hsc with ⟨h1, h2⟩ | h1
            · injection h1 with h1 _; exact Or.inl ⟨h1, h2⟩
            · injection h1 with h1 h2; exact Or.inr ⟨h1, h2⟩
          clear hsc hHeld
          rcases hways with ⟨rfl, hq2⟩ | ⟨rfl, rfl⟩
          · have t1 : ((code : Int) != 128) = true := by rw [bne_iff_ne]; omega
            have t2 : ((code : Int) == 128) = false := by rw [beq_eq_false_iff_ne]; omega
            go_wp2_with fail
            go_roundw
            case rel => exact ⟨k + 1, v4, by omega, by first | rfl | go_num, by rw [Hid, HRUN.out]; exact HL5.out, hb5⟩
            case measure => simp [intOf]; omega
          · have hn2 : ((128 : Int) != ((told[k]'hk2).toNat : Int)) = false := hne
            clear hne
            go_wp2_with fail
            go_roundw
            case rel => exact ⟨k + 1, v4, by omega, by first | rfl | go_num, by rw [Hid, HRUN.out]; exact HL5.out, hb5⟩
            case measure => simp [intOf]; omega
        · have : k = T.length := by omega
          subst this
          go_wp2_with (first
            | (go_at_call 10; refine Calls.mono (HAW.out _ (hE.below hbr)) ?_; rintro e w4 ⟨rfl, hb4⟩))
          go_ret
          exact ⟨rfl, Below.then hbr hb4⟩
end Go.Proofs.YtbhmflkhcadaeaaDoor
