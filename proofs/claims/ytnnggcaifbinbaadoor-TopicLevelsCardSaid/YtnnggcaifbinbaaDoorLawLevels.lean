/- The walk of TopicLevels. Conditions: the decoder's tables lie as Go lays them. -/
import Derived.Test.YtnnggcaifbinbaaDoorRefJoin
import Derived.Test.YtnnggcaifbinbaaDoorPlainLevels
namespace Go.Proofs.YtnnggcaifbinbaaDoor
open Go.RowKit

/-- What Levels leaves, its capacity told too. -/
def RetTextsC (T : List Bs) (w : World) (e : Ending) (w' : World) : Prop :=
  ∃ (L : List ByteArray) (a : Option Addr) (c : Nat), e = .returned (.slice a L.length c) ∧ L.length ≤ c ∧ L.map bl = T ∧ CellsA w' a (L.map Value.string) ∧ Below w.heap.size w w'

theorem topic_LevelsC (s : ByteArray) (w : World) (hE : Env w) (hs : s.size < 4294967281) :
    Calls Tryd.prog 23 #[.string s] w (RetTextsC (levelsL (bl s)) w) := by
  obtain ⟨m, hm⟩ := hE.most
  have hL := Lib.splitB_all ⟨#[47]⟩ (by decide) 0 _ s rfl
  have hD := Lib.splitB_data ⟨#[47]⟩ 0 (Lib.countB s ⟨#[47]⟩) s
  have hC := Lib.hid (Tryd.strings_Split s ⟨#[47]⟩ m w hs hm (by decide))
  rw [← hL] at hC
  generalize Lib.splitB ⟨#[47]⟩ 0 (Lib.countB s ⟨#[47]⟩) s = L at *
  have hD' : L.map bl = levelsL (bl s) := by
    show L.map (·.data.toList) = _
    rw [hD]
    exact splitK_levels _
  clear hD hL
  have HD := Lib.hid hD'
  clear hD'
  go_enter Tryd.func23, Tryd.ntmps23
  go_wp2_with (first | (go_at_call 52; refine hC.out.mono ?_; rintro e w' ⟨rfl, hw⟩; rw [hw]))
  go_ret
  refine ⟨L, _, _, rfl, Nat.le_refl _, HD.out, ?_, by go_grown⟩
  intro j v hv
  refine ⟨_, _, rfl, ?_⟩
  rw [Nat.zero_add]
  rw [cell_of_row _ _ _ _ _ _ (heap_alloc_new w _)]
  simpa using hv

/-- The last level, behind the slice's last cell. -/
def RetLast (x : Bs) (w : World) (e : Ending) (w' : World) : Prop :=
  ∃ (b o n c : Nat) (r : ByteArray), e = .returned (.slice (some ⟨b, o, none⟩) (n + 1) c) ∧ n + 1 ≤ 4294967281 ∧ w'.cell? ⟨b, o + n, none⟩ = some (.string r) ∧ bl r = x ∧ Below w.heap.size w w'
theorem topic_LevelsLast (s : ByteArray) (w : World) (hE : Env w) (hs : s.size < 4294967281) :
    Calls Tryd.prog 23 #[.string s] w (RetLast ((levelsL (bl s)).getLastD []) w) := by
  refine (topic_LevelsC s w hE hs).mono ?_
  rintro e w' ⟨L, a, c, rfl, _, hT, hcells, hb⟩
  have hne := levelsL_ne (bl s)
  rw [← hT] at hne
  have hle := levelsL_len (bl s)
  rw [← hT, List.length_map, bl_len] at hle
  obtain ⟨n, hn⟩ : ∃ n, L.length = n + 1 := by
    cases L with
    | nil => simp at hne
    | cons x r => exact ⟨r.length, rfl⟩
  obtain ⟨x, hx⟩ : ∃ x, L[n]? = some x := ⟨_, List.getElem?_eq_getElem (by omega)⟩
  obtain ⟨b, o, rfl, hcell⟩ := hcells.text hx
  refine ⟨b, o, n, c, x, by rw [hn], by omega, hcell, ?_, hb⟩
  rw [← hT, List.getLastD_eq_getLast?, List.getLast?_eq_getElem?, List.length_map, hn, List.getElem?_map]
  simp [hx]
/-- How many levels. -/
def RetMany (n : Nat) (w : World) (e : Ending) (w' : World) : Prop := ∃ (a : Option Addr) (c : Nat), e = .returned (.slice a n c) ∧ Below w.heap.size w w'
theorem topic_LevelsMany (s : ByteArray) (w : World) (hE : Env w) (hs : s.size < 4294967281) :
    Calls Tryd.prog 23 #[.string s] w (RetMany (levelsL (bl s)).length w) := by
  refine (topic_LevelsC s w hE hs).mono ?_
  rintro e w' ⟨L, a, c, rfl, _, hT, _, hb⟩
  exact ⟨a, c, by rw [← hT, List.length_map], hb⟩

theorem join_back (s : ByteArray) (ad : Option Addr) (c : Nat) (L : List ByteArray) (w : World) (hT : L.map bl = levelsL (bl s)) (hc : L.length ≤ c) (ha : CellsA w ad (L.map Value.string)) (hs : s.size ≤ 1000) :
    Calls Tryd.prog 45 #[.slice ad L.length c] w fun e w' => e = .returned (.string s) ∧ Below w.heap.size w w' := by
  have hle := levelsL_len (bl s)
  have hl := bl_len s
  have hj := joinL_levels (bl s)
  have hlen : L.length = (levelsL (bl s)).length := by rw [← hT]; simp
  have h := topic_Join ad c L w hc ha (by omega) (by rw [hT, hj]; omega)
  rw [hT, hj] at h
  exact h

theorem bl_slash (a b : ByteArray) : bl (a ++ ⟨#[47]⟩ ++ b) = bl a ++ 47 :: bl b := by unfold bl; simp
theorem bl_plus (a : ByteArray) : bl (a ++ ⟨#[47, 43]⟩) = bl a ++ [47, 43] := by unfold bl; simp
theorem bl_hash (a : ByteArray) : bl (a ++ ⟨#[47, 35]⟩) = bl a ++ [47, 35] := by unfold bl; simp

theorem sz_slash (a b : ByteArray) : (a ++ ⟨#[47]⟩ ++ b).size = a.size + 1 + b.size := by
  rw [← bl_len, bl_slash, List.length_append, List.length_cons, bl_len, bl_len]; omega
theorem sz_plus (a : ByteArray) : (a ++ ⟨#[47, 43]⟩).size = a.size + 2 := by rw [← bl_len, bl_plus, List.length_append, bl_len]; rfl
theorem sz_hash (a : ByteArray) : (a ++ ⟨#[47, 35]⟩).size = a.size + 2 := by rw [← bl_len, bl_hash, List.length_append, bl_len]; rfl

/-- A contract of a function that answers yes or no, at one call. -/
abbrev Tells (f : Nat) (args : Array Value) (v : Bool) : Prop := ∀ w, Env w → Calls Tryd.prog f args w fun e w' => e = .returned (.bool v) ∧ Below w.heap.size w w'

set_option maxHeartbeats 4000000 in
set_option maxRecDepth 100000 in
theorem law07_TopicLevels (a n m : ByteArray) (w : World) (hE : Env w) :
    Calls Tryd.prog 13 #[.string a, .string n, .string m] w fun e w' => e = .returned (.bool true) ∧ Below w.heap.size w w' := by
  have hAw := Lib.hid (show Tells 15 #[] true from fun w hE => law07_awake w hE)
  have hb := Below.refl w.heap.size w
  by_cases hsm : a.size ≤ 1000 ∧ n.size ≤ 1000 ∧ m.size ≤ 100
  · obtain ⟨s1, s2, s3⟩ := hsm
    have g1 : ¬ (1000 : Int) < (a.size : Int) := by omega
    have g2 : ¬ (1000 : Int) < (n.size : Int) := by omega
    have g3 : ¬ (100 : Int) < (m.size : Int) := by omega
    have z1 : ¬ 9223372036854775807 < n.size + 1 := by omega
    have z2 : ¬ 9223372036854775807 < n.size + 1 + m.size := by omega
    have z3 : ¬ 9223372036854775807 < a.size + 1 := by omega
    have z4 : ¬ 9223372036854775807 < a.size + 1 + m.size := by omega
    have z5 : ¬ 9223372036854775807 < a.size + 2 := by omega
    have hL1 := Lib.hid (fun w hE => topic_LevelsC a w hE (by omega))
    have hL2 := Lib.hid (fun w hE => topic_LevelsMany m w hE (by omega))
    have hL3 := Lib.hid (fun w hE => topic_LevelsLast a w hE (by omega))
    have hJ := Lib.hid (fun ad c L w hT hc ha => join_back a ad c L w hT hc ha s1)
    have hN := Lib.hid (show Tells 21 #[.string a] (nameL (bl a)) from fun w hE => topic_Name a w hE (by omega))
    have hF := Lib.hid (show Tells 20 #[.string a] (filterL (bl a)) from fun w hE => topic_Filter a w hE (by omega))
    have hM := Lib.hid (show Tells 18 #[.string a, .string n] (matchL (bl a) (bl n)) from fun w hE => topic_Match a n w hE (by omega) (by omega))
    have nmz : (n ++ ⟨#[47]⟩ ++ m).size < 4294967281 := by rw [sz_slash]; omega
    have amz : (a ++ ⟨#[47]⟩ ++ m).size < 4294967281 := by rw [sz_slash]; omega
    have hN2 := Lib.hid (show Tells 21 #[.string (n ++ ⟨#[47]⟩ ++ m)] (nameL (bl (n ++ ⟨#[47]⟩ ++ m))) from fun w hE => topic_Name _ w hE nmz)
    have hM2 := Lib.hid (show Tells 18 #[.string a, .string (n ++ ⟨#[47]⟩ ++ m)] (matchL (bl a) (bl (n ++ ⟨#[47]⟩ ++ m))) from fun w hE => topic_Match _ _ w hE (by omega) nmz)
    have hM3 := Lib.hid (show Tells 18 #[.string (a ++ ⟨#[47]⟩ ++ m), .string (n ++ ⟨#[47]⟩ ++ m)] (matchL (bl (a ++ ⟨#[47]⟩ ++ m)) (bl (n ++ ⟨#[47]⟩ ++ m))) from fun w hE => topic_Match _ _ w hE amz nmz)
    have hM4 := Lib.hid (show Tells 18 #[.string (a ++ ⟨#[47, 43]⟩), .string (n ++ ⟨#[47]⟩ ++ m)] (matchL (bl (a ++ ⟨#[47, 43]⟩)) (bl (n ++ ⟨#[47]⟩ ++ m))) from fun w hE => topic_Match _ _ w hE (by rw [sz_plus]; omega) nmz)
    have hM5 := Lib.hid (show Tells 18 #[.string (a ++ ⟨#[47, 35]⟩), .string n] (matchL (bl (a ++ ⟨#[47, 35]⟩)) (bl n)) from fun w hE => topic_Match _ _ w hE (by rw [sz_hash]; omega) (by omega))
    rw [bl_slash] at hN2 hM2 hM3 hM4
    rw [bl_slash] at hM3
    rw [bl_plus] at hM4
    rw [bl_hash] at hM5
    have law := fun h1 h2 h3 => @levels_law (bl a) (bl n) (bl m) (by rw [bl_len]; exact s1) (by rw [bl_len]; exact s2) (by rw [bl_len]; exact s3) h1 h2 h3
    have hnf : nameL (bl a) = true → filterL (bl a) = true := filter_of_name
    have e0 : (a.toList != a.toList) = false := bne_self_eq_false _
    obtain ⟨K, hK⟩ : ∃ K, (levelsL (bl m)).length = K := ⟨_, rfl⟩
    obtain ⟨X, hX⟩ : ∃ X, (levelsL (bl a)).getLastD [] = X := ⟨_, rfl⟩
    rw [hK] at law hL2
    rw [hX] at law hL3
    have hKz : K ≤ 4294967281 := by
      have := levelsL_len (bl m)
      rw [bl_len, hK] at this
      omega
    clear hK hX amz nmz
    obtain ⟨vN, hvN⟩ : ∃ v, nameL (bl a) = v := ⟨_, rfl⟩
    obtain ⟨vF, hvF⟩ : ∃ v, filterL (bl a) = v := ⟨_, rfl⟩
    obtain ⟨vM, hvM⟩ : ∃ v, matchL (bl a) (bl n) = v := ⟨_, rfl⟩
    obtain ⟨vN2, hvN2⟩ : ∃ v, nameL (bl n ++ 47 :: bl m) = v := ⟨_, rfl⟩
    obtain ⟨vM2, hvM2⟩ : ∃ v, matchL (bl a) (bl n ++ 47 :: bl m) = v := ⟨_, rfl⟩
    obtain ⟨vM3, hvM3⟩ : ∃ v, matchL (bl a ++ 47 :: bl m) (bl n ++ 47 :: bl m) = v := ⟨_, rfl⟩
    obtain ⟨vM4, hvM4⟩ : ∃ v, matchL (bl a ++ [47, 43]) (bl n ++ 47 :: bl m) = v := ⟨_, rfl⟩
    obtain ⟨vM5, hvM5⟩ : ∃ v, matchL (bl a ++ [47, 35]) (bl n) = v := ⟨_, rfl⟩
    rw [hvN] at hN hnf
    rw [hvF] at hF hnf
    rw [hvM] at hM law
    rw [hvN2] at hN2 law
    rw [hvM2] at hM2 law
    rw [hvM3] at hM3 law
    rw [hvM4] at hM4 law
    rw [hvM5] at hM5 law
    clear hvN hvF hvM hvN2 hvM2 hvM3 hvM4 hvM5 s1 s2 s3
    have LAW := Lib.hid law
    clear law
    have tok : True := trivial
    cases vN
    all_goals (try (have h1 := hnf rfl; subst h1))
    all_goals clear hnf
    all_goals
      cases vM
      · have hVX : Hid ((X == [35]) = (X == [35])) := rfl
        go_enter Tryd.func13, Tryd.ntmps13
        go_wp2_with (first
          | (go_at_call 23; have _t := tok; ((with_reducible refine Calls.mono (hL1.out _ hE) ?_)); rintro e w1 ⟨L, ad, c, rfl, hc, hT, hcells, hb1⟩; clear tok; have HT := Lib.hid hT; clear hT; replace hE := hE.below hb1; replace hb := Below.then hb hb1)
          | (go_at_call 23; ((with_reducible refine Calls.mono (hL2.out _ hE) ?_)); rintro e w1 ⟨ad2, c2, rfl, hb1⟩; replace hE := hE.below hb1; replace hb := Below.then hb hb1)
          | (go_at_call 23; ((with_reducible refine Calls.mono (hL3.out _ hE) ?_)); rintro e w1 ⟨b3, o3, n3, c3, r3, rfl, hn3, hcell, hx3, hb1⟩; replace hE := hE.below hb1; replace hb := Below.then hb hb1; have hq3 := eq35 r3 _ ((congrArg (fun z : Bs => z == [35]) hx3).trans hVX.out); have HX3 := Lib.hid hx3; clear hx3)
          | (go_at_call 45; refine Calls.mono (hJ.out _ _ _ _ HT.out hc hcells) ?_; rintro e w1 ⟨rfl, hb1⟩; clear hcells; replace hE := hE.below hb1; replace hb := Below.then hb hb1)
          | (go_at_call 21; ((with_reducible refine Calls.mono (hN.out _ hE) ?_)); rintro e w1 ⟨rfl, hb1⟩; replace hE := hE.below hb1; replace hb := Below.then hb hb1)
          | (go_at_call 21; ((with_reducible refine Calls.mono (hN2.out _ hE) ?_)); rintro e w1 ⟨rfl, hb1⟩; replace hE := hE.below hb1; replace hb := Below.then hb hb1)
          | (go_at_call 20; ((with_reducible refine Calls.mono (hF.out _ hE) ?_)); rintro e w1 ⟨rfl, hb1⟩; replace hE := hE.below hb1; replace hb := Below.then hb hb1)
          | (go_at_call 18; ((with_reducible refine Calls.mono (hM.out _ hE) ?_)); rintro e w1 ⟨rfl, hb1⟩; replace hE := hE.below hb1; replace hb := Below.then hb hb1)
          | (go_at_call 18; ((with_reducible refine Calls.mono (hM2.out _ hE) ?_)); rintro e w1 ⟨rfl, hb1⟩; replace hE := hE.below hb1; replace hb := Below.then hb hb1)
          | (go_at_call 18; ((with_reducible refine Calls.mono (hM3.out _ hE) ?_)); rintro e w1 ⟨rfl, hb1⟩; replace hE := hE.below hb1; replace hb := Below.then hb hb1)
          | (go_at_call 18; ((with_reducible refine Calls.mono (hM4.out _ hE) ?_)); rintro e w1 ⟨rfl, hb1⟩; replace hE := hE.below hb1; replace hb := Below.then hb hb1)
          | (go_at_call 18; ((with_reducible refine Calls.mono (hM5.out _ hE) ?_)); rintro e w1 ⟨rfl, hb1⟩; replace hE := hE.below hb1; replace hb := Below.then hb hb1)
          | (go_at_call 15; ((with_reducible refine Calls.mono (hAw.out _ hE) ?_)); rintro e w1 ⟨rfl, hb1⟩; replace hE := hE.below hb1; replace hb := Below.then hb hb1))
        go_ret
        exact ⟨rfl, hb⟩
      · cases vN2
        · have hVX : Hid ((X == [35]) = (X == [35])) := rfl
          go_enter Tryd.func13, Tryd.ntmps13
          go_wp2_with (first
            | (go_at_call 23; have _t := tok; ((with_reducible refine Calls.mono (hL1.out _ hE) ?_)); rintro e w1 ⟨L, ad, c, rfl, hc, hT, hcells, hb1⟩; clear tok; have HT := Lib.hid hT; clear hT; replace hE := hE.below hb1; replace hb := Below.then hb hb1)
            | (go_at_call 23; ((with_reducible refine Calls.mono (hL2.out _ hE) ?_)); rintro e w1 ⟨ad2, c2, rfl, hb1⟩; replace hE := hE.below hb1; replace hb := Below.then hb hb1)
            | (go_at_call 23; ((with_reducible refine Calls.mono (hL3.out _ hE) ?_)); rintro e w1 ⟨b3, o3, n3, c3, r3, rfl, hn3, hcell, hx3, hb1⟩; replace hE := hE.below hb1; replace hb := Below.then hb hb1; have hq3 := eq35 r3 _ ((congrArg (fun z : Bs => z == [35]) hx3).trans hVX.out); have HX3 := Lib.hid hx3; clear hx3)
            | (go_at_call 45; refine Calls.mono (hJ.out _ _ _ _ HT.out hc hcells) ?_; rintro e w1 ⟨rfl, hb1⟩; clear hcells; replace hE := hE.below hb1; replace hb := Below.then hb hb1)
            | (go_at_call 21; ((with_reducible refine Calls.mono (hN.out _ hE) ?_)); rintro e w1 ⟨rfl, hb1⟩; replace hE := hE.below hb1; replace hb := Below.then hb hb1)
            | (go_at_call 21; ((with_reducible refine Calls.mono (hN2.out _ hE) ?_)); rintro e w1 ⟨rfl, hb1⟩; replace hE := hE.below hb1; replace hb := Below.then hb hb1)
            | (go_at_call 20; ((with_reducible refine Calls.mono (hF.out _ hE) ?_)); rintro e w1 ⟨rfl, hb1⟩; replace hE := hE.below hb1; replace hb := Below.then hb hb1)
            | (go_at_call 18; ((with_reducible refine Calls.mono (hM.out _ hE) ?_)); rintro e w1 ⟨rfl, hb1⟩; replace hE := hE.below hb1; replace hb := Below.then hb hb1)
            | (go_at_call 18; ((with_reducible refine Calls.mono (hM2.out _ hE) ?_)); rintro e w1 ⟨rfl, hb1⟩; replace hE := hE.below hb1; replace hb := Below.then hb hb1)
            | (go_at_call 18; ((with_reducible refine Calls.mono (hM3.out _ hE) ?_)); rintro e w1 ⟨rfl, hb1⟩; replace hE := hE.below hb1; replace hb := Below.then hb hb1)
            | (go_at_call 18; ((with_reducible refine Calls.mono (hM4.out _ hE) ?_)); rintro e w1 ⟨rfl, hb1⟩; replace hE := hE.below hb1; replace hb := Below.then hb hb1)
            | (go_at_call 18; ((with_reducible refine Calls.mono (hM5.out _ hE) ?_)); rintro e w1 ⟨rfl, hb1⟩; replace hE := hE.below hb1; replace hb := Below.then hb hb1)
            | (go_at_call 15; ((with_reducible refine Calls.mono (hAw.out _ hE) ?_)); rintro e w1 ⟨rfl, hb1⟩; replace hE := hE.below hb1; replace hb := Below.then hb hb1))
          go_ret
          exact ⟨rfl, hb⟩
        · by_cases hK1 : K = 1
          · have LAW1 := Lib.hid (LAW.out rfl rfl hK1)
            clear LAW
            subst hK1
            by_cases hx : X = [35]
            · have h2 := LAW1.out.1 hx
              subst h2
              have hVX := Lib.hid (show (X == [35]) = true by rw [hx]; rfl)
              clear LAW1 hx
              go_enter Tryd.func13, Tryd.ntmps13
              go_wp2_with (first
                | (go_at_call 23; have _t := tok; ((with_reducible refine Calls.mono (hL1.out _ hE) ?_)); rintro e w1 ⟨L, ad, c, rfl, hc, hT, hcells, hb1⟩; clear tok; have HT := Lib.hid hT; clear hT; replace hE := hE.below hb1; replace hb := Below.then hb hb1)
                | (go_at_call 23; ((with_reducible refine Calls.mono (hL2.out _ hE) ?_)); rintro e w1 ⟨ad2, c2, rfl, hb1⟩; replace hE := hE.below hb1; replace hb := Below.then hb hb1)
                | (go_at_call 23; ((with_reducible refine Calls.mono (hL3.out _ hE) ?_)); rintro e w1 ⟨b3, o3, n3, c3, r3, rfl, hn3, hcell, hx3, hb1⟩; replace hE := hE.below hb1; replace hb := Below.then hb hb1; have hq3 := eq35 r3 _ ((congrArg (fun z : Bs => z == [35]) hx3).trans hVX.out); have HX3 := Lib.hid hx3; clear hx3)
                | (go_at_call 45; refine Calls.mono (hJ.out _ _ _ _ HT.out hc hcells) ?_; rintro e w1 ⟨rfl, hb1⟩; clear hcells; replace hE := hE.below hb1; replace hb := Below.then hb hb1)
                | (go_at_call 21; ((with_reducible refine Calls.mono (hN.out _ hE) ?_)); rintro e w1 ⟨rfl, hb1⟩; replace hE := hE.below hb1; replace hb := Below.then hb hb1)
                | (go_at_call 21; ((with_reducible refine Calls.mono (hN2.out _ hE) ?_)); rintro e w1 ⟨rfl, hb1⟩; replace hE := hE.below hb1; replace hb := Below.then hb hb1)
                | (go_at_call 20; ((with_reducible refine Calls.mono (hF.out _ hE) ?_)); rintro e w1 ⟨rfl, hb1⟩; replace hE := hE.below hb1; replace hb := Below.then hb hb1)
                | (go_at_call 18; ((with_reducible refine Calls.mono (hM.out _ hE) ?_)); rintro e w1 ⟨rfl, hb1⟩; replace hE := hE.below hb1; replace hb := Below.then hb hb1)
                | (go_at_call 18; ((with_reducible refine Calls.mono (hM2.out _ hE) ?_)); rintro e w1 ⟨rfl, hb1⟩; replace hE := hE.below hb1; replace hb := Below.then hb hb1)
                | (go_at_call 18; ((with_reducible refine Calls.mono (hM3.out _ hE) ?_)); rintro e w1 ⟨rfl, hb1⟩; replace hE := hE.below hb1; replace hb := Below.then hb hb1)
                | (go_at_call 18; ((with_reducible refine Calls.mono (hM4.out _ hE) ?_)); rintro e w1 ⟨rfl, hb1⟩; replace hE := hE.below hb1; replace hb := Below.then hb hb1)
                | (go_at_call 18; ((with_reducible refine Calls.mono (hM5.out _ hE) ?_)); rintro e w1 ⟨rfl, hb1⟩; replace hE := hE.below hb1; replace hb := Below.then hb hb1)
                | (go_at_call 15; ((with_reducible refine Calls.mono (hAw.out _ hE) ?_)); rintro e w1 ⟨rfl, hb1⟩; replace hE := hE.below hb1; replace hb := Below.then hb hb1))
              go_ret
              exact ⟨rfl, hb⟩
            · obtain ⟨h3, h4, h5, h6⟩ := LAW1.out.2 hx
              subst h3 h4 h5 h6
              have hVX := Lib.hid (show (X == [35]) = false from beq_eq_false_iff_ne.2 hx)
              clear LAW1 hx
              go_enter Tryd.func13, Tryd.ntmps13
              go_wp2_with (first
                | (go_at_call 23; have _t := tok; ((with_reducible refine Calls.mono (hL1.out _ hE) ?_)); rintro e w1 ⟨L, ad, c, rfl, hc, hT, hcells, hb1⟩; clear tok; have HT := Lib.hid hT; clear hT; replace hE := hE.below hb1; replace hb := Below.then hb hb1)
                | (go_at_call 23; ((with_reducible refine Calls.mono (hL2.out _ hE) ?_)); rintro e w1 ⟨ad2, c2, rfl, hb1⟩; replace hE := hE.below hb1; replace hb := Below.then hb hb1)
                | (go_at_call 23; ((with_reducible refine Calls.mono (hL3.out _ hE) ?_)); rintro e w1 ⟨b3, o3, n3, c3, r3, rfl, hn3, hcell, hx3, hb1⟩; replace hE := hE.below hb1; replace hb := Below.then hb hb1; have hq3 := eq35 r3 _ ((congrArg (fun z : Bs => z == [35]) hx3).trans hVX.out); have HX3 := Lib.hid hx3; clear hx3)
                | (go_at_call 45; refine Calls.mono (hJ.out _ _ _ _ HT.out hc hcells) ?_; rintro e w1 ⟨rfl, hb1⟩; clear hcells; replace hE := hE.below hb1; replace hb := Below.then hb hb1)
                | (go_at_call 21; ((with_reducible refine Calls.mono (hN.out _ hE) ?_)); rintro e w1 ⟨rfl, hb1⟩; replace hE := hE.below hb1; replace hb := Below.then hb hb1)
                | (go_at_call 21; ((with_reducible refine Calls.mono (hN2.out _ hE) ?_)); rintro e w1 ⟨rfl, hb1⟩; replace hE := hE.below hb1; replace hb := Below.then hb hb1)
                | (go_at_call 20; ((with_reducible refine Calls.mono (hF.out _ hE) ?_)); rintro e w1 ⟨rfl, hb1⟩; replace hE := hE.below hb1; replace hb := Below.then hb hb1)
                | (go_at_call 18; ((with_reducible refine Calls.mono (hM.out _ hE) ?_)); rintro e w1 ⟨rfl, hb1⟩; replace hE := hE.below hb1; replace hb := Below.then hb hb1)
                | (go_at_call 18; ((with_reducible refine Calls.mono (hM2.out _ hE) ?_)); rintro e w1 ⟨rfl, hb1⟩; replace hE := hE.below hb1; replace hb := Below.then hb hb1)
                | (go_at_call 18; ((with_reducible refine Calls.mono (hM3.out _ hE) ?_)); rintro e w1 ⟨rfl, hb1⟩; replace hE := hE.below hb1; replace hb := Below.then hb hb1)
                | (go_at_call 18; ((with_reducible refine Calls.mono (hM4.out _ hE) ?_)); rintro e w1 ⟨rfl, hb1⟩; replace hE := hE.below hb1; replace hb := Below.then hb hb1)
                | (go_at_call 18; ((with_reducible refine Calls.mono (hM5.out _ hE) ?_)); rintro e w1 ⟨rfl, hb1⟩; replace hE := hE.below hb1; replace hb := Below.then hb hb1)
                | (go_at_call 15; ((with_reducible refine Calls.mono (hAw.out _ hE) ?_)); rintro e w1 ⟨rfl, hb1⟩; replace hE := hE.below hb1; replace hb := Below.then hb hb1))
              go_ret
              exact ⟨rfl, hb⟩
          · have k1 : ((K : Int) != 1) = true := by rw [bne_iff_ne]; omega
            have hVX : Hid ((X == [35]) = (X == [35])) := rfl
            clear hK1 LAW
            go_enter Tryd.func13, Tryd.ntmps13
            go_wp2_with (first
              | (go_at_call 23; have _t := tok; ((with_reducible refine Calls.mono (hL1.out _ hE) ?_)); rintro e w1 ⟨L, ad, c, rfl, hc, hT, hcells, hb1⟩; clear tok; have HT := Lib.hid hT; clear hT; replace hE := hE.below hb1; replace hb := Below.then hb hb1)
              | (go_at_call 23; ((with_reducible refine Calls.mono (hL2.out _ hE) ?_)); rintro e w1 ⟨ad2, c2, rfl, hb1⟩; replace hE := hE.below hb1; replace hb := Below.then hb hb1)
              | (go_at_call 23; ((with_reducible refine Calls.mono (hL3.out _ hE) ?_)); rintro e w1 ⟨b3, o3, n3, c3, r3, rfl, hn3, hcell, hx3, hb1⟩; replace hE := hE.below hb1; replace hb := Below.then hb hb1; have hq3 := eq35 r3 _ ((congrArg (fun z : Bs => z == [35]) hx3).trans hVX.out); have HX3 := Lib.hid hx3; clear hx3)
              | (go_at_call 45; refine Calls.mono (hJ.out _ _ _ _ HT.out hc hcells) ?_; rintro e w1 ⟨rfl, hb1⟩; clear hcells; replace hE := hE.below hb1; replace hb := Below.then hb hb1)
              | (go_at_call 21; ((with_reducible refine Calls.mono (hN.out _ hE) ?_)); rintro e w1 ⟨rfl, hb1⟩; replace hE := hE.below hb1; replace hb := Below.then hb hb1)
              | (go_at_call 21; ((with_reducible refine Calls.mono (hN2.out _ hE) ?_)); rintro e w1 ⟨rfl, hb1⟩; replace hE := hE.below hb1; replace hb := Below.then hb hb1)
              | (go_at_call 20; ((with_reducible refine Calls.mono (hF.out _ hE) ?_)); rintro e w1 ⟨rfl, hb1⟩; replace hE := hE.below hb1; replace hb := Below.then hb hb1)
              | (go_at_call 18; ((with_reducible refine Calls.mono (hM.out _ hE) ?_)); rintro e w1 ⟨rfl, hb1⟩; replace hE := hE.below hb1; replace hb := Below.then hb hb1)
              | (go_at_call 18; ((with_reducible refine Calls.mono (hM2.out _ hE) ?_)); rintro e w1 ⟨rfl, hb1⟩; replace hE := hE.below hb1; replace hb := Below.then hb hb1)
              | (go_at_call 18; ((with_reducible refine Calls.mono (hM3.out _ hE) ?_)); rintro e w1 ⟨rfl, hb1⟩; replace hE := hE.below hb1; replace hb := Below.then hb hb1)
              | (go_at_call 18; ((with_reducible refine Calls.mono (hM4.out _ hE) ?_)); rintro e w1 ⟨rfl, hb1⟩; replace hE := hE.below hb1; replace hb := Below.then hb hb1)
              | (go_at_call 18; ((with_reducible refine Calls.mono (hM5.out _ hE) ?_)); rintro e w1 ⟨rfl, hb1⟩; replace hE := hE.below hb1; replace hb := Below.then hb hb1)
              | (go_at_call 15; ((with_reducible refine Calls.mono (hAw.out _ hE) ?_)); rintro e w1 ⟨rfl, hb1⟩; replace hE := hE.below hb1; replace hb := Below.then hb hb1))
            go_ret
            exact ⟨rfl, hb⟩
  · have hsm' : (1000 : Int) < (a.size : Int) ∨ ((a.size : Int) ≤ 1000 ∧ (1000 : Int) < (n.size : Int)) ∨ ((a.size : Int) ≤ 1000 ∧ (n.size : Int) ≤ 1000 ∧ (100 : Int) < (m.size : Int)) := by omega
    clear hsm
    rcases hsm' with h1 | ⟨h1, h2⟩ | ⟨h1, h2, h3⟩
    all_goals
      go_enter Tryd.func13, Tryd.ntmps13
      go_wp2_with (go_at_call 15; refine (hAw.out _ hE).mono ?_; rintro e w1 ⟨rfl, hb1⟩)
      go_ret
      exact ⟨rfl, hb1⟩
end Go.Proofs.YtnnggcaifbinbaaDoor
