/- The walks of ShardTakes and ShardOne. Conditions: the decoder's tables lie as Go lays them. -/
import Derived.Test.YtnnggcaifbinbaaDoorLaw08
import Derived.Test.YtnnggcaifbinbaaDoorPlainWorkers
namespace Go.Proofs.YtnnggcaifbinbaaDoor
open Go.RowKit

theorem law08_has (a : Option Addr) (ca : Nat) (A : List Nat) (x : Int) (w : World) (hA : A.length ≤ 9223372036854775807) (ha : CellsA w a (ints A)) :
    Calls Tryd.prog 44 #[.slice a A.length ca, .int .i64 x] w fun e w' => e = .returned (.bool (A.any fun y => (y : Int) == x)) ∧ w = w' := by
  have fin : ∀ (b : Bool) (w' : World), (A.any fun y => (y : Int) == x) = b → w = w' → Ending.returned (.bool b) = .returned (.bool (A.any fun y => (y : Int) == x)) ∧ w = w' := by
    rintro b w' rfl rfl; exact ⟨rfl, rfl⟩
  have FIN := Lib.hid fin; clear fin
  have step : ∀ (k y : Nat), A[k]? = some y → ((A.drop k).any fun y => (y : Int) == x) = (((y : Int) == x) || ((A.drop (k + 1)).any fun y => (y : Int) == x)) := by
    intro k y h
    obtain ⟨h2, h3⟩ := List.getElem?_eq_some_iff.1 h
    rw [List.drop_eq_getElem_cons h2, h3, List.any_cons]
  have STEP := Lib.hid step; clear step
  go_enter Tryd.func44, Tryd.ntmps44
  go_wp2_with fail
  go_loopw [5] (fun i wr => ∃ k : Nat, k ≤ A.length ∧ i = .int .i64 k ∧ Hid (((A.drop k).any fun y => (y : Int) == x) = (A.any fun y => (y : Int) == x)) ∧ w = wr) (fun i _ => A.length - (intOf i).toNat)
  case atStart => exact ⟨0, by omega, rfl, rfl, rfl⟩
  case round =>
    obtain ⟨k, hk, rfl, HP, rfl⟩ := hrel
    by_cases hlt : k < A.length
    · obtain ⟨y, hy⟩ : ∃ y, A[k]? = some y := ⟨_, List.getElem?_eq_getElem hlt⟩
      obtain ⟨b, o, rfl, hcell⟩ := ha.int hy
      have HS := Lib.hid (STEP.out k y hy)
      clear hy
      cases hv : ((y : Int) == x)
      · have HV := Lib.hid hv
        go_wp2_with fail
        go_roundw
        case rel => exact ⟨k + 1, by omega, by go_num, by rw [Hid, ← HP.out, HS.out, HV.out]; rfl, by first | trivial | rfl⟩
        case measure => simp [intOf]; omega
      · have HV := Lib.hid hv
        go_wp2_with fail
        go_ret
        exact FIN.out true _ (by rw [← HP.out, HS.out, HV.out]; rfl) rfl
    · have : k = A.length := by omega
      subst this
      go_wp2_with fail
      go_ret
      exact FIN.out _ _ (by rw [← HP.out, List.drop_eq_nil_of_le (Nat.le_refl _)]; rfl) rfl

theorem law08_ShardTakes (a b : ByteArray) (n : Int) (w : World) (hE : Env w) (hn : Whole n) :
    Calls Tryd.prog 11 #[.string a, .string b, .int .i64 n] w fun e w' => e = .returned (.bool true) ∧ Below w.heap.size w w' := by
  have hb := Below.refl w.heap.size w
  by_cases hsm : a.size ≤ 2000 ∧ b.size ≤ 2000 ∧ 1 ≤ n ∧ n ≤ 64
  · obtain ⟨s1, s2, s3, s4⟩ := hsm
    obtain ⟨m, rfl⟩ : ∃ m : Nat, n = m := ⟨n.toNat, by omega⟩
    have m1 : 1 ≤ m := by omega
    have m2 : m ≤ 64 := by omega
    have ha' : a.size < 4294967281 := by omega
    have hb' : b.size < 4294967281 := by omega
    have c1 : ¬ (2000 : Int) < (a.size : Int) := by omega
    have c2 : ¬ (2000 : Int) < (b.size : Int) := by omega
    have c3 : ¬ (m : Int) < 1 := by omega
    have c4 : ¬ (64 : Int) < (m : Int) := by omega
    have T1 := @takes_hub (bl a) (bl b) m m1 m2
    have T2 := @covers_hubs (bl a) (bl b) m m1 m2
    have T3 := @hubs_len (bl a) m m1 m2
    have T4 := (@hubs_len (bl b) m m1 m2).1
    have H1 := Lib.hid (fun w hE => shard_Hubs a (m : Int) w hE ha')
    have H2 := Lib.hid (fun w hE => shard_Hubs b (m : Int) w hE hb')
    obtain ⟨X, hX⟩ : ∃ X, hubsL (bl a) (m : Int) = X := ⟨_, rfl⟩
    obtain ⟨Y, hY⟩ : ∃ Y, hubsL (bl b) (m : Int) = Y := ⟨_, rfl⟩
    obtain ⟨u, hu⟩ : ∃ u, hubL (bl b) (m : Int) = u := ⟨_, rfl⟩
    rw [hX] at T1 T2 T3 H1
    rw [hY] at T2 T4 H2
    rw [hu] at T1
    have hXl := T3.1
    have T5 := T3.2
    obtain ⟨f, hf⟩ : ∃ f, filterL (bl a) = f := ⟨_, rfl⟩
    have HFi := Lib.hid (fun w hE => topic_Filter a w hE ha')
    rw [hf] at T5 HFi
    have HU := Lib.hid hu
    have hM := Lib.hid (fun w hE => topic_Match a b w hE ha' hb')
    have hC := Lib.hid (fun w hE => topic_Covers a b w hE ha' hb')
    have TT1 := Lib.hid T1
    have TT2 := Lib.hid T2
    have T6 : (f = true → (0 : Int) < (X.length : Int)) ∧ (f = false → ¬ (0 : Int) < (X.length : Int)) := by
      constructor
      · rintro rfl; have := of_decide_eq_true T5; omega
      · rintro rfl; have := of_decide_eq_false T5; omega
    clear T1 T2 T3 T5 hf hX hY hu s1 s2 s3 s4 hn
    have hXl2 : X.length ≤ 9223372036854775807 := by omega
    cases f
    all_goals first
      | (have hF0 := T6.1 rfl; clear T6)
      | (have hF0 := T6.2 rfl; clear T6; obtain rfl : X = [] := List.eq_nil_of_length_eq_zero (by omega))
    all_goals cases hv : matchL (bl a) (bl b)
    all_goals cases hcv : coversL (bl a) (bl b)
    all_goals rw [hv] at hM TT1
    all_goals rw [hcv] at hC TT2
    all_goals clear hv hcv
    all_goals go_enter Tryd.func11, Tryd.ntmps11
    all_goals go_wp2_with (first
      | (go_at_call 41; refine Calls.mono (H1.out _ hE) ?_; rintro e w1 ⟨b1, d1, rfl, g1, hb1⟩; replace hE := hE.below hb1; replace hb := Below.then hb hb1; clear H1)
      | (go_at_call 41; refine Calls.mono (H2.out _ hE) ?_; rintro e w1 ⟨b2, d2, rfl, g2, hb1⟩; replace hE := hE.below hb1; replace hb := Below.then hb hb1; replace g1 := g1.below hb1)
      | (go_at_call 18; refine (hM.out _ hE).mono ?_; rintro e w1 ⟨rfl, hb1⟩; replace hE := hE.below hb1; replace hb := Below.then hb hb1; replace g1 := g1.below hb1; replace g2 := g2.below hb1)
      | (go_at_call 16; refine (hC.out _ hE).mono ?_; rintro e w1 ⟨rfl, hb1⟩; replace hE := hE.below hb1; replace hb := Below.then hb hb1; replace g1 := g1.below hb1; replace g2 := g2.below hb1)
      | (go_at_call 38; refine (shard_Hub _ _ _ hE hb').mono ?_; rintro e w1 ⟨he, hb1⟩; rw [HU.out] at he; subst he; replace hE := hE.below hb1; replace hb := Below.then hb hb1; replace g1 := g1.below hb1; replace g2 := g2.below hb1)
      | (go_at_call 44; refine (law08_has _ _ _ _ _ hXl2 g1).mono ?_; rintro e w1 ⟨he, rfl⟩; rw [TT1.out (by trivial)] at he; subst he)
      | (go_at_call 20; refine (HFi.out _ hE).mono ?_; rintro e w1 ⟨rfl, hb1⟩; replace hE := hE.below hb1; replace hb := Below.then hb hb1)
      | (go_at_call 30; refine (law08_awake _ hE).mono ?_; rintro e w1 ⟨rfl, hb1⟩; replace hb := Below.then hb hb1))
    all_goals first
      | (go_ret; exact ⟨rfl, hb⟩)
      | skip
    all_goals (
      have HM := Lib.hid (fun (k y : Nat) (h : Y[k]? = some y) => TT2.out (by trivial) y (List.mem_of_getElem? h))
      clear TT1 TT2 H2 hM hC HU
      go_loopw [9] (fun i wr => ∃ k : Nat, k ≤ Y.length ∧ i = .int .i64 k ∧ w1 = wr) (fun i _ => Y.length - (intOf i).toNat)
      case atStart => exact ⟨0, by omega, rfl, rfl⟩
      case round =>
        obtain ⟨k, hk, rfl, rfl⟩ := hrel
        by_cases hlt : k < Y.length
        · obtain ⟨y, hy⟩ : ∃ y, Y[k]? = some y := ⟨_, List.getElem?_eq_getElem hlt⟩
          have HY := Lib.hid (HM.out k y hy)
          obtain ⟨bo, oo, rfl, hcell⟩ := g2.int hy
          clear hy
          go_wp2_with (first
            | (go_at_call 44; refine (law08_has _ _ _ _ _ hXl2 g1).mono ?_; rintro e w2 ⟨he, rfl⟩; rw [HY.out] at he; subst he))
          go_roundw
          case rel => exact ⟨k + 1, by omega, by go_num, by first | trivial | rfl⟩
          case measure => simp [intOf]; omega
        · have : k = Y.length := by omega
          subst this
          go_wp2_with (first
            | (go_at_call 20; refine (HFi.out _ hE).mono ?_; rintro e w2 ⟨rfl, hb1⟩; replace hE := hE.below hb1; replace hb := Below.then hb hb1)
            | (go_at_call 30; refine (law08_awake _ hE).mono ?_; rintro e w2 ⟨rfl, hb1⟩; replace hb := Below.then hb hb1))
          go_ret
          exact ⟨rfl, hb⟩)
  · have hsm' : (2000 : Int) < (a.size : Int) ∨ ((a.size : Int) ≤ 2000 ∧ (2000 : Int) < (b.size : Int)) ∨ ((a.size : Int) ≤ 2000 ∧ (b.size : Int) ≤ 2000 ∧ n < 1) ∨ ((a.size : Int) ≤ 2000 ∧ (b.size : Int) ≤ 2000 ∧ 1 ≤ n ∧ 64 < n) := by omega
    clear hsm
    rcases hsm' with h1 | ⟨h1, h2⟩ | ⟨h1, h2, h3⟩ | ⟨h1, h2, h3, h4⟩
    all_goals
      go_enter Tryd.func11, Tryd.ntmps11
      go_wp2_with (go_at_call 30; refine (law08_awake _ hE).mono ?_; rintro e w1 ⟨rfl, hb1⟩)
      go_ret
      exact ⟨rfl, hb1⟩
end Go.Proofs.YtnnggcaifbinbaaDoor
