/- The walk of SubsBest. Conditions: the acts lie in their cells; the decoder's tables lie as Go lays them. -/
import Derived.Test.YtbhmflkhcadaeaaDoorLawTries
import Derived.Test.YtbhmflkhcadaeaaDoorPlainBest
namespace Go.Proofs.YtbhmflkhcadaeaaDoor
open Go.RowKit

/-- What the last line asks, as plain facts. -/
structure BestEnd (S S2 : List Sb) (f : ByteArray) (q code : Nat) (n : Bs) (b1 b2 : Nat) (s1 s2 there : Bool) : Prop where
  mono : there = false → b1 ≤ b2 ∧ (s1 = true → s2 = true)
  set : code = 128 ∨ (((code : Int) == 128) = false ∧ (matchL (bl f) n = false ∨ (s2 = true ∧ code ≤ b2)))
theorem best_end (S : List Sb) (hS : Fine S) (f : ByteArray) (q : Nat) (n : Bs) : BestEnd S (setS S f q).2 f q (setS S f q).1 n (bestS S n).1 (bestS (setS S f q).2 n).1 (bestS S n).2 (bestS (setS S f q).2 n).2 (hasS S (bl f)) := by
  have h1 := bestS_of n S
  have h2 := bestS_of n (setS S f q).2
  rcases set_code S f q with ⟨h, hq⟩ | h
  · rw [h] at h2 ⊢
    refine ⟨fun ht => ?_, Or.inr ⟨by rw [beq_eq_false_iff_ne]; show (q : Int) ≠ 128; omega, ?_⟩⟩
    · rw [hasS_at S (bl f) hS.sort] at ht
      exact h1.mono h2 (ins_sub ht)
    · cases hm : matchL (bl f) n with
      | false => exact Or.inl rfl
      | true =>
        right
        have hi : (f, q) ∈ insS S f q := ins_has
        refine ⟨?_, h2.top _ hi hm⟩
        cases hs : (bestS (insS S f q) n).2 with
        | true => rfl
        | false => have := (h2.non hs).2 _ hi; rw [show fB (f, q) = bl f from rfl, hm] at this; cases this
  · rw [h] at h2 ⊢
    exact ⟨fun _ => ⟨Nat.le_refl _, fun h => h⟩, Or.inl rfl⟩

set_option maxHeartbeats 2000000 in
set_option maxRecDepth 100000 in
theorem law15_SubsBest (a : Option Addr) (c : Nat) (L : List Ac) (more : Sb) (n : ByteArray) (w : World) (hE : Env w) (hn : L.length ≤ 9223372036854775807) (hq : ∀ x ∈ L, x.q < 256) (ha : CellsA w a (acCells L)) (hmq : more.2 < 256) (hmz : more.1.size ≤ maxLen) :
    Calls Tryd.prog 7 #[.slice a L.length c, .agg #[.string more.1, .int .u8 (more.2 : Int)], .string n] w fun e w' => e = .returned (.bool true) ∧ Below w.heap.size w w' := by
  obtain ⟨f, q⟩ := more
  dsimp only at *
  obtain ⟨w1, hw1⟩ : ∃ w1, w.alloc (.cells #[.string f, .int .u8 (q : Int)] 33) = w1 := ⟨_, rfl⟩
  have hb01 : Below w.heap.size w w1 := hw1 ▸ (Below.refl _ _).alloc (Nat.le_refl _) _
  obtain ⟨X, hX⟩ : ∃ X, w.heap.size = X := ⟨_, rfl⟩
  have x1 : w1.cell? ⟨X, 0, none⟩ = some (.string f) := by rw [← hw1, ← hX, cell_of_row _ _ _ _ _ _ (heap_alloc_new w _)]; rfl
  have x2 : w1.cell? ⟨X, 1, none⟩ = some (.int .u8 (q : Int)) := by rw [← hw1, ← hX, cell_of_row _ _ _ _ _ _ (heap_alloc_new w _)]; rfl
  have HG := law15_GreatActs a c L w1 hn (ha.below hb01)
  have HAW := Lib.hid (fun (w : World) hE => law15_awake w hE)
  have hE1 := hE.below hb01
  have ha1 := ha.below hb01
  have HW1 := Lib.hid hw1
  have HX := Lib.hid hX
  clear ha hE hw1 hX
  cases hg : greatA L with
  | true =>
    rw [hg] at HG
    replace HG := Lib.hid HG
    clear hg
    go_enter Tryd.func7, Tryd.ntmps7
    go_wp2_with fail
    rw [HW1.out]
    go_at_call 9
    refine Calls.mono HG.out ?_
    rintro e w2 ⟨rfl, rfl⟩
    go_wp2_with (first
      | (go_at_call 10; refine Calls.mono (HAW.out _ hE1) ?_; rintro e w2 ⟨rfl, hb⟩))
    go_ret
    exact ⟨rfl, Below.then hb01 hb⟩
  | false =>
    rw [hg] at HG
    replace HG := Lib.hid HG
    obtain ⟨hn80, hsm⟩ := greatA_no hg
    have HMADE := Lib.hid (law15_made a c L w1 hE1 hn80 hsm hq ha1)
    clear hg hsm
    by_cases hf3 : (300 : Int) < (f.size : Int)
    · go_enter Tryd.func7, Tryd.ntmps7
      go_wp2_with fail
      rw [HW1.out, HX.out]
      go_at_call 9
      refine Calls.mono HG.out ?_
      rintro e w2 ⟨rfl, rfl⟩
      go_wp2_with (first
        | (go_at_call 10; refine Calls.mono (HAW.out _ hE1) ?_; rintro e w2 ⟨rfl, hb⟩))
      go_ret
      exact ⟨rfl, Below.then hb01 hb⟩
    · by_cases hn3 : (300 : Int) < (n.size : Int)
      · go_enter Tryd.func7, Tryd.ntmps7
        go_wp2_with fail
        rw [HW1.out, HX.out]
        go_at_call 9
        refine Calls.mono HG.out ?_
        rintro e w2 ⟨rfl, rfl⟩
        go_wp2_with (first
          | (go_at_call 10; refine Calls.mono (HAW.out _ hE1) ?_; rintro e w2 ⟨rfl, hb⟩))
        go_ret
        exact ⟨rfl, Below.then hb01 hb⟩
      · go_enter Tryd.func7, Tryd.ntmps7
        go_wp2_with fail
        rw [HW1.out, HX.out]
        go_at_call 9
        refine Calls.mono HG.out ?_
        rintro e w2 ⟨rfl, rfl⟩
        go_wp2_with fail
        go_at_call 24
        refine Calls.mono HMADE.out ?_
        rintro e w2 ⟨g, v, S, rfl, hL, hF, hb2⟩
        have HL := Lib.hid hL
        have HF := Lib.hid hF
        have hfew := hF.few
        have HB := Lib.hid (bestS_of (bl n) S)
        have HEND := Lib.hid (best_end S hF f q (bl n))
        have hfz : f.size ≤ 300 := by omega
        have HF2 := Lib.hid (setS_fine hF f q hfz)
        clear hL hF HG HMADE
        go_wp2_with fail
        go_at_call 19
        refine Calls.mono (subs_Best _ _ _ _ n _ (hE1.below hb2) HL.out HF.out (by omega)) ?_
        rintro e w3 ⟨rfl, hb23⟩
        have hb3 := Below.then hb2 hb23
        generalize hbs : bestS S (bl n) = bs at *
        obtain ⟨b1, s1⟩ := bs
        clear hbs
        dsimp only at *
        go_wp2_with fail
        go_at_call 14
        refine Calls.mono (subs_Subs _ _ _ S _ (HL.out.below hb23) HF.out.few) ?_
        rintro e w4 ⟨v4, rfl, ho4, hb34⟩
        obtain ⟨a4, c4, rfl, _, hc4⟩ := own_form ho4
        clear ho4
        have hb4 := Below.then hb3 hb34
        have HL4 := Lib.hid ((HL.out.below hb23).below hb34)
        have HC4 := Lib.hid hc4
        clear hc4 hb2 hb3 hb23 hb34 HL
        have y1 := cell_later x1 hb4
        have y2 := cell_later x2 hb4
        go_wp2_with fail
        have HGOOD := Lib.hid HF.out.good
        go_loopw [11, 12] (fun p i wr => ∃ (k : Nat) (sm : Bool), k ≤ S.length ∧ i = .int .i64 k ∧ p = .bool sm ∧ Hid (bestAny (S.take k) (bl n) b1 = sm) ∧ Below w4.heap.size w4 wr) (fun _ i _ => S.length - (intOf i).toNat)
        case atStart => exact ⟨0, false, by omega, rfl, rfl, rfl, Below.refl _ _⟩
        case round =>
          obtain ⟨k, sm, hk, rfl, rfl, HSM, hbr⟩ := hrel
          by_cases hlt : k < S.length
          · obtain ⟨x, hx⟩ : ∃ x, S[k]? = some x := ⟨_, List.getElem?_eq_getElem hlt⟩
            obtain ⟨bb, o, rfl, c1, c2⟩ := (HC4.out.below hbr).sub hx
            have hm := List.mem_of_getElem? hx
            have hg := HGOOD.out x hm
            have hst := any_snoc (fun x => matchL (fB x) (bl n) && x.2 == b1) S k x hx
            have htop := HB.out.top x hm
            have hq := topic_Match x.1 n wr ((hE1.below hb4).below hbr) (by omega) (by omega)
            obtain ⟨y, z⟩ := x
            dsimp only at *
            have hz2 := hg.2.1
            rw [show fB (y, z) = bl y from rfl] at hst htop
            cases hml : matchL (bl y) (bl n) with
            | false =>
              rw [hml] at hq hst
              have HST := Lib.hid (show bestAny (S.take (k + 1)) (bl n) b1 = sm from hst.trans (by rw [Bool.false_and, Bool.or_false]; exact HSM.out))
              have HQ := Lib.hid hq
              clear hq hst htop hml hg hm hx
              go_wp2_with (go_at_call 25; refine Calls.mono HQ.out ?_; rintro e w5 ⟨rfl, hb5⟩)
              go_roundw
              case rel => exact ⟨k + 1, sm, by omega, by first | rfl | go_num, by first | rfl | trivial, HST.out, Below.then hbr hb5⟩
              case measure => simp [intOf]; omega
            | true =>
              rw [hml] at hq hst
              have hle : ¬ (b1 : Int) < (z : Int) := by have := htop hml; omega
              have hle2 : ¬ b1 < z := by have := htop hml; omega
              have HQ := Lib.hid hq
              have hall : (bestAny (S.take (k + 1)) (bl n) b1 = (sm || z == b1)) := hst.trans (by rw [Bool.true_and]; exact congrArg (· || z == b1) HSM.out)
              cases sm with
              | true =>
                have HST := Lib.hid hall
                clear hq hst htop hml hg hm hx hall
                go_wp2_with (go_at_call 25; refine Calls.mono HQ.out ?_; rintro e w5 ⟨rfl, hb5⟩; have c3 := cell_later c2 hb5)
                go_roundw
                case rel => exact ⟨k + 1, true, by omega, by first | rfl | go_num, by first | rfl | trivial, HST.out, Below.then hbr hb5⟩
                case measure => simp [intOf]; omega
              | false =>
                cases heq : (z == b1) with
                | true =>
                  have hi : ((z : Int) == (b1 : Int)) = true := by rw [beq_iff_eq] at heq ⊢; omega
                  have HST := Lib.hid (hall.trans (by rw [heq]; rfl : _ = true))
                  clear hq hst htop hml hg hm hx hall heq
                  go_wp2_with (go_at_call 25; refine Calls.mono HQ.out ?_; rintro e w5 ⟨rfl, hb5⟩; have c3 := cell_later c2 hb5)
                  go_roundw
                  case rel => exact ⟨k + 1, true, by omega, by first | rfl | go_num, by first | rfl | trivial, HST.out, Below.then hbr hb5⟩
                  case measure => simp [intOf]; omega
                | false =>
                  have hi : ((z : Int) == (b1 : Int)) = false := by rw [beq_eq_false_iff_ne] at heq ⊢; omega
                  have HST := Lib.hid (hall.trans (by rw [heq]; rfl : _ = false))
                  clear hq hst htop hml hg hm hx hall heq
                  go_wp2_with (go_at_call 25; refine Calls.mono HQ.out ?_; rintro e w5 ⟨rfl, hb5⟩; have c3 := cell_later c2 hb5)
                  go_roundw
                  case rel => exact ⟨k + 1, false, by omega, by first | rfl | go_num, by first | rfl | trivial, HST.out, Below.then hbr hb5⟩
                  case measure => simp [intOf]; omega
          · have : k = S.length := by omega
            subst this
            have hsm := HSM.out
            rw [List.take_length, HB.out.any] at hsm
            subst hsm
            have hb40 := Below.then hb4 hbr
            have HL5 := Lib.hid (HL4.out.below hbr)
            have HC5 := Lib.hid (HC4.out.below hbr)
            have z1 := cell_later y1 hbr
            have z2 := cell_later y2 hbr
            clear HSM hk hlt HC4 HL4 y1 y2
            have h0 : s1 = true ∨ (s1 = false ∧ ((b1 : Int) != 0) = false) := by
              cases hs : s1 with
              | true => exact Or.inl rfl
              | false =>
                have := (HB.out.non hs).1
                exact Or.inr ⟨rfl, by rw [this]; rfl⟩
            have HX : ∀ k x, S[k]? = some x → hasS (S.take (k + 1)) (bl f) = (hasS (S.take k) (bl f) || (fB x == bl f)) := fun k x hx => any_snoc (fun x => fB x == bl f) S k x hx
            replace HX := Lib.hid HX
            have HSET := Lib.hid (fun (w : World) hE v hL hB => own_Set (B := w1.heap.size) (g := g) (v := v) (S := S) (f := f) (q := q) (w := w) hE hL HF.out hB hfz hmq)
            generalize hsr : setS S f q = sc at *
            obtain ⟨code, S2⟩ := sc
            dsimp only at *
            clear HB hsr
            rcases h0 with rfl | ⟨rfl, t0⟩
            all_goals
              go_wp2_with fail
              obtain ⟨wo, rfl⟩ : ∃ wo : World, wo = wr := ⟨_, rfl⟩
              go_loopw [13, 14] (fun p i wr => ∃ (k : Nat) (th : Bool), k ≤ S.length ∧ i = .int .i64 k ∧ p = .bool th ∧ Hid (hasS (S.take k) (bl f) = th) ∧ Below wo.heap.size wo wr) (fun _ i _ => S.length - (intOf i).toNat)
              case atStart => exact ⟨0, false, by omega, rfl, rfl, rfl, Below.refl _ _⟩
              case round =>
                clear hbr
                obtain ⟨k, th, hk, rfl, rfl, HTH, hbr⟩ := hrel
                have z3 := cell_later z1 hbr
                have z4 := cell_later z2 hbr
                by_cases hlt : k < S.length
                · obtain ⟨x, hx⟩ : ∃ x, S[k]? = some x := ⟨_, List.getElem?_eq_getElem hlt⟩
                  obtain ⟨bb, o, rfl, c1, c2⟩ := (HC5.out.below hbr).sub hx
                  have hst := HX.out k x hx
                  obtain ⟨y, z⟩ := x
                  dsimp only at *
                  rw [show fB (y, z) = bl y from rfl] at hst
                  have hall : hasS (S.take (k + 1)) (bl f) = (th || bl y == bl f) := hst.trans (congrArg (· || bl y == bl f) HTH.out)
                  cases th with
                  | true =>
                    have HST := Lib.hid hall
                    clear hst hall hx
                    go_wp2_with fail
                    go_quiet (fail)
                    generalize hw2 : World.drewN wr _ = w9
                    have hq2 := Below.then hbr (below_draws hw2)
                    clear hw2
                    go_wp2_with fail
                    go_roundw
                    case rel => exact ⟨k + 1, true, by omega, by first | rfl | go_num, by first | rfl | trivial, HST.out, hq2⟩
                    case measure => simp [intOf]; omega
                  | false =>
                    cases heq : (bl y == bl f) with
                    | true =>
                      have hi := eqTwo y f _ heq
                      have HST := Lib.hid (show hasS (S.take (k + 1)) (bl f) = true from hall.trans (by rw [heq]; rfl))
                      clear hst hall heq hx
                      go_wp2_with fail
                      go_quiet (fail)
                      generalize hw2 : World.drewN wr _ = w9
                      have hq2 := Below.then hbr (below_draws hw2)
                      clear hw2
                      go_wp2_with fail
                      go_roundw
                      case rel => exact ⟨k + 1, true, by omega, by first | rfl | go_num, by first | rfl | trivial, HST.out, hq2⟩
                      case measure => simp [intOf]; omega
                    | false =>
                      have hi := eqTwo y f _ heq
                      have HST := Lib.hid (show hasS (S.take (k + 1)) (bl f) = false from hall.trans (by rw [heq]; rfl))
                      clear hst hall heq hx
                      go_wp2_with fail
                      go_quiet (fail)
                      generalize hw2 : World.drewN wr _ = w9
                      have hq2 := Below.then hbr (below_draws hw2)
                      clear hw2
                      go_wp2_with fail
                      go_roundw
                      case rel => exact ⟨k + 1, false, by omega, by first | rfl | go_num, by first | rfl | trivial, HST.out, hq2⟩
                      case measure => simp [intOf]; omega
                · have : k = S.length := by omega
                  subst this
                  have hth := HTH.out
                  rw [List.take_length] at hth
                  rw [hth] at HEND
                  have hb5 := Below.then hb40 hbr
                  have HL6 := Lib.hid (HL5.out.below hbr)
                  clear HTH hth hk hlt HX HC5 HL5 z1 z2 hb40
                  go_wp2_with fail
                  go_at_call 20
                  refine Calls.mono (HSET.out _ (hE1.below hb5) _ HL6.out hb5.size) ?_
                  rintro e w6 ⟨v6, rfl, hL6, hb56⟩
                  have hb6 := hb5.trans hb56
                  go_wp2_with fail
                  go_at_call 19
                  refine Calls.mono (subs_Best _ _ _ _ n _ (hE1.below hb6) hL6 HF2.out (by omega)) ?_
                  rintro e w7 ⟨rfl, hb67⟩
                  have hb7 := Below.then hb6 hb67
                  generalize hbs : bestS S2 (bl n) = bs at *
                  obtain ⟨b2, s2⟩ := bs
                  dsimp only at *
                  have z5 := cell_later x1 hb7
                  have z6 := cell_later x2 hb7
                  have HQ := Lib.hid (fun (w : World) hE => topic_Match f n w hE (by omega) (by omega))
                  have hmon := HEND.out.mono
                  have hset := HEND.out.set
                  clear HEND hbs hL6 HL6 hb5 hb56 hb6 hb67 HSET z3 z4
                  generalize matchL (bl f) (bl n) = ml at *
                  have hall : (th = true ∨ (th = false ∧ (b1 : Int) ≤ (b2 : Int))) ∧ (code = 128 ∨ (((code : Int) == 128) = false ∧ (ml = false ∨ (s2 = true ∧ (code : Int) ≤ (b2 : Int))))) := by
                    refine ⟨?_, ?_⟩
                    · cases th with
                      | true => exact Or.inl rfl
                      | false => exact Or.inr ⟨rfl, by have := (hmon rfl).1; omega⟩
                    · rcases hset with h | ⟨h, h2 | ⟨h2, h3⟩⟩
                      · exact Or.inl h
                      · exact Or.inr ⟨h, Or.inl h2⟩
                      · exact Or.inr ⟨h, Or.inr ⟨h2, by omega⟩⟩
                  have hs2 := fun h => (hmon h).2
                  clear hset hmon
                  obtain ⟨hth, hset⟩ := hall
                  rcases hth with rfl | ⟨rfl, hle1⟩ <;> rcases hset with rfl | ⟨t1, rfl | ⟨rfl, hle2⟩⟩ <;> (try cases s2) <;> (try cases ml)
                  all_goals first
                    | (exact absurd (hs2 rfl rfl) (by decide))
                    | (clear hs2
                       go_wp2_with (first
                      | (go_at_call 25; refine Calls.mono (HQ.out _ (hE1.below hb7)) ?_; rintro e w8 ⟨rfl, hb78⟩; replace hb7 := Below.then hb7 hb78)
                      | (go_at_call 10; refine Calls.mono (HAW.out _ (hE1.below hb7)) ?_; rintro e w9 ⟨rfl, hb89⟩))
                       go_ret
                       exact ⟨rfl, Below.then hb01 (Below.then hb7 hb89)⟩)
end Go.Proofs.YtbhmflkhcadaeaaDoor
