/- The walk of SubsTells. Conditions: the acts and the filters lie in their cells; the decoder's tables lie as Go lays them. -/
import Derived.Test.YtbhmflkhcadaeaaDoorLawPlays
namespace Go.Proofs.YtbhmflkhcadaeaaDoor
open Go.RowKit

/-- Both lists, and a block X that is neither's. -/
def PairX (w : World) (B gl gr : Nat) (S : List Sb) (X : Nat) : Prop := ∃ vl vr, LAt w B gl vl S ∧ RAt w B gr vr S ∧ (∀ k, Foot gl vl k → ¬ Foot gr vr k) ∧ Fine S ∧ ¬ Foot gl vl X ∧ ¬ Foot gr vr X
theorem PairX.pair {w : World} {B gl gr X : Nat} {S : List Sb} (h : PairX w B gl gr S X) : Pair w B gl gr S := by
  obtain ⟨vl, vr, h1, h2, h3, h4, _⟩ := h
  exact ⟨vl, vr, h1, h2, h3, h4⟩
theorem Pair.new {w : World} {B gl gr X : Nat} {S : List Sb} (h : Pair w B gl gr S) (hX : w.heap.size ≤ X) : PairX w B gl gr S X := by
  obtain ⟨vl, vr, h1, h2, h3, h4⟩ := h
  refine ⟨vl, vr, h1, h2, h3, h4, ?_, ?_⟩
  · rintro (e | e)
    · have := h1.blk.lt; omega
    · have := (h1.own.lt e).1; omega
  · rintro (e | e)
    · have := h2.blk.lt; omega
    · have := (h2.own.lt e).1; omega
theorem PairX.below {w w' : World} {B gl gr X : Nat} {S : List Sb} (h : PairX w B gl gr S X) (k : Below w.heap.size w w') : PairX w' B gl gr S X := by
  obtain ⟨vl, vr, h1, h2, h3, h4, h5⟩ := h
  exact ⟨vl, vr, h1.below k, h2.below k, h3, h4, h5⟩
theorem PairX.only {w w' : World} {B gl gr X : Nat} {S : List Sb} (h : PairX w B gl gr S X) (k : Only (fun j => j = X) w w') : PairX w' B gl gr S X := by
  obtain ⟨vl, vr, h1, h2, h3, h4, h5, h6⟩ := h
  exact ⟨vl, vr, h1.only k (fun e => h5 (Or.inl e.symm)) (fun r hr e => h5 (Or.inr (e ▸ hr))), h2.only k (fun e => h6 (Or.inl e.symm)) (fun r hr e => h6 (Or.inr (e ▸ hr))), h3, h4, h5, h6⟩
theorem greatS_no {T : List Sb} (h : greatS T = false) (hq : ∀ x ∈ T, x.2 < 256) : T.length ≤ 60 ∧ SmallS T := by
  unfold greatS at h
  rw [Bool.or_eq_false_iff, decide_eq_false_iff_not, List.any_eq_false] at h
  refine ⟨by omega, fun x hx => ⟨?_, hq x hx⟩⟩
  have := h.1 x hx
  simp at this
  omega

/-- A row of the call's own, all of it in block X. -/
def RowX (w : World) (B X : Nat) (v : Value) (n : Nat) : Prop := ∃ xs, RowAt w B 33 2 v n xs ∧ ∀ r, v.ownBlock = some r → r = X
theorem row_block {w : World} {B n : Nat} {v : Value} {xs : List Value} {N : Nat} (h : w.ownsRow B 33 2 v n xs) (hN : B ≤ N) : ∃ X, B ≤ X ∧ ∀ r, v.ownBlock = some r → r = X := by
  rcases h.2 with ⟨rfl, _⟩ | ⟨g, cap, cur, rfl, hB, _⟩
  · exact ⟨N, hN, fun r hr => by simp [Value.ownBlock] at hr⟩
  · exact ⟨g, hB, fun r hr => by simpa [Value.ownBlock] using hr.symm⟩

set_option maxHeartbeats 1000000 in
set_option maxRecDepth 100000 in
theorem law15_SubsTells (a : Option Addr) (c : Nat) (L : List Ac) (b : Option Addr) (d : Nat) (T : List Sb) (w : World) (hE : Env w) (hn : L.length ≤ 9223372036854775807) (hq : ∀ x ∈ L, x.q < 256) (ha : CellsA w a (acCells L))
    (_hz : b = none → d = 0) (_hd : T.length ≤ d) (hm : T.length ≤ 9223372036854775807) (hp : ∀ x ∈ T, x.2 < 256) (hb : CellsA w b (subCells T)) :
    Calls Tryd.prog 4 #[.slice a L.length c, .slice b T.length d] w fun e w' => e = .returned (.bool true) ∧ Below w.heap.size w w' := by
  have HG := law15_GreatActs a c L w hn ha
  have HS := law15_Great b d T w hm hb
  have HAW := Lib.hid (fun (w : World) hE => law15_awake w hE)
  cases hg : greatA L with
  | true =>
    rw [hg] at HG
    replace HG := Lib.hid HG
    clear hg HS
    go_enter Tryd.func4, Tryd.ntmps4
    go_wp2_with (first
      | (go_at_call 9; refine Calls.mono HG.out ?_; rintro e w1 ⟨rfl, rfl⟩)
      | (go_at_call 10; refine Calls.mono (HAW.out _ hE) ?_; rintro e w2 ⟨rfl, hb⟩))
    go_ret
    exact ⟨rfl, hb⟩
  | false =>
    rw [hg] at HG
    cases hs : greatS T with
    | true =>
      rw [hs] at HS
      replace HG := Lib.hid HG
      replace HS := Lib.hid HS
      clear hg hs
      go_enter Tryd.func4, Tryd.ntmps4
      go_wp2_with (first
        | (go_at_call 9; refine Calls.mono HG.out ?_; rintro e w1 ⟨rfl, rfl⟩)
        | (go_at_call 13; refine Calls.mono HS.out ?_; rintro e w1 ⟨rfl, rfl⟩)
        | (go_at_call 10; refine Calls.mono (HAW.out _ hE) ?_; rintro e w2 ⟨rfl, hb⟩))
      go_ret
      exact ⟨rfl, hb⟩
    | false =>
      rw [hs] at HS
      replace HG := Lib.hid HG
      replace HS := Lib.hid HS
      obtain ⟨hn80, hsm⟩ := greatA_no hg
      obtain ⟨hn60, hst⟩ := greatS_no hs hp
      have HSM := Lib.hid hsm
      have HST := Lib.hid hst
      clear hg hs hsm hst
      go_enter Tryd.func4, Tryd.ntmps4
      go_wp2_with (first
        | (go_at_call 9; refine Calls.mono HG.out ?_; rintro e w1 ⟨rfl, rfl⟩)
        | (go_at_call 13; refine Calls.mono HS.out ?_; rintro e w1 ⟨rfl, rfl⟩)
        | (go_at_call 11; refine (subs_New _).mono ?_; rintro e w1 ⟨rfl, hL, hb1⟩))
      obtain ⟨w2, hw2⟩ : ∃ w2, w1.alloc (.cells #[.slice none 0 0] 30) = w2 := ⟨_, rfl⟩
      have HP0 := Lib.hid (pair_start hL hb1.size hw2)
      have hb0 : Below w.heap.size w w2 := hw2 ▸ hb1.alloc hb1.size _
      rw [hw2]
      clear hL hw2 HG HS
      go_loopw [7] (fun i wr => ∃ (k : Nat) (S : List Sb), k ≤ L.length ∧ i = .int .i64 k ∧ Hid (Pair wr w.heap.size w.heap.size w1.heap.size S) ∧ Below w.heap.size w wr) (fun i _ => L.length - (intOf i).toNat)
      case atStart => exact ⟨0, [], by omega, rfl, HP0.out, hb0⟩
      case round =>
        obtain ⟨k, S, hk, rfl, HP, hbr⟩ := hrel
        by_cases hlt : k < L.length
        · obtain ⟨x, hx⟩ : ∃ x, L[k]? = some x := ⟨_, List.getElem?_eq_getElem hlt⟩
          obtain ⟨bb, o, rfl, c1, c2, c3, c4⟩ := (ha.below hbr).act hx
          have hm := List.mem_of_getElem? hx
          have HD := Lib.hid (pair_does (fun w' h => hE.below (hbr.trans h)) HP.out hbr.size (HSM.out x hm).1 (HSM.out x hm).2 (hq x hm))
          clear hx hm
          go_wp2_with (first
            | (go_at_call 12; refine Calls.mono HD.out ?_; rintro e w3 ⟨rfl, hp, hb3⟩))
          go_roundw
          case rel => exact ⟨k + 1, actS S x, by omega, by first | rfl | go_num, hp, hbr.trans hb3⟩
          case measure => simp [intOf]; omega
        · have : k = L.length := by omega
          subst this
          obtain ⟨wo, rfl⟩ : ∃ wo : World, wo = wr := ⟨_, rfl⟩
          go_wp2_with fail
          clear ha HSM hq HP0 hb0
          go_loopw [8] (fun i wr => ∃ (k : Nat), k ≤ 2 ∧ i = .int .i64 k ∧ Hid (Pair wr w.heap.size w.heap.size w1.heap.size S) ∧ Below w.heap.size w wr) (fun i _ => 2 - (intOf i).toNat)
          case atStart => exact ⟨0, by omega, rfl, HP.out, hbr⟩
          case round =>
            clear HP hbr
            obtain ⟨k, hk, rfl, HP, hbr⟩ := hrel
            by_cases hlt : k < 2
            · obtain ⟨vl, vr, h1, h2, h3, h4⟩ := HP.out
              have HSU := Lib.hid (subs_Subs _ _ _ S _ h1 h4.few)
              have HL := Lib.hid h1
              have HR := Lib.hid h2
              have HF := Lib.hid h4
              obtain ⟨ar, cr, rfl⟩ := rat_slice h2
              clear h1 h2 h3 h4
              go_wp2_with (first
                | (go_at_call 14; refine Calls.mono HSU.out ?_; rintro e w3 ⟨v3, rfl, ho3, hb3⟩; obtain ⟨a3, c3, rfl, _, hc3⟩ := own_form ho3; have HO3 := Lib.hid ho3; clear ho3)
                | (go_at_call 15; refine Calls.mono (subs_Try _ _ _ S b d T _ ((hE.below hbr).below hb3) (HL.out.below hb3) HF.out ((hb.below hbr).below hb3) HST.out hn60) ?_; rintro e w4 ⟨rfl, hb34⟩; have hb4 := Below.then hb3 hb34)
                | (go_at_call 16; refine Calls.mono (ref15_Try _ _ _ S b d T _ (HR.out.below hb4) HF.out ((hb.below hbr).below hb4) HST.out hn60) ?_; rintro e w5 ⟨rfl, hb45⟩; have hb5 := Below.then hb4 hb45; have hb35 := Below.then hb34 hb45; have hcr := (HR.out.below hb5).blk.cell)
                | (go_at_call 17; refine Calls.mono (same_self HF.out.few (hc3.below hb35) (rat_cells (HR.out.below hb5))) ?_; rintro e w6 ⟨rfl, hb56⟩; have hb6 := Below.then hb5 hb56; have hb36 := Below.then hb35 hb56))
              obtain ⟨X, hX, hXr⟩ := row_block HO3.out hb6.size
              have HPX := Lib.hid ((HP.out.new hX).below hb6)
              have HRX := Lib.hid (show RowX w6 w.heap.size X (.slice a3 S.length c3) S.length from ⟨_, RowAt.of_own (own_base (own_only HO3.out (Only.of_below hb36 (fun _ => False)) (fun _ _ h => h)) hbr.size), hXr⟩)
              have hbw := Below.then hbr hb6
              have hfew := HF.out.few
              clear HO3 hXr hX hc3 hb3 hb4 hb5 hb34 hb45 hb35 hb56 hb6 hb36 HSU HL HR HF hcr HP hbr
              go_loopw [10] (fun i wr => ∃ (j : Nat), j ≤ S.length ∧ i = .int .i64 j ∧ Hid (PairX wr w.heap.size w.heap.size w1.heap.size S X) ∧ Hid (RowX wr w.heap.size X (.slice a3 S.length c3) S.length) ∧ Below w.heap.size w wr) (fun i _ => S.length - (intOf i).toNat)
              case atStart => exact ⟨0, by omega, rfl, HPX.out, HRX.out, hbw⟩
              case round =>
                clear HPX HRX hbw
                obtain ⟨j, hj, rfl, HPX, HRX, hbr⟩ := hrel
                by_cases hlt : j < S.length
                · obtain ⟨xs, ho, hr⟩ := HRX.out
                  rcases ho.2 with ⟨_, h0⟩ | ⟨g, cap, cur, hv, _⟩
                  · omega
                  · injection hv with e1 _ e2
                    subst e1 e2
                    obtain rfl := hr g rfl
                    have hro := ho
                    have hf1 := hro.frozenAt (j * 2)
                    have hf2 := hro.frozenAt (j * 2 + 1)
                    have hlen := ho.1
                    obtain ⟨u1, hu1⟩ : ∃ u, xs[j * 2]? = some u := ⟨_, List.getElem?_eq_getElem (by omega)⟩
                    obtain ⟨u2, hu2⟩ : ∃ u, xs[j * 2 + 1]? = some u := ⟨_, List.getElem?_eq_getElem (by omega)⟩
                    have hc1 := (hro.cellAt (j * 2) (by omega)).trans hu1
                    have hc2 := (hro.cellAt (j * 2 + 1) (by omega)).trans hu2
                    have HO := Lib.hid ho
                    clear hro ho hu1 hu2 hr hlen
                    go_wp2_with fail
                    go_roundw
                    case rel =>
                      refine ⟨j + 1, by omega, by first | rfl | go_num, ?_, ?_, ?_⟩
                      · exact HPX.out.only (((Only.refl (fun k => k = g) _).setCell (Or.inl rfl) _).setCell (Or.inl rfl) _)
                      · exact ⟨_, (HO.out.stored _ _).stored _ _, fun r hr => by simpa [Value.ownBlock] using hr.symm⟩
                      · exact hbr.trans (((Only.refl (fun k => k = g) _).setCell (Or.inl rfl) _).setCell (Or.inl rfl) _ |>.below hbr.size (fun k e => by have := (HO.out.lt (g := g) rfl).2; omega))
                    case measure => simp [intOf]; omega
                · have : j = S.length := by omega
                  subst this
                  go_wp2_with fail
                  go_roundw
                  case rel => exact ⟨k + 1, by omega, by first | rfl | go_num, HPX.out.pair, hbr⟩
                  case measure => simp [intOf]; omega
            · have : k = 2 := by omega
              subst this
              go_wp2_with (first
                | (go_at_call 10; refine Calls.mono (HAW.out _ (hE.below hbr)) ?_; rintro e w4 ⟨rfl, hb4⟩))
              go_ret
              exact ⟨rfl, Below.then hbr hb4⟩
end Go.Proofs.YtbhmflkhcadaeaaDoor
