import Derived.Test.YtmppkgonkkffhaaDoorJoinA
import Derived.Test.YtmppkgonkkffhaaDoorTopic2
import Derived.Laws.EntriesVeiled
namespace Go.Proofs.YtmppkgonkkffhaaDoor
open Go.RowKit
theorem subs_find1 (f s : ByteArray) (q : Nat) (w : World) :
    Calls Tryd.prog 73 #[.agg #[.string f, .int .u8 (q : Int)], .string s] w fun e w' => e = .returned (.int .i64 (Lib.compareBytes (bl f) (bl s))) ∧ Below w.heap.size w w' := by
  have hC := Lib.hid (fun a b w => Tryd.strings_Compare a b w); go_enter Tryd.func73, Tryd.ntmps73
  go_wp2_with (go_at_call 74; refine (hC.out _ _ _).mono ?_; rintro e w1 ⟨rfl, rfl⟩)
  go_ret
  exact ⟨rfl, by go_grown⟩
set_option maxRecDepth 100000 in
theorem subs_search (a : Option Addr) (c : Nat) (S : List Sb) (f : ByteArray) (w : World) (hs : SortS S) (hn : S.length ≤ 1000000) (ha : CellsA w a (subCells S)) :
    Calls Tryd.prog 72 #[.slice a S.length c, .string f, .func (.func 73) #[] #[]] w fun e w' =>
      e = .returned (.tuple #[.int .i64 (posS S (bl f) : Nat), .bool (atS S (bl f))]) ∧ Below w.heap.size w w' := by
  have hC := Lib.hid (fun g q w => subs_find1 g f q w); have hS := Lib.hid hs; clear hs; have FIN := Lib.hid (show ∀ (n : Nat) (v : Bool) (w' : World), posS S (bl f) = n → atS S (bl f) = v → Below w.heap.size w w' → Ending.returned (.tuple #[.int .i64 (n : Int), .bool v]) = .returned (.tuple #[.int .i64 (posS S (bl f) : Nat), .bool (atS S (bl f))]) ∧ Below w.heap.size w w' from by
    rintro n v w' rfl rfl h; exact ⟨rfl, h⟩)
  go_enter Tryd.func72, Tryd.ntmps72
  go_wp2_with fail
  go_loopw [9, 10] (fun x y wr => ∃ i j : Nat, i ≤ j ∧ j ≤ S.length ∧ x = .int .i64 i ∧ y = .int .i64 j ∧ Hid (∀ t x, t < i → S[t]? = some x → lessB (fB x) (bl f) = true) ∧ Hid (∀ t x, j ≤ t → S[t]? = some x → lessB (fB x) (bl f) = false) ∧ Below w.heap.size w wr) (fun x y _ => (intOf y).toNat - (intOf x).toNat)
  case atStart => exact ⟨0, S.length, by omega, by omega, rfl, rfl, (fun t x h => by omega), (fun t x h hx => by rw [List.getElem?_eq_none h] at hx; cases hx), Below.refl _ _⟩
  case round =>
    obtain ⟨i, j, hij, hj, rfl, rfl, H1, H2, hb⟩ := hrel; by_cases hlt : i < j
    · obtain ⟨h, hh⟩ : ∃ h, (i + j) / 2 = h := ⟨_, rfl⟩
      have hh1 : i ≤ h := by omega
      have hh2 : h < j := by omega
      obtain ⟨x, hx⟩ : ∃ x, S[h]? = some x := ⟨_, List.getElem?_eq_getElem (by omega)⟩
      obtain ⟨b, o, rfl, c1, c2⟩ := (ha.below hb).sub hx; have hk := hC.out x.1 x.2; rw [cmpB] at hk; cases hl : lessB (bl x.1) (bl f)
      · have hge : ∀ t y, h ≤ t → S[t]? = some y → lessB (fB y) (bl f) = false := fun t y ht hy => by
          by_cases e : t = h
          · subst e
            rw [hx] at hy; injection hy with hy
            subst hy; exact hl
          · cases hq : lessB (fB y) (bl f) with
            | false => rfl
            | true =>
              obtain ⟨ht1, ht2⟩ := List.getElem?_eq_some_iff.1 hy; obtain ⟨hx1, hx2⟩ := List.getElem?_eq_some_iff.1 hx; have hm := List.pairwise_iff_getElem.1 hS.out h t hx1 ht1 (by omega); rw [hx2, ht2] at hm; have hm2 := lessB_trans hm hq; rw [show fB x = bl x.1 from rfl, hl] at hm2; cases hm2
        have H2' := Lib.hid hge; clear hge; obtain ⟨K, hK, hK2⟩ : ∃ K : Int, (if lessB (bl x.1) (bl f) = true then (-1 : Int) else if bl x.1 = bl f then 0 else 1) = K ∧ ¬ K < 0 := by
          refine ⟨_, rfl, ?_⟩; rw [hl]; simp only [Bool.false_eq_true, if_false]; split <;> decide
        rw [hK] at hk; have HK := Lib.hid hk; rw [← hh] at c1 c2; have HH := Lib.hid hh; clear hk hK hl hx hh; go_wp2_with (go_at_call 73; refine (HK.out _).mono ?_; rintro e w1 ⟨rfl, hb1⟩; replace hb := Below.then hb hb1)
        go_roundw
        case rel => exact ⟨i, h, by omega, by omega, by first | rfl | go_num, by rw [← HH.out]; first | rfl | go_num, H1, H2', hb⟩
        case measure => simp [intOf]; have := HH.out; omega
      · have hle : ∀ t y, t < h + 1 → S[t]? = some y → lessB (fB y) (bl f) = true := fun t y ht hy => by
          by_cases e : t = h
          · subst e
            rw [hx] at hy; injection hy with hy
            subst hy; exact hl
          · obtain ⟨ht1, ht2⟩ := List.getElem?_eq_some_iff.1 hy
            obtain ⟨hx1, hx2⟩ := List.getElem?_eq_some_iff.1 hx; have hm := List.pairwise_iff_getElem.1 hS.out t h ht1 hx1 (by omega); rw [hx2, ht2] at hm; exact lessB_trans hm hl
        have H1' := Lib.hid hle; clear hle; rw [hl, if_pos rfl] at hk; have HK := Lib.hid hk; rw [← hh] at c1 c2; have HH := Lib.hid hh; clear hk hl hx hh; go_wp2_with (go_at_call 73; refine (HK.out _).mono ?_; rintro e w1 ⟨rfl, hb1⟩; replace hb := Below.then hb hb1)
        go_roundw
        case rel => exact ⟨h + 1, j, by omega, by omega, by rw [← HH.out]; first | rfl | go_num, by first | rfl | go_num, H1', H2, hb⟩
        case measure => simp [intOf]; have := HH.out; omega
    · have : i = j := by omega
      subst this; have hp := posS_is hS.out hj H1.out H2.out; have hat := atS_at S (bl f); rw [hp] at hat; have HPS := Lib.hid hp; by_cases hlt2 : i < S.length
      · obtain ⟨x, hx⟩ : ∃ x, S[i]? = some x := ⟨_, List.getElem?_eq_getElem hlt2⟩
        obtain ⟨b, o, rfl, c1, c2⟩ := (ha.below hb).sub hx; rw [hx] at hat; have hno := H2.out i x (Nat.le_refl _) hx; have hk := hC.out x.1 x.2; rw [cmpB, show lessB (bl x.1) (bl f) = false from hno] at hk; simp only [Bool.false_eq_true, if_false] at hk; cases he : (fB x == bl f)
        · have hne : bl x.1 ≠ bl f := beq_eq_false_iff_ne.1 he
          rw [if_neg hne] at hk; have HAT := Lib.hid (hat.trans he); have HK := Lib.hid hk; clear hk hat he hne hno hp hx; go_wp2_with (go_at_call 73; refine (HK.out _).mono ?_; rintro e w1 ⟨rfl, hb1⟩; replace hb := Below.then hb hb1)
          go_ret2
          exact FIN.out _ _ _ HPS.out HAT.out hb
        · have hq : bl x.1 = bl f := beq_iff_eq.1 he
          rw [if_pos hq] at hk; have HAT := Lib.hid (hat.trans he); have HK := Lib.hid hk; clear hk hat he hq hno hp hx; go_wp2_with (go_at_call 73; refine (HK.out _).mono ?_; rintro e w1 ⟨rfl, hb1⟩; replace hb := Below.then hb hb1)
          go_ret2
          exact FIN.out _ _ _ HPS.out HAT.out hb
      · have : i = S.length := by omega
        subst this; rw [List.getElem?_eq_none (Nat.le_refl _)] at hat; have HAT := Lib.hid hat; clear hat hp; go_wp2_with fail
        go_ret2
        exact FIN.out _ _ _ HPS.out HAT.out hb
end Go.Proofs.YtmppkgonkkffhaaDoor
