/- The walk of the list's Best. Conditions: as for Subs; the name is shorter than the model's bound. -/
import Derived.Test.YtbhmflkhcadaeaaDoorSubsList
namespace Go.Proofs.YtbhmflkhcadaeaaDoor
open Go.RowKit

theorem best_step (S : List Sb) (n : Bs) (k : Nat) (x : Sb) (hx : S[k]? = some x) (b : Nat × Bool) : (S.drop k).foldl (bestF n) b = (S.drop (k + 1)).foldl (bestF n) (bestF n b x) := by
  obtain ⟨h1, h2⟩ := List.getElem?_eq_some_iff.1 hx
  rw [List.drop_eq_getElem_cons h1, h2]; rfl

set_option maxRecDepth 100000 in
theorem subs_Best (B g : Nat) (v : Value) (S : List Sb) (n : ByteArray) (w : World) (hE : Env w) (hL : LAt w B g v S) (hF : Fine S) (hn : n.size < 4294967281) :
    Calls Tryd.prog 19 #[.pointer (some ⟨g, 0, none⟩), .string n] w fun e w' =>
      e = .returned (.tuple #[.int .u8 ((bestS S (bl n)).1 : Nat), .bool (bestS S (bl n)).2]) ∧ Below w.heap.size w w' := by
  have hfew := hF.few
  have hS := Lib.hid (subs_Subs B g v S w hL hfew)
  have hM := Lib.hid (fun f w hE hf => topic_Match f n w hE hf hn)
  have HG := Lib.hid hF.good
  have FIN := Lib.hid (show ∀ (b : Nat) (s : Bool) (w' : World), bestS S (bl n) = (b, s) → Below w.heap.size w w' → Ending.returned (.tuple #[.int .u8 (b : Int), .bool s]) = .returned (.tuple #[.int .u8 ((bestS S (bl n)).1 : Nat), .bool (bestS S (bl n)).2]) ∧ Below w.heap.size w w' from by
    intro b s w' h hb; rw [h]; exact ⟨rfl, hb⟩)
  clear hL hF
  go_enter Tryd.func19, Tryd.ntmps19
  go_wp2_with (go_at_call 14; refine Calls.mono hS.out ?_; rintro e w1 ⟨r, rfl, hown, hb⟩; obtain ⟨a, c, hr, hc, hcells⟩ := own_form hown; rw [hr])
  go_loopw [6, 7, 13] (fun p q i wr => ∃ (k b : Nat) (s : Bool), k ≤ S.length ∧ i = .int .i64 k ∧ p = .int .u8 b ∧ q = .bool s ∧ Hid ((S.drop k).foldl (bestF (bl n)) (b, s) = bestS S (bl n)) ∧ Below w1.heap.size w1 wr) (fun _ _ i _ => S.length - (intOf i).toNat)
  case atStart => exact ⟨0, 0, false, by omega, rfl, rfl, rfl, rfl, Below.refl _ _⟩
  case round =>
    obtain ⟨k, b, s, hk, rfl, rfl, rfl, HP, hbr⟩ := hrel
    by_cases hlt : k < S.length
    · obtain ⟨x, hx⟩ : ∃ x, S[k]? = some x := ⟨_, List.getElem?_eq_getElem hlt⟩
      obtain ⟨bb, o, rfl, c1, c2⟩ := (hcells.below hbr).sub hx
      have hg := HG.out x (List.mem_of_getElem? hx)
      have hst := best_step S (bl n) k x hx (b, s)
      have hq := hM.out x.1
      have hxs : x.1.size < 4294967281 := by omega
      have hx2 := hg.2.1
      obtain ⟨f, q⟩ := x
      dsimp only at *
      have hEr : Env wr := (hE.below hb).below hbr
      cases hm : matchL (bl f) (bl n)
      · rw [hm] at hq
        have HST := Lib.hid (hst.trans (by unfold bestF; rw [show fB (f, q) = bl f from rfl, hm]; rfl : _ = (S.drop (k + 1)).foldl (bestF (bl n)) (b, s)))
        have HQ := Lib.hid hq
        clear hq hst hm hg hx
        go_wp2_with (go_at_call 25; refine Calls.mono (HQ.out _ (hEr.below (by go_grown)) hxs) ?_; rintro e w2 ⟨rfl, hb2⟩; have hb3 := Below.then (Below.then hbr (show Below wr.heap.size wr _ by go_grown)) hb2)
        go_roundw
        case rel => exact ⟨k + 1, b, s, by omega, by first | rfl | go_num, by first | rfl | trivial, by first | rfl | trivial, HST.out.symm.trans HP.out, hb3⟩
        case measure => simp [intOf]; omega
      · rw [hm] at hq
        have HST := Lib.hid (hst.trans (by unfold bestF; rw [show fB (f, q) = bl f from rfl, hm]; rfl : _ = (S.drop (k + 1)).foldl (bestF (bl n)) (max b q, true)))
        have HQ := Lib.hid hq
        clear hq hst hm hg hx
        go_wp2_with (go_at_call 25; refine Calls.mono (HQ.out _ (hEr.below (by go_grown)) hxs) ?_; rintro e w2 ⟨rfl, hb2⟩; have hb3 := Below.then (Below.then hbr (show Below wr.heap.size wr _ by go_grown)) hb2; have hc2 := hb2.cell (p := ⟨wr.heap.size, 1, none⟩) (by simp))
        go_roundw
        case rel => exact ⟨k + 1, max b q, true, by omega, by first | rfl | go_num, by rw [show ((max b q : Nat) : Int) = max (b : Int) (q : Int) by omega], by first | rfl | trivial, HST.out.symm.trans HP.out, hb3⟩
        case measure => simp [intOf]; omega
    · have : k = S.length := by omega
      subst this
      go_wp2_with fail
      go_ret2
      exact FIN.out _ _ _ (by rw [← HP.out, List.drop_eq_nil_of_le (Nat.le_refl _)]; rfl) (Below.then hb hbr)
end Go.Proofs.YtbhmflkhcadaeaaDoor
