/- law04's great: are packets more than statements go through? Conditions: the decoder's tables lie as Go lays them; the packets and their lists in their cells. -/
import Derived.Test.YtfljdlaelanliaaDoorWriteAll
import Derived.Test.YtfljdlaelanliaaDoorLaw03Great
namespace Go.Proofs.YtfljdlaelanliaaDoor
open Go.RowKit
def greatAll (T : List PkE) : Bool := decide (20 < T.length) || T.any fun x => greatB x.1
theorem any_take_snoc (f : PkE → Bool) (T : List PkE) (k : Nat) (x : PkE) (hx : T[k]? = some x) : (T.take (k + 1)).any f = ((T.take k).any f || f x) := by
  rw [List.take_add_one, hx, List.any_append]; simp
/-- What is asked of each packet of a row, where its sizes are not known. -/
structure PkRow (w : World) (x : PkE) : Prop where
  row : CellsA w x.2.1 (subCells x.1.subs)
set_option maxRecDepth 100000 in
set_option maxHeartbeats 4000000 in
theorem law04_great (al : Option Addr) (cl : Nat) (T : List PkE) (w : World) (hE : Env w) (hc : CellsA w al (pkCells T)) (hT : ∀ x ∈ T, PkRow w x) :
    Calls Tryd.prog 12 #[.slice al T.length cl] w fun e w' => e = .returned (.bool (greatAll T)) ∧ Below w.heap.size w w' := by
  have HC := Lib.hid hc
  have HT := Lib.hid hT
  have HK := Lib.hid (Keep.begin hE [] (by intro r hr; cases hr))
  have FIN := Lib.hid (show ∀ (b : Bool) (w' : World), greatAll T = b → Below w.heap.size w w' → Ending.returned (.bool b) = .returned (.bool (greatAll T)) ∧ Below w.heap.size w w' from by rintro b w' rfl h; exact ⟨rfl, h⟩)
  clear hc hT hE
  by_cases h20 : 20 < T.length
  · have HX := Lib.hid (show greatAll T = true by unfold greatAll; simp [h20])
    go_enter Tryd.func12, Tryd.ntmps12
    go_wp2_with fail
    go_ret
    exact FIN.out _ _ HX.out HK.out.low
  · go_enter Tryd.func12, Tryd.ntmps12
    have h20i : ¬ (20 : Int) < (T.length : Int) := by omega
    go_wp2_with fail
    go_loopw [3] (fun i wr => ∃ k : Nat, k ≤ T.length ∧ i = .int .i64 k ∧ Hid ((T.take k).any (fun x => greatB x.1) = false) ∧ Hid (Keep w [] [] wr)) (fun i _ => T.length - (intOf i).toNat)
    case atStart => exact ⟨0, by omega, rfl, rfl, HK⟩
    case round =>
      clear HK
      obtain ⟨k, hk, rfl, HA, HK⟩ := hrel
      by_cases hlt : k < T.length
      · obtain ⟨x, hx⟩ : ∃ x, T[k]? = some x := ⟨_, List.getElem?_eq_getElem hlt⟩
        have hmem := List.mem_of_getElem? hx
        have hin := HT.out x hmem
        obtain ⟨b, o, hal, hrg, hb⟩ := pk_range HC.out hx
        subst hal
        have hst := any_take_snoc (fun x : PkE => greatB x.1) T k x hx
        rw [HA.out, Bool.false_or] at hst
        obtain ⟨p, a, c⟩ := x
        have HS := fun w1 ha => law03_Great p a c w1 ha
        obtain ⟨g, hg⟩ : ∃ g, greatB p = g := ⟨_, rfl⟩
        rw [hg] at HS
        replace HS := Lib.hid HS
        have HIN := Lib.hid hin
        have HRG := Lib.hid hrg
        cases g
        · have HN := Lib.hid (hst.trans hg)
          clear hrg hin hx hst hg hmem
          go_wp2_with (first
            | ((with_reducible show wpList _ _ _ (⟨some 16, _, _, _, _, _⟩ :: _) _ _); refine wpList_load_mid rfl 27 _ rfl b (o + k * 24) rfl (pkC (p, a, c)) _ (range_low HRG.out hb HK.out.low) Tryd.underlying27 rfl (pk_size p a c) ?_)
            | (go_at_call 31; refine Calls.mono (HS.out _ (HIN.out.row.below HK.out.low)) ?_; rintro e w1 ⟨rfl, hb1⟩; replace HK := Lib.hid (HK.out.below hb1); clear hb1))
          go_roundw
          case rel => exact ⟨k + 1, by omega, by first | rfl | go_num, HN, Lib.hid (HK.out.sub (List.nil_sublist _) (fun r hr => hr))⟩
          case measure => simp [intOf]; omega
        · have HX := Lib.hid (show greatAll T = true by
            unfold greatAll
            rw [List.any_eq_true.2 ⟨_, hmem, hg⟩, Bool.or_true])
          clear hrg hin hx hst hg hmem
          go_wp2_with (first
            | ((with_reducible show wpList _ _ _ (⟨some 16, _, _, _, _, _⟩ :: _) _ _); refine wpList_load_mid rfl 27 _ rfl b (o + k * 24) rfl (pkC (p, a, c)) _ (range_low HRG.out hb HK.out.low) Tryd.underlying27 rfl (pk_size p a c) ?_)
            | (go_at_call 31; refine Calls.mono (HS.out _ (HIN.out.row.below HK.out.low)) ?_; rintro e w1 ⟨rfl, hb1⟩; replace HK := Lib.hid (HK.out.below hb1); clear hb1))
          go_ret
          exact FIN.out _ _ HX.out HK.out.low
      · have hk2 : k = T.length := by omega
        have HX := Lib.hid (show greatAll T = false by
          unfold greatAll
          have h1 := HA.out
          rw [hk2, List.take_length] at h1
          rw [h1, Bool.or_false, decide_eq_false_iff_not]; exact h20)
        subst hk2
        go_wp2_with fail
        go_ret
        exact FIN.out _ _ HX.out HK.out.low
end Go.Proofs.YtfljdlaelanliaaDoor
