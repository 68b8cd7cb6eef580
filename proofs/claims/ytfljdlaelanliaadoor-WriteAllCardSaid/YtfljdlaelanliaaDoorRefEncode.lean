/- The walks of the reference's Encode and All. Conditions: a machine's bounds; the packets' lists in their cells; the decoder's tables lie as Go lays them. -/
import Derived.Test.YtfljdlaelanliaaDoorRefEncRest
import Derived.Test.YtfljdlaelanliaaDoorRefRight
import Derived.Test.YtfljdlaelanliaaDoorPkRows
namespace Go.Proofs.YtfljdlaelanliaaDoor
open Go.RowKit
set_option maxRecDepth 100000 in
set_option maxHeartbeats 4000000 in
theorem ref04_Encode (p : Pk) (a : Option Addr) (c : Nat) (w : World) (hE : Env w) (hp : PkOk p) (ha : CellsA w a (subCells p.subs)) : Calls Tryd.prog 41 #[.agg (pkV p a c)] w fun e w' => e = .returned (.tuple #[.string (encS p), .int .i64 (encE p)]) ∧ Below w.heap.size w w' := by
  have HK := Lib.hid ((Keep.begin hE [(a, subCells p.subs)] (by intro r hr; simp at hr; subst hr; exact ha)).alloc' (pkV p a c) 27 w.heap.size rfl)
  have hR := fun w1 hE ha => ref03_Right p a c w1 hE hp ha
  obtain ⟨h1, h2⟩ := right_rest p hp
  clear hE ha
  by_cases h0 : 0 ≤ restP p
  · rw [h1, decide_eq_true h0] at hR
    have HR := Lib.hid hR
    have HV := Lib.hid (fun w1 hE ha => ref04_Rest p a c w1 hE hp ha h0)
    have hmx : restP p ≤ 268435455 := by unfold restP restOf; split <;> omega
    have hrl := restB_len p hp h0
    obtain ⟨n, hn⟩ : ∃ n : Nat, restP p = (n : Int) := ⟨(restP p).toNat, by omega⟩
    rw [hn] at hrl
    have hn2 : n ≤ 268435455 := by omega
    have hsz : (bB (restB p)).size = n := by
      have : (bB (restB p)).size = (restB p).length := rfl
      omega
    have HL := Lib.hid (fun w1 hE => ref01_Len n hn2 w1 hE)
    have hq : p.ty = 3 → p.qos ≤ 2 := fun h3 => (pub_parts h3 h0).2.1
    have hfl := flags_lt p hq
    have hty := rest_types h0
    have HF := Lib.hid (fun w1 hE => ref04_First p a c w1 hE hty hq)
    have HO := Lib.hid (fun w1 hE => ref04_one (16 * p.ty + flagsN p) (by omega) w1 hE)
    have HX := Lib.hid (show bB [byteN (16 * p.ty + flagsN p)] ++ bB (lenB n) ++ bB (restB p) = encS p by
      rw [encS_good h0]
      unfold encB
      rw [hn, Int.toNat_natCast, ← bB_two, ← bB_two]
      simp)
    have hl4 : (bB (lenB n)).size ≤ 4 := by
      have : (bB (lenB n)).size = (lenB n).length := rfl
      have h4 := (lenS_le n).2
      rw [this, lenB_len n hn2]; exact h4
    have ho1 : (bB [byteN (16 * p.ty + flagsN p)]).size = 1 := rfl
    rw [encE_good h0]
    have FIN := Lib.hid (show ∀ (s : ByteArray) (w' : World), s = encS p → Below w.heap.size w w' → Ending.returned (.tuple #[.string s, .int .i64 0]) = .returned (.tuple #[.string (encS p), .int .i64 0]) ∧ Below w.heap.size w w' from by rintro s w' rfl h; exact ⟨rfl, h⟩)
    generalize bB [byteN (16 * p.ty + flagsN p)] = D1 at *
    generalize bB (lenB n) = D2 at *
    generalize bB (restB p) = D3 at *
    generalize 16 * p.ty + flagsN p = x at *
    have e1 : ¬ 9223372036854775807 < D1.size + D2.size := by omega
    have e2 : ¬ 9223372036854775807 < D1.size + D2.size + D3.size := by omega
    have hsz2 : ((D3.size : Nat) : Int) = (n : Int) := by rw [hsz]
    clear hR hp h1 h2 h0 hmx hrl hn hq hfl hty
    go_enter Tryd.func41, Tryd.ntmps41
    go_wp2_with (first
      | ((with_reducible show wpList _ _ _ (⟨_, .load 27 _, _, _, _, _⟩ :: _) _ _); refine wpList_load_box rfl 27 _ rfl _ rfl 27 _ (by (first | exact HK.out.at 0 rfl)) _ Tryd.underlying27 rfl (pk_size _ _ _) ?_)
      | (go_at_call 60; refine Calls.mono (HR.out _ HK.out.env (HK.out.rowAt 0 rfl)) ?_; rintro e w1 ⟨rfl, hb1⟩; replace HK := Lib.hid (HK.out.below hb1); clear hb1)
      | (go_at_call 61; refine Calls.mono (HV.out _ HK.out.env (HK.out.rowAt 0 rfl)) ?_; rintro e w1 ⟨rfl, hb1⟩; replace HK := Lib.hid (HK.out.below hb1); clear hb1)
      | (go_at_call 62; refine Calls.mono (HL.out _ HK.out.env) ?_; rintro e w1 ⟨rfl, hb1⟩; replace HK := Lib.hid (HK.out.below hb1); clear hb1)
      | (go_at_call 64; refine Calls.mono (HF.out _ HK.out.env) ?_; rintro e w1 ⟨rfl, hb1⟩; replace HK := Lib.hid (HK.out.below hb1); clear hb1)
      | (go_at_call 63; refine Calls.mono (HO.out _ HK.out.env) ?_; rintro e w1 ⟨rfl, hb1⟩; replace HK := Lib.hid (HK.out.below hb1); clear hb1))
    go_ret2
    exact FIN.out _ _ HX.out HK.out.low
  · rw [h1, decide_eq_false h0] at hR
    rw [encS_bad (by omega), encE_bad (by omega)]
    have HR := Lib.hid hR
    clear hR hp h1 h2 h0
    go_enter Tryd.func41, Tryd.ntmps41
    go_wp2_with (first
      | ((with_reducible show wpList _ _ _ (⟨_, .load 27 _, _, _, _, _⟩ :: _) _ _); refine wpList_load_box rfl 27 _ rfl _ rfl 27 _ (by (first | exact HK.out.at 0 rfl)) _ Tryd.underlying27 rfl (pk_size _ _ _) ?_)
      | (go_at_call 60; refine Calls.mono (HR.out _ HK.out.env (HK.out.rowAt 0 rfl)) ?_; rintro e w1 ⟨rfl, hb1⟩; replace HK := Lib.hid (HK.out.below hb1); clear hb1))
    go_ret2
    exact ⟨rfl, HK.out.low⟩
theorem size_enc (p : Pk) (hp : PkOk p) : sizeN p = (encS p).size := by
  by_cases h : 0 ≤ restP p
  · exact size_good hp h
  · rw [encS_bad (by omega)]
    unfold sizeN
    rw [if_pos (by omega)]
    rfl
set_option maxRecDepth 100000 in
set_option maxHeartbeats 4000000 in
theorem ref04_All (al : Option Addr) (cl : Nat) (T : List PkE) (w : World) (hE : Env w) (hc : CellsA w al (pkCells T)) (hT : ∀ x ∈ T, PkIn w x) (hn : T.length ≤ 300) :
    Calls Tryd.prog 16 #[.slice al T.length cl] w fun e w' => e = .returned (.tuple #[.string (allS T), .int .i64 (allE T)]) ∧ Below w.heap.size w w' := by
  have HC := Lib.hid hc
  have HT := Lib.hid hT
  have HK := Lib.hid (Keep.begin hE [] (by intro r hr; cases hr))
  have FIN := Lib.hid (show ∀ (s : ByteArray) (i : Int) (w' : World), s = allS T → i = allE T → Below w.heap.size w w' → Ending.returned (.tuple #[.string s, .int .i64 i]) = .returned (.tuple #[.string (allS T), .int .i64 (allE T)]) ∧ Below w.heap.size w w' from by rintro s i w' rfl rfl h; exact ⟨rfl, h⟩)
  clear hc hT hE
  go_enter Tryd.func16, Tryd.ntmps16
  go_wp2_with fail
  go_loopw [4, 5] (fun s i wr => ∃ k : Nat, k ≤ T.length ∧ i = .int .i64 (k : Int) ∧ s = .string (bB (encAll (T.take k))) ∧ Hid (okAll (T.take k) = true) ∧ Hid (Keep w [] [] wr)) (fun _ i _ => T.length - (intOf i).toNat)
  case atStart => exact ⟨0, by omega, rfl, rfl, rfl, HK⟩
  case round =>
    clear HK
    obtain ⟨k, hk, rfl, rfl, HA, HK⟩ := hrel
    by_cases hlt : k < T.length
    · obtain ⟨x, hx⟩ : ∃ x, T[k]? = some x := ⟨_, List.getElem?_eq_getElem hlt⟩
      have hmem := List.mem_of_getElem? hx
      have hin := HT.out x hmem
      obtain ⟨b, o, hal, hrg, hb⟩ := pk_range HC.out hx
      subst hal
      have hle := encAll_le (T.take k) (fun y hy => ⟨(HT.out y (List.mem_of_mem_take hy)).ok, ok_each HA.out hy⟩)
      have hlk : (T.take k).length ≤ 300 := by rw [List.length_take]; omega
      have hok := okAll_append (T.take k) [x]
      have htk : T.take (k + 1) = T.take k ++ [x] := by rw [List.take_add_one, hx]; rfl
      have hsn := encAll_snoc T k x hx
      obtain ⟨p, pa, pc⟩ := x
      have hN := fun w1 hE ha => ref04_Encode p pa pc w1 hE hin.ok ha
      have HIN := Lib.hid hin
      have HRG := Lib.hid hrg
      have hs1 : (bB (encAll (T.take k))).size ≤ 90000000000 := by
        have : (bB (encAll (T.take k))).size = (encAll (T.take k)).length := rfl
        omega
      by_cases h0 : 0 ≤ restP p
      · have hs2 : (encS p).size ≤ 300000000 := by rw [encS_good h0]; exact enc_le hin.ok h0
        have HN2 := Lib.hid (show bB (encAll (T.take (k + 1))) = bB (encAll (T.take k)) ++ encS p by rw [hsn, encS_good h0, bB_two])
        have HO2 := Lib.hid (show okAll (T.take (k + 1)) = true by rw [htk, hok, HA.out]; unfold okAll; simp [h0])
        rw [encE_good h0] at hN
        generalize encS p = t at *
        generalize bB (encAll (T.take k)) = D at *
        have HN := Lib.hid hN
        have e1 : ¬ 9223372036854775807 < D.size + t.size := by omega
        clear hN hrg hin hx hle hok htk hsn h0 hmem
        go_wp2_with (first
          | ((with_reducible show wpList _ _ _ (⟨some 18, _, _, _, _, _⟩ :: _) _ _); refine wpList_load_mid rfl 27 _ rfl b (o + k * 24) rfl (pkC (p, pa, pc)) _ (range_low HRG.out hb HK.out.low) Tryd.underlying27 rfl (pk_size p pa pc) ?_)
          | (go_at_call 41; refine Calls.mono (HN.out _ HK.out.env (HIN.out.row.below HK.out.low)) ?_; rintro e w1 ⟨rfl, hb1⟩; replace HK := Lib.hid (HK.out.below hb1); clear hb1))
        go_roundw
        case rel => exact ⟨k + 1, by omega, by first | rfl | go_num, by rw [HN2.out], HO2, HK⟩
        case measure => simp [intOf]; omega
      · have hbad : okAll T = false := by
          cases hz : okAll T
          · rfl
          · exact absurd (ok_each hz hmem) h0
        have HX := Lib.hid (show allS T = ⟨#[]⟩ ∧ allE T = 4 by unfold allS allE; rw [hbad]; exact ⟨rfl, rfl⟩)
        rw [encE_bad (by omega)] at hN
        generalize encS p = t at *
        have HN := Lib.hid hN
        clear hN hrg hin hx hle hok htk hsn h0 hmem
        go_wp2_with (first
          | ((with_reducible show wpList _ _ _ (⟨some 18, _, _, _, _, _⟩ :: _) _ _); refine wpList_load_mid rfl 27 _ rfl b (o + k * 24) rfl (pkC (p, pa, pc)) _ (range_low HRG.out hb HK.out.low) Tryd.underlying27 rfl (pk_size p pa pc) ?_)
          | (go_at_call 41; refine Calls.mono (HN.out _ HK.out.env (HIN.out.row.below HK.out.low)) ?_; rintro e w1 ⟨rfl, hb1⟩; replace HK := Lib.hid (HK.out.below hb1); clear hb1))
        go_ret2
        exact FIN.out _ _ _ HX.out.1.symm HX.out.2.symm HK.out.low
    · have hk2 : k = T.length := by omega
      subst hk2
      have ha := HA.out
      rw [List.take_length] at ha
      have HX := Lib.hid (show bB (encAll T) = allS T ∧ (0 : Int) = allE T by unfold allS allE; rw [ha]; exact ⟨rfl, rfl⟩)
      rw [List.take_length]
      go_wp2_with fail
      go_ret2
      exact FIN.out _ _ _ HX.out.1 HX.out.2 HK.out.low
end Go.Proofs.YtfljdlaelanliaaDoor
