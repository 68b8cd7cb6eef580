/- The walk of law03's Great: whether a packet is more than statements go through. Conditions: its list in its cells. -/
import Derived.Test.YtfljdlaelanliaaDoorLaw03
namespace Go.Proofs.YtfljdlaelanliaaDoor
open Go.RowKit

def strV (L : List ByteArray) : List Value := L.map Value.string
def texts8 (p : Pk) : List ByteArray := [p.topic, p.payload, p.client, p.wtopic, p.wpayload, p.user, p.pass, p.codes]
def textsG (p : Pk) (k : Nat) : List ByteArray := texts8 p ++ (p.subs.take k).map (·.1)
theorem textsG_len (p : Pk) (k : Nat) (hk : k ≤ p.subs.length) : (textsG p k).length = 8 + k := by
  unfold textsG texts8
  simp [hk]; omega
theorem textsG_snoc (p : Pk) (k : Nat) (x : Sb) (hx : p.subs[k]? = some x) : textsG p (k + 1) = textsG p k ++ [x.1] := by
  unfold textsG
  rw [List.take_add_one, hx]; simp
theorem strV_append (A B : List ByteArray) : strV (A ++ B) = strV A ++ strV B := List.map_append
theorem strV_one (L : List ByteArray) : ∀ u ∈ strV L, u.oneCell' = true := by
  intro u hu
  obtain ⟨x, _, rfl⟩ := List.mem_map.1 hu
  rfl
def sumG (L : List ByteArray) : Nat := (L.map (·.size)).sum
theorem sumG_all (p : Pk) : sumG (textsG p p.subs.length) = (sizesL p).sum := by
  unfold sumG textsG texts8 sizesL
  simp [Function.comp_def]
theorem sumG_take (L : List ByteArray) (k : Nat) (x : ByteArray) (hx : L[k]? = some x) : sumG (L.take (k + 1)) = sumG (L.take k) + x.size := by
  unfold sumG
  rw [List.take_add_one, hx, List.map_append, List.sum_append]; simp
theorem sumG_le (L : List ByteArray) (k : Nat) : sumG (L.take k) ≤ sumG L := by
  unfold sumG
  conv => rhs; rw [← List.take_append_drop k L, List.map_append, List.sum_append]
  omega
set_option maxRecDepth 100000 in
set_option maxHeartbeats 4000000 in
theorem law03_Great (p : Pk) (a : Option Addr) (c : Nat) (w : World) (ha : CellsA w a (subCells p.subs)) :
    Calls Tryd.prog 31 #[.agg (pkV p a c)] w fun e w' => e = .returned (.bool (greatB p)) ∧ Below w.heap.size w w' := by
  obtain ⟨i0, hi, hz0, hz1, hz2⟩ := info_parts infoStr
  have FIN := Lib.hid (show ∀ (b : Bool) (w' : World), greatB p = b → Below w.heap.size w w' → Ending.returned (.bool b) = .returned (.bool (greatB p)) ∧ Below w.heap.size w w' from by rintro b w' rfl h; exact ⟨rfl, h⟩)
  obtain ⟨k0, k1, k2, k3, k4, k5, k6, k7, k8, k9, k10, k11, k12, k13, k14, k15, k16, k17, k18, k19, k20, k21, k22, k23⟩ := pk_at p a c
  have hW : Below w.heap.size w (w.alloc (.cells (pkV p a c) 27)) := (Below.refl _ _).alloc (Nat.le_refl _) _
  have HA := Lib.hid ha
  have HB := Lib.hid (BoxAt.new w (pkV p a c) 27)
  clear ha hW
  by_cases hlen : 100 < p.subs.length
  · have HX := Lib.hid (show greatB p = true by unfold greatB; simp [hlen])
    go_enter Tryd.func31, Tryd.ntmps31
    go_wp2_with fail
    go_ret
    exact FIN.out _ _ HX.out (by go_grown)
  · have hlen2 : p.subs.length ≤ 100 := by omega
    have HX := Lib.hid (show greatB p = decide (10000 < sumG (textsG p p.subs.length)) by unfold greatB; rw [sumG_all]; simp [hlen])
    clear hlen
    go_enter Tryd.func31, Tryd.ntmps31
    go_wp2_with fail
    have HO := Lib.hid (own_mk (w := (w.alloc (.cells (pkV p a c) 27)).alloc (.cells (strV (texts8 p)).toArray 9)) (B := w.heap.size) (n := 8) (size := 1) (g := w.heap.size + 1) (BoxAt.new2 w _ _ _) rfl (by unfold maxLen; omega) (by omega))
    replace HB := Lib.hid (BoxAt.old2 w (.cells (strV (texts8 p)).toArray 9) (pkV p a c) 27)
    have hb1 : Below w.heap.size w ((w.alloc (.cells (pkV p a c) 27)).alloc (.cells (strV (texts8 p)).toArray 9)) := by go_grown
    go_loopw [4, 5] (fun l i wr => ∃ k : Nat, k ≤ p.subs.length ∧ i = .int .i64 k ∧ Hid (wr.ownsRow w.heap.size 9 1 l (8 + k) (strV (textsG p k))) ∧ Hid (BoxAt wr w.heap.size (pkV p a c) 27) ∧ Below w.heap.size w wr) (fun _ i _ => p.subs.length - (intOf i).toNat)
    case atStart => exact ⟨0, by omega, rfl, by rw [show textsG p 0 = texts8 p by unfold textsG; simp]; exact HO, HB, hb1⟩
    case round =>
      clear HO HB hb1
      obtain ⟨k, hk, rfl, HO, HB, hb1⟩ := hrel
      have hX := HB.out.cells
      have hsz := hb1.size
      by_cases hlt : k < p.subs.length
      · obtain ⟨x, hx⟩ : ∃ x, p.subs[k]? = some x := ⟨_, List.getElem?_eq_getElem hlt⟩
        obtain ⟨bb, o, ha1, c1, c2⟩ := (HA.out.below hb1).sub hx
        subst ha1
        have HS := Lib.hid (textsG_snoc p k x hx)
        obtain ⟨x1, x2⟩ := x
        dsimp only at c1 c2 HS
        clear hx
        go_wp2_with (at_builtin; have HO2 := Lib.hid (HO.out.alloc (.cells #[.string x1] 9)); refine wpList_append_own _ rfl _ _ 29 rfl w.heap.size 9 i0 _ 1 16 Tryd.underlying29 hi hz0 hz1 hz2 rfl (by decide) _ (8 + k) (strV (textsG p k)) rfl HO2.out ⟨wr.heap.size, 0, none⟩ 1 1 [.string x1] rfl rfl (newsN _ _ _ _ rfl) (strV_one [x1]) (by unfold maxLen; omega) (by omega) (by simp; omega) ?_; intro v3 w3 hown3 hg3 _; have hbx : Below wr.heap.size wr (wr.alloc (.cells #[.string x1] 9)) := (Below.refl _ _).alloc (Nat.le_refl _) _; have HB3 := Lib.hid ((HB.out.below hbx).only (only_grown hg3) (fun e => (BoxAt.ne_own (HB.out.below hbx) HO2.out (by decide) _ e) rfl)); have hb3 := Below.grown' (hb1.alloc hsz _) hg3 (by simp; omega) (fun r hr => (own_lt HO2.out hr).2); have HC3 := Lib.hid hown3; clear hown3 hg3 hbx)
        go_roundw
        case rel => exact ⟨k + 1, by omega, by first | rfl | go_num, by rw [Hid, HS.out, strV_append]; exact HC3.out, HB3, hb3⟩
        case measure => simp [intOf]; omega
      · have : k = p.subs.length := by omega
        subst this
        clear hlt hk
        have HLN := Lib.hid (textsG_len p p.subs.length (Nat.le_refl _))
        generalize hG : textsG p p.subs.length = L at *
        clear hG
        obtain ⟨al, cl, hl, _, hcl⟩ := own_form HO.out
        subst hl
        go_wp2_with fail
        go_loopw [3, 6] (fun t i wz => ∃ k : Nat, k ≤ 8 + p.subs.length ∧ i = .int .i64 k ∧ ∃ s : Nat, s ≤ 10000 ∧ Hid (sumG (L.take k) = s) ∧ t = .int .i64 (10000 - (s : Int)) ∧ wr = wz) (fun _ i _ => 8 + p.subs.length - (intOf i).toNat)
        case atStart => exact ⟨0, by omega, rfl, 0, by omega, rfl, rfl, rfl⟩
        case round =>
          obtain ⟨k, hk, rfl, s, hs, HS, rfl, rfl⟩ := hrel
          by_cases hlt : k < 8 + p.subs.length
          · obtain ⟨x, hx⟩ : ∃ x, L[k]? = some x := ⟨_, List.getElem?_eq_getElem (by rw [HLN.out]; exact hlt)⟩
            obtain ⟨bb, o, rfl, c1⟩ := hcl k (.string x) (by unfold strV; rw [List.getElem?_map, hx]; rfl)
            have h1 := sumG_take L k x hx
            rw [HS.out] at h1
            have h2 := sumG_le L (k + 1)
            rw [h1] at h2
            have H1 := Lib.hid h1
            clear h1 hx
            by_cases hg : 10000 - (s : Int) < (x.size : Int)
            · have HY := Lib.hid (show greatB p = true by rw [HX.out, decide_eq_true_eq]; omega)
              clear h2
              go_wp2_with fail
              go_ret
              exact FIN.out _ _ HY.out hb1
            · have hg2 : s + x.size ≤ 10000 := by omega
              clear h2
              go_wp2_with fail
              go_roundw
              case rel => exact ⟨k + 1, by omega, by first | rfl | go_num, s + x.size, by omega, H1, by first | rfl | go_num | (congr 1; omega) | (congr 1; push_cast; omega), by first | rfl | trivial⟩
              case measure => simp [intOf]; omega
          · have hk2 : k = 8 + p.subs.length := by omega
            have HY := Lib.hid (show greatB p = false by
              have := HS.out
              rw [hk2, ← HLN.out, List.take_length] at this
              rw [HX.out, decide_eq_false_iff_not, this]; omega)
            subst hk2
            go_wp2_with fail
            go_ret
            exact FIN.out _ _ HY.out hb1
end Go.Proofs.YtfljdlaelanliaaDoor
