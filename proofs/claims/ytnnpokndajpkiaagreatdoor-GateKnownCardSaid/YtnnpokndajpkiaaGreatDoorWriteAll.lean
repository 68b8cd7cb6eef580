import Derived.Test.YtnnpokndajpkiaaGreatDoorWriteBody
import Derived.Deep.MidRow
namespace Go.Proofs.YtnnpokndajpkiaaGreatDoor
open Go.RowKit
def sizeN (p : Pk) : Nat := if restP p < 0 then 0 else 1 + lenS (restP p).toNat + (restP p).toNat
theorem restP_max (p : Pk) : restP p ≤ 268435455 := by
  unfold restP restOf; split <;> omega
theorem lenS_le (n : Nat) : 1 ≤ lenS n ∧ lenS n ≤ 4 := by unfold lenS; (repeat' split) <;> omega
set_option maxRecDepth 100000 in
theorem write_Size (p : Pk) (a : Option Addr) (c : Nat) (w : World) (hE : Env w) (hp : PkOk p) (ha : CellsA w a (subCells p.subs)) : Calls Tryz.prog 111 #[.agg (pkV p a c)] w fun e w' => e = .returned (.int .i64 (sizeN p : Nat)) ∧ Below w.heap.size w w' := by
  have HK := Lib.hid ((Keep.begin hE [(a, subCells p.subs)] (by intro r hr; simp at hr; subst hr; exact ha)).alloc' (pkV p a c) 33 w.heap.size rfl); have hR := fun w1 hE ha => packet_Rest p a c w1 hE hp ha
  have FIN := Lib.hid (show ∀ (k : Int) (w' : World), ((sizeN p : Nat) : Int) = k → Below w.heap.size w w' → Ending.returned (.int .i64 k) = .returned (.int .i64 (sizeN p : Nat)) ∧ Below w.heap.size w w' from by rintro k w' rfl h; exact ⟨rfl, h⟩); have hmx := restP_max p; clear hp ha hE; by_cases h0 : restP p < 0
  · have HX := Lib.hid (show ((sizeN p : Nat) : Int) = 0 by unfold sizeN; rw [if_pos h0]; rfl)
    have hn := restP_neg p h0; rw [hn] at hR; have HR := Lib.hid hR; clear hR h0 hn hmx; go_enter Tryz.func111, Tryz.ntmps111
    go_wp2_with (first
      | ((with_reducible show wpList _ _ _ (⟨_, .load 33 _, _, _, _, _⟩ :: _) _ _); refine wpList_load_box rfl 33 _ rfl _ rfl 33 _ (by (first | exact HK.out.at 0 rfl)) _ Tryz.underlying33 rfl (pk_size _ _ _) ?_)
      | (go_at_call 100; refine Calls.mono (HR.out _ HK.out.env (HK.out.rowAt 0 rfl)) ?_; rintro e w1 ⟨rfl, hb1⟩; replace HK := Lib.hid (HK.out.below hb1); clear hb1))
    go_ret
    exact FIN.out _ _ HX.out HK.out.low
  · obtain ⟨n, hn⟩ : ∃ n : Nat, restP p = (n : Int) := ⟨(restP p).toNat, by omega⟩
    have HX := Lib.hid (show ((sizeN p : Nat) : Int) = 1 + (lenS n : Nat) + (n : Int) by unfold sizeN; rw [if_neg h0, hn]; push_cast; rfl); rw [hn] at hR hmx; have hn2 : n ≤ 268435455 := by omega
    have HS := Lib.hid (fun w1 => num_Size n hn2 w1); have HR := Lib.hid hR; have hl4 := lenS_le n; clear hR h0 hn hmx; generalize lenS n = z at *; go_enter Tryz.func111, Tryz.ntmps111
    go_wp2_with (first
      | ((with_reducible show wpList _ _ _ (⟨_, .load 33 _, _, _, _, _⟩ :: _) _ _); refine wpList_load_box rfl 33 _ rfl _ rfl 33 _ (by (first | exact HK.out.at 0 rfl)) _ Tryz.underlying33 rfl (pk_size _ _ _) ?_)
      | (go_at_call 100; refine Calls.mono (HR.out _ HK.out.env (HK.out.rowAt 0 rfl)) ?_; rintro e w1 ⟨rfl, hb1⟩; replace HK := Lib.hid (HK.out.below hb1); clear hb1)
      | (go_at_call 138; refine Calls.mono (HS.out _) ?_; rintro e w1 ⟨rfl, rfl⟩))
    go_ret
    exact FIN.out _ _ HX.out HK.out.low
abbrev PkE := Pk × Option Addr × Nat
def pkC (x : PkE) : List Value := (pkV x.1 x.2.1 x.2.2).toList
theorem pkC_len (x : PkE) : (pkC x).length = 24 := rfl
def pkCells (T : List PkE) : List Value := T.flatMap pkC
def okAll (T : List PkE) : Bool := T.all fun x => decide (0 ≤ restP x.1)
def encAll (T : List PkE) : Bs := T.flatMap fun x => encB x.1
structure PkIn (w : World) (x : PkE) : Prop where
  ok : PkOk x.1
  row : CellsA w x.2.1 (subCells x.1.subs)
theorem PkIn.low {w : World} {x : PkE} (h : PkIn w x) : subCells x.1.subs ≠ [] → ∀ b o, x.2.1 = some ⟨b, o, none⟩ → b < w.heap.size := fun hne b o e => by
  cases hs : subCells x.1.subs with
  | nil => exact absurd hs hne
  | cons u r =>
    obtain ⟨b', o', e', hc⟩ := h.row 0 u (by rw [hs]; rfl); rw [e] at e'; injection e' with e'
    injection e' with e1 e2
    subst e1 e2; exact World.block_lt_of_cell? _ _ hc
theorem pk_range {w : World} {al : Option Addr} {T : List PkE} (h : CellsA w al (pkCells T)) {k : Nat} {x : PkE} (hx : T[k]? = some x) : ∃ b o, al = some ⟨b, o, none⟩ ∧ w.rangeAt b (o + k * 24) (pkC x) ∧ b < w.heap.size := by
  obtain ⟨b, o, e, hj⟩ := CellsA.elem pkC_len h hx (.int .u8 (x.1.ty : Int)) rfl; exact ⟨b, o, e, fun j v hv => hj j v hv, World.block_lt_of_cell? _ _ (hj 0 _ rfl)⟩
theorem range_low {w w' : World} {b o : Nat} {cs : List Value} (h : w.rangeAt b o cs) (hb : b < w.heap.size) (k : Below w.heap.size w w') : w'.rangeAt b o cs := fun j v hv => (k.cell (p := ⟨b, o + j, none⟩) hb).trans (h j v hv)
theorem size_pos (p : Pk) : ((sizeN p : Nat) : Int) = 0 ↔ restP p < 0 := by
  unfold sizeN; split <;> omega
theorem encAll_snoc (T : List PkE) (k : Nat) (x : PkE) (hx : T[k]? = some x) : encAll (T.take (k + 1)) = encAll (T.take k) ++ encB x.1 := by
  unfold encAll; rw [List.take_add_one, hx, List.flatMap_append]; simp
theorem first_bits : ∀ t : Nat, t < 16 → ∀ f : Nat, f < 16 → bits BinOp.or IntKind.u8 (IntKind.u8.wrap ((t : Int) * 16)) (f : Int) = ((16 * t + f : Nat) : Int) := by decide +kernel
set_option maxRecDepth 100000 in
set_option maxHeartbeats 4000000 in
theorem all_bad (al : Option Addr) (cl : Nat) (T : List PkE) (w : World) (hE : Env w) (hc : CellsA w al (pkCells T)) (hT : ∀ x ∈ T, PkIn w x) (hn : T.length ≤ 1000) (hbad : okAll T = false) :
    Calls Tryz.prog 93 #[.slice al T.length cl] w fun e w' => e = .returned (.tuple #[.string ⟨#[]⟩, .int .i64 4]) ∧ Below w.heap.size w w' := by
  have HC := Lib.hid hc; have HT := Lib.hid hT; have HK := Lib.hid (Keep.begin hE [] (by intro r hr; cases hr)); have HBAD := Lib.hid hbad; clear hc hT hE hbad; go_enter Tryz.func93, Tryz.ntmps93
  go_wp2_with fail
  go_loopw [4, 15] (fun z i wr => ∃ k : Nat, k ≤ T.length ∧ i = .int .i64 k ∧ ∃ s : Nat, z = .int .i64 (s : Int) ∧ s ≤ k * 300000000 ∧ Hid ((T.take k).all (fun x => decide (0 ≤ restP x.1)) = true) ∧ Hid (Keep w [] [] wr)) (fun _ i _ => T.length - (intOf i).toNat)
  case atStart => exact ⟨0, by omega, rfl, 0, rfl, by omega, rfl, HK⟩
  case round =>
    clear HK; obtain ⟨k, hk, rfl, s, rfl, hs, HA, HK⟩ := hrel; by_cases hlt : k < T.length
    · obtain ⟨x, hx⟩ : ∃ x, T[k]? = some x := ⟨_, List.getElem?_eq_getElem hlt⟩
      have hin := HT.out x (List.mem_of_getElem? hx); obtain ⟨b, o, hal, hrg, hb⟩ := pk_range HC.out hx; subst hal; have hst := all_take (fun x : PkE => decide (0 ≤ restP x.1)) T k x hx; rw [HA.out, Bool.true_and] at hst; obtain ⟨p, a, c⟩ := x; have hsz := size_pos p; have hmx := restP_max p; have hle : sizeN p ≤ 300000000 := by unfold sizeN; have := lenS_le (restP p).toNat; split <;> omega
      have HS := Lib.hid (fun w1 hE ha => write_Size p a c w1 hE hin.ok ha); have HIN := Lib.hid hin; have HRG := Lib.hid hrg; clear hrg hin hx; by_cases h0 : restP p < 0
      · have HZ := Lib.hid (show ((sizeN p : Nat) : Int) = 0 from hsz.2 h0)
        have hz : (((sizeN p : Nat) : Int) == 0) = true := by rw [HZ.out]; rfl
        clear hst hsz hmx h0; go_wp2_with (first
          | ((with_reducible show wpList _ _ _ (⟨some 18, _, _, _, _, _⟩ :: _) _ _); refine wpList_load_mid rfl 33 _ rfl b (o + k * 24) rfl (pkC (p, a, c)) _ (range_low HRG.out hb HK.out.low) Tryz.underlying33 rfl (pk_size p a c) ?_)
          | ((with_reducible show wpList _ _ _ (⟨some 6, .alloc 33, _, _, _, _⟩ :: _) _ _); obtain ⟨i0, z0, hi0, hz0, hs0, hc0⟩ := infoPkt; refine wpList_new rfl 33 rfl _ rfl rfl _ _ rfl rfl i0 z0 hi0 hz0 (pkV p a c) hs0 hc0 (pk_one _ _ _) rfl rfl ?_; replace HK := Lib.hid (HK.out.alloc (pkV p a c) 33); clear i0 z0 hi0 hz0 hs0 hc0; generalize hgw : World.alloc _ _ = w5 at HK ⊢; clear hgw)
          | ((with_reducible show wpList _ _ _ (⟨_, .load 33 _, _, _, _, _⟩ :: _) _ _); refine wpList_load_box rfl 33 _ rfl _ rfl 33 _ (by (first | exact HK.out.at 0 rfl)) _ Tryz.underlying33 rfl (pk_size _ _ _) ?_)
          | (go_at_call 111; refine Calls.mono (HS.out _ HK.out.env (HIN.out.row.below HK.out.low)) ?_; rintro e w1 ⟨rfl, hb1⟩; replace HK := Lib.hid (HK.out.below hb1); clear hb1))
        go_ret2
        exact ⟨rfl, HK.out.low⟩
      · have hz : (((sizeN p : Nat) : Int) == 0) = false := beq_eq_false_iff_ne.2 (fun e => h0 (hsz.1 e))
        have HN := Lib.hid (show (T.take (k + 1)).all (fun x => decide (0 ≤ restP x.1)) = true by rw [hst]; simp; omega); clear hst hsz hmx h0; generalize sizeN p = zz at *; go_wp2_with (first
          | ((with_reducible show wpList _ _ _ (⟨some 18, _, _, _, _, _⟩ :: _) _ _); refine wpList_load_mid rfl 33 _ rfl b (o + k * 24) rfl (pkC (p, a, c)) _ (range_low HRG.out hb HK.out.low) Tryz.underlying33 rfl (pk_size p a c) ?_)
          | ((with_reducible show wpList _ _ _ (⟨some 6, .alloc 33, _, _, _, _⟩ :: _) _ _); obtain ⟨i0, z0, hi0, hz0, hs0, hc0⟩ := infoPkt; refine wpList_new rfl 33 rfl _ rfl rfl _ _ rfl rfl i0 z0 hi0 hz0 (pkV p a c) hs0 hc0 (pk_one _ _ _) rfl rfl ?_; replace HK := Lib.hid (HK.out.alloc (pkV p a c) 33); clear i0 z0 hi0 hz0 hs0 hc0; generalize hgw : World.alloc _ _ = w5 at HK ⊢; clear hgw)
          | ((with_reducible show wpList _ _ _ (⟨_, .load 33 _, _, _, _, _⟩ :: _) _ _); refine wpList_load_box rfl 33 _ rfl _ rfl 33 _ (by (first | exact HK.out.at 0 rfl)) _ Tryz.underlying33 rfl (pk_size _ _ _) ?_)
          | (go_at_call 111; refine Calls.mono (HS.out _ HK.out.env (HIN.out.row.below HK.out.low)) ?_; rintro e w1 ⟨rfl, hb1⟩; replace HK := Lib.hid (HK.out.below hb1); clear hb1))
        go_roundw
        case rel => exact ⟨k + 1, by omega, by first | rfl | go_num, s + zz, by first | rfl | go_num, by omega, HN, Lib.hid (HK.out.sub (List.nil_sublist _) (fun r hr => hr))⟩
        case measure => simp [intOf]; omega
    · exfalso
      have : k = T.length := by omega
      subst this; have h1 := HA.out; have h2 := HBAD.out; unfold okAll at h2; rw [List.take_length, h2] at h1; cases h1
theorem flags_lt (p : Pk) (h : p.ty = 3 → p.qos ≤ 2) : flagsN p < 16 := by
  unfold flagsN bitN; split
  · rename_i h3
    have := h h3
    (repeat' split) <;> omega
  · split <;> omega
theorem keep_only {w0 w w' : World} (h : Keep w0 [] [] w) (k : OnlyU w0.heap.size w w') : Keep w0 [] [] w' :=
  ⟨h.env0, h.low.trans (k.low h.size), fun x hx => (by cases hx), fun x hx => (by cases hx), List.nodup_nil, fun r hr => (by cases hr), fun r hr => (by cases hr)⟩
theorem enc_le {p : Pk} (hp : PkOk p) (h : 0 ≤ restP p) : (encB p).length ≤ 300000000 := by
  rw [encB_len p hp h]; have := restP_max p; have := lenS_le (restP p).toNat; omega
theorem encAll_le : ∀ (T : List PkE), (∀ x ∈ T, PkOk x.1 ∧ 0 ≤ restP x.1) → (encAll T).length ≤ T.length * 300000000
  | [], _ => by simp [encAll]
  | x :: r, h => by
    have ih := encAll_le r (fun y hy => h y (by simp [hy])); have h1 := enc_le (h x (by simp)).1 (h x (by simp)).2; unfold encAll at *; rw [List.flatMap_cons, List.length_append, List.length_cons, Nat.succ_mul]; omega
set_option maxRecDepth 100000 in
set_option maxHeartbeats 4000000 in
theorem all_good (al : Option Addr) (cl : Nat) (T : List PkE) (w : World) (hE : Env w) (hc : CellsA w al (pkCells T)) (hT : ∀ x ∈ T, PkIn w x) (hn : T.length ≤ 300) (hgood : okAll T = true) :
    Calls Tryz.prog 93 #[.slice al T.length cl] w fun e w' => e = .returned (.tuple #[.string (bB (encAll T)), .int .i64 0]) ∧ Below w.heap.size w w' := by
  obtain ⟨i0, hi, hz0, hz1, hz2⟩ := info_parts infoU8; have HC := Lib.hid hc; have HT := Lib.hid hT; have HK := Lib.hid (Keep.begin hE [] (by intro r hr; cases hr)); have hv : ∀ x ∈ T, 0 ≤ restP x.1 := fun x hx => by
    unfold okAll at hgood; have := List.all_eq_true.1 hgood x hx; simpa using this
  have HV := Lib.hid hv; have HLE := Lib.hid (fun k => encAll_le (T.take k) (fun x hx => ⟨(hT x (List.mem_of_mem_take hx)).ok, hv x (List.mem_of_mem_take hx)⟩)); have HK0 := HK; have FIN := Lib.hid (show ∀ (s : ByteArray) (w' : World), bB (encAll T) = s → Below w.heap.size w w' → Ending.returned (.tuple #[.string s, .int .i64 0]) = .returned (.tuple #[.string (bB (encAll T)), .int .i64 0]) ∧ Below w.heap.size w w' from by rintro s w' rfl h; exact ⟨rfl, h⟩); clear hc hT hE hgood hv; go_enter Tryz.func93, Tryz.ntmps93
  go_wp2_with fail
  go_loopw [4, 15] (fun z i wr => ∃ k : Nat, k ≤ T.length ∧ i = .int .i64 k ∧ ∃ s : Nat, z = .int .i64 (s : Int) ∧ s ≤ k * 300000000 ∧ Hid (Keep w [] [] wr)) (fun _ i _ => T.length - (intOf i).toNat)
  case atStart => exact ⟨0, by omega, rfl, 0, rfl, by omega, HK⟩
  case round =>
    clear HK; obtain ⟨k, hk, rfl, s, rfl, hs, HK⟩ := hrel; by_cases hlt : k < T.length
    · obtain ⟨x, hx⟩ : ∃ x, T[k]? = some x := ⟨_, List.getElem?_eq_getElem hlt⟩
      have hin := HT.out x (List.mem_of_getElem? hx); have h0 := HV.out x (List.mem_of_getElem? hx); obtain ⟨b, o, hal, hrg, hb⟩ := pk_range HC.out hx; subst hal; obtain ⟨p, a, c⟩ := x; have hsz := size_pos p; have hmx := restP_max p; have hle : sizeN p ≤ 300000000 := by unfold sizeN; have := lenS_le (restP p).toNat; split <;> omega
      have HS := Lib.hid (fun w1 hE ha => write_Size p a c w1 hE hin.ok ha); have HIN := Lib.hid hin; have HRG := Lib.hid hrg; have hz : (((sizeN p : Nat) : Int) == 0) = false := beq_eq_false_iff_ne.2 (fun e => absurd (hsz.1 e) (by dsimp only at h0; omega)); clear hrg hin hx hsz hmx h0; generalize sizeN p = zz at *; go_wp2_with (first
        | ((with_reducible show wpList _ _ _ (⟨some 18, _, _, _, _, _⟩ :: _) _ _); refine wpList_load_mid rfl 33 _ rfl b (o + k * 24) rfl (pkC (p, a, c)) _ (range_low HRG.out hb HK.out.low) Tryz.underlying33 rfl (pk_size p a c) ?_)
        | ((with_reducible show wpList _ _ _ (⟨some 6, .alloc 33, _, _, _, _⟩ :: _) _ _); obtain ⟨i0, z0, hi0, hz0, hs0, hc0⟩ := infoPkt; refine wpList_new rfl 33 rfl _ rfl rfl _ _ rfl rfl i0 z0 hi0 hz0 (pkV p a c) hs0 hc0 (pk_one _ _ _) rfl rfl ?_; replace HK := Lib.hid (HK.out.alloc (pkV p a c) 33); clear i0 z0 hi0 hz0 hs0 hc0; generalize hgw : World.alloc _ _ = w5 at HK ⊢; clear hgw)
        | ((with_reducible show wpList _ _ _ (⟨_, .load 33 _, _, _, _, _⟩ :: _) _ _); refine wpList_load_box rfl 33 _ rfl _ rfl 33 _ (by (first | exact HK.out.at 0 rfl)) _ Tryz.underlying33 rfl (pk_size _ _ _) ?_)
        | (go_at_call 111; refine Calls.mono (HS.out _ HK.out.env (HIN.out.row.below HK.out.low)) ?_; rintro e w1 ⟨rfl, hb1⟩; replace HK := Lib.hid (HK.out.below hb1); clear hb1))
      go_roundw
      case rel => exact ⟨k + 1, by omega, by first | rfl | go_num, s + zz, by first | rfl | go_num, by omega, Lib.hid (HK.out.sub (List.nil_sublist _) (fun r hr => hr))⟩
      case measure => simp [intOf]; omega
    · have hk2 : k = T.length := by omega
      subst hk2; have hsb : s ≤ 90000000000 := by omega
      have hB := HK.out.size; go_wp2_with (at_make; refine wpList_make_own _ rfl _ _ _ rfl w.heap.size 5 i0 _ 1 Tryz.underlying22 hi hz0 hz1 .i64 .i64 _ s rfl rfl rfl (by rw [hz2]; omega) (by unfold maxLen; omega) hB ?_; intro w6 hown6 hg6; have HO := Lib.hid hown6; replace HK := Lib.hid (HK.out.below (below_none hg6)); clear hown6 hg6)
      clear hB; go_loopw [8, 31] (fun v i wr => ∃ k : Nat, k ≤ T.length ∧ i = .int .i64 k ∧ Hid (Out wr w.heap.size v (encAll (T.take k))) ∧ Hid (Keep w [] [] wr)) (fun _ i _ => T.length - (intOf i).toNat)
      case atStart => exact ⟨0, by omega, rfl, HO.out, HK⟩
      case round =>
        clear HO HK hk hlt hs hsb; obtain ⟨k, hk, rfl, HO, HK⟩ := hrel; by_cases hlt : k < T.length
        · obtain ⟨x, hx⟩ : ∃ x, T[k]? = some x := ⟨_, List.getElem?_eq_getElem hlt⟩
          have hin := HT.out x (List.mem_of_getElem? hx); have h0 := HV.out x (List.mem_of_getElem? hx); obtain ⟨b, o, hal, hrg, hb⟩ := pk_range HC.out hx; subst hal; have hen := HLE.out k; have hlk : (T.take k).length ≤ 300 := by rw [List.length_take]; omega
          have hll : (encAll (T.take k)).length ≤ 90000000000 := by omega
          have HSN := Lib.hid (encAll_snoc T k x hx); obtain ⟨p, a, c⟩ := x; dsimp only at h0
          have hqf : p.ty = 3 → p.qos ≤ 2 := fun h3 => (pub_parts h3 h0).2.1
          have hfl := flags_lt p hqf; have hty := rest_types h0; have HFB := Lib.hid (first_bits p.ty (by omega) (flagsN p) hfl); have hmx := restP_max p; have HRP := Lib.hid h0; obtain ⟨n, hn⟩ : ∃ n : Nat, restP p = (n : Int) := ⟨(restP p).toNat, by omega⟩
          have HEN := Lib.hid (show encB p = byteN (16 * p.ty + flagsN p) :: (lenB n ++ restB p) by unfold encB; rw [hn]; rfl); have hn2 : n ≤ 268435455 := by omega
          have hlz := lenS_le n; have hln : (bB (lenB n)).size ≤ 4 := by show (lenB n).length ≤ 4; rw [lenB_len n hn2]; omega
          have hR := fun w1 hE ha => packet_Rest p a c w1 hE hin.ok ha
          rw [hn] at hR; have HR := Lib.hid hR; have HL := Lib.hid (fun w1 => num_Len n hn2 w1); have HIN := Lib.hid hin; have HRG := Lib.hid hrg; have HQF := Lib.hid hqf; clear hrg hin hx hR hn h0 hmx hen hlk hlz hqf; obtain ⟨k0, k1, k2, k3, k4, k5, k6, k7, k8, k9, k10, k11, k12, k13, k14, k15, k16, k17, k18, k19, k20, k21, k22, k23⟩ := pk_at p a c; have hsz0 := HK.out.size; go_upto_region 15 with (first
            | ((with_reducible show wpList _ _ _ (⟨some 34, _, _, _, _, _⟩ :: _) _ _); refine wpList_load_mid rfl 33 _ rfl b (o + k * 24) rfl (pkC (p, a, c)) _ (range_low HRG.out hb HK.out.low) Tryz.underlying33 rfl (pk_size p a c) ?_)
            | ((with_reducible show wpList _ _ _ (⟨some 10, .alloc 33, _, _, _, _⟩ :: _) _ _); obtain ⟨i0, z0, hi0, hz0, hs0, hc0⟩ := infoPkt; refine wpList_new rfl 33 rfl _ rfl rfl _ _ rfl rfl i0 z0 hi0 hz0 (pkV p a c) hs0 hc0 (pk_one _ _ _) rfl rfl ?_; replace HK := Lib.hid (HK.out.alloc (pkV p a c) 33); clear i0 z0 hi0 hz0 hs0 hc0; replace HO := Lib.hid (HO.out.below ((Below.refl _ _).alloc (Nat.le_refl _) (.cells (pkV p a c) 33))); generalize hgw : World.alloc _ _ = w5 at HK HO ⊢; clear hgw)
            | ((with_reducible show wpList _ _ _ (⟨_, .load 33 _, _, _, _, _⟩ :: _) _ _); refine wpList_load_box rfl 33 _ rfl _ rfl 33 _ (by (first | exact HK.out.at 0 rfl)) _ Tryz.underlying33 rfl (pk_size _ _ _) ?_)
            | (go_at_call 100; refine Calls.mono (HR.out _ HK.out.env (HIN.out.row.below HK.out.low)) ?_; rintro e w1 ⟨rfl, hb1⟩; replace HK := Lib.hid (HK.out.below hb1); replace HO := Lib.hid (HO.out.below hb1); clear hb1)
            | (go_at_call 112; refine Calls.mono (HL.out _) ?_; rintro e w1 ⟨rfl, hb1⟩; replace HK := Lib.hid (HK.out.below hb1); replace HO := Lib.hid (HO.out.below hb1); clear hb1))
          have HB := Lib.hid (HK.out.at 0 rfl); have HU := Lib.hid (show OnlyU w.heap.size w _ from OnlyU.of_below HK.out.low); have hB : w.heap.size ≤ w.heap.size := Nat.le_refl _; have HX4 := Lib.hid (show ((encAll (T.take k)).length + 1) * 1 ≤ 140737488355328 by omega); have HX5 := Lib.hid (show (encAll (T.take k)).length + 1 ≤ maxLen by unfold maxLen; omega); have HCF := Lib.hid (show u8V [byteN (16 * p.ty + flagsN p)] = [.int .u8 (bits BinOp.or IntKind.u8 (IntKind.u8.wrap ((p.ty : Int) * 16)) (flagsN p : Int))] by
            rw [HFB.out]; have := u8V_snoc [] (16 * p.ty + flagsN p) (by omega); simpa [u8V] using this)
          clear HK; have hX := HB.out.cells; clear hX; refine wp_region_noPanic ?_; refine wp_region_held_drew (S := fun w' => BoxAt w' wr.heap.size (pkV p a c) 33) (by kernel_rfl) ?_ (fun hHeld => ?_)
          · (first | exact HB.out | exact HB.out.below (below_draws (n := 1) rfl))
          replace HB := Lib.hid hHeld; replace HO := Lib.hid (show Out (World.drew _) _ _ _ from HO.out.below (below_draws (n := 1) rfl)); replace HU := Lib.hid (show OnlyU _ _ (World.drew _) from HU.out.then (below_draws (n := 1) rfl)); generalize World.drew _ = wd at HB HO HU hHeld ⊢; refine wpAnyH_take (i := 0) (oi := ⟨some 41, _, _, _, _, _⟩) (v := ?_) rfl (by kernel_rfl) (by kernel_rfl) (by kernel_rfl) (fun _ _ _ h => h) (Or.inl ⟨by rfl, ?_⟩) (by assumption) ?_; rotate_left
          · (intro w hSw; (try dsimp only at hSw); have hXw := BoxAt.cells hSw; go_simp; try with_reducible rfl)
          try simp only [Act.put, List.setIfInBounds_toArray, List.set_cons_zero, List.set_cons_succ]
          refine wpAnyH_take (i := 1) (oi := ⟨some 42, _, _, _, _, _⟩) (v := ?_) rfl (by kernel_rfl) (by kernel_rfl) (by kernel_rfl) (fun _ _ _ h => h) (Or.inl ⟨by rfl, ?_⟩) (by assumption) ?_; rotate_left
          · (intro w hSw; (try dsimp only at hSw); have hXw := BoxAt.cells hSw; go_simp; try with_reducible rfl)
          try simp only [Act.put, List.setIfInBounds_toArray, List.set_cons_zero, List.set_cons_succ]
          refine wpAnyH_take (i := 2) (oi := ⟨some 43, _, _, _, _, _⟩) (v := ?_) rfl (by kernel_rfl) (by kernel_rfl) (by kernel_rfl) (fun _ _ _ h => h) (Or.inl ⟨by rfl, ?_⟩) (by assumption) ?_; rotate_left
          · (intro w hSw; (try dsimp only at hSw); have hXw := BoxAt.cells hSw; go_simp; try with_reducible rfl)
          try simp only [Act.put, List.setIfInBounds_toArray, List.set_cons_zero, List.set_cons_succ]
          refine wpAnyH_take (i := 3) (oi := ⟨some 44, _, _, _, _, _⟩) (v := ?_) rfl (by kernel_rfl) (by kernel_rfl) (by kernel_rfl) (fun _ _ _ h => h) (Or.inl ⟨by rfl, ?_⟩) (by assumption) ?_; rotate_left
          · (intro w hSw; (try dsimp only at hSw); have hXw := BoxAt.cells hSw; go_simp; try with_reducible rfl)
          try simp only [Act.put, List.setIfInBounds_toArray, List.set_cons_zero, List.set_cons_succ]
          refine wpAnyH_take (i := 4) (oi := ⟨some 45, _, _, _, _, _⟩) (v := .agg (pkV p a c)) rfl (by kernel_rfl) (by kernel_rfl) (by kernel_rfl) (fun _ _ _ h => h) (yields_load_box (by kernel_rfl) 33 _ rfl (wr.heap.size) rfl 33 (pkV p a c) _ (fun w h => h) Tryz.underlying33 rfl (pk_size _ _ _)) (by assumption) ?_; try simp only [Act.put, List.setIfInBounds_toArray, List.set_cons_zero, List.set_cons_succ]
          refine wpAnyH_ready (rs := [5]) (by kernel_rfl) (by simp) ?_; refine AllReadyH.cons (o := ⟨some 46, _, _, _, _, _⟩) rfl (fun K hK => ?_) AllReadyH.nil; go_simp
          (go_at_call 113; refine Calls.mono (write_flags p a c _ HQF.out) ?_; rintro e w9 ⟨rfl, hb9⟩; replace HB := Lib.hid (HB.out.below hb9); replace HO := Lib.hid (HO.out.below hb9); replace HU := Lib.hid (HU.out.then hb9); clear hb9; go_simp)
          refine hK.out _ _ ?_ (fun hHeld => ?_)
          · (first | exact HB.out | exact HB.out.below (below_draws (n := 1) rfl) | exact HB.out.below ((Below.refl _ _).alloc (Nat.le_refl _) _))
          clear hK K; replace HB := Lib.hid hHeld; try simp only [Act.put, List.setIfInBounds_toArray, List.set_cons_zero, List.set_cons_succ]
          refine wpAnyH_take (i := 6) (oi := ⟨some 47, _, _, _, _, _⟩) (v := ?_) rfl (by kernel_rfl) (by kernel_rfl) (by kernel_rfl) (fun _ _ _ h => h) (Or.inl ⟨by rfl, ?_⟩) (by assumption) ?_; rotate_left
          · (intro w hSw; (try dsimp only at hSw); have hXw := BoxAt.cells hSw; go_simp; try with_reducible rfl)
          try simp only [Act.put, List.setIfInBounds_toArray, List.set_cons_zero, List.set_cons_succ]
          refine wpAnyH_ready (rs := [7]) (by kernel_rfl) (by simp) ?_; refine AllReadyH.cons (o := ⟨some 48, _, _, _, _, _⟩) rfl (fun K hK => ?_) AllReadyH.nil; go_simp; skip; refine hK.out _ _ ?_ (fun hHeld => ?_)
          · (first | exact HB.out | exact HB.out.below (below_draws (n := 1) rfl) | exact HB.out.below ((Below.refl _ _).alloc (Nat.le_refl _) _))
          clear hK K; replace HB := Lib.hid hHeld; generalize hgw : World.alloc _ _ = w8 at hHeld ⊢; have HB := Lib.hid hHeld; have hal := al_below hgw; replace HO := Lib.hid (HO.out.below hal); replace HU := Lib.hid (HU.out.then hal); have HN := Lib.hid (newsL hgw); clear hgw hal; try simp only [Act.put, List.setIfInBounds_toArray, List.set_cons_zero, List.set_cons_succ]
          refine wpAnyH_ready (rs := [8]) (by kernel_rfl) (by simp) ?_; refine AllReadyH.cons (o := ⟨some 49, _, _, _, _, _⟩) rfl (fun K hK => ?_) AllReadyH.nil
          (refine step_append_cells rfl _ _ 22 rfl w.heap.size 5 i0 _ 1 1 Tryz.underlying22 hi hz0 hz1 hz2 rfl (by decide) _ _ _ rfl HO.out _ 1 1 (fun h => by cases h) _ rfl rfl HN.out (by intro u hu; simp only [List.mem_cons, List.not_mem_nil, or_false] at hu; subst hu; rfl) HX5.out HX4.out (Nat.le_trans hB HU.out.size) ?_; intro v9 w9 hown9 hg9; have hu9 := OnlyU.grown HO.out hg9; replace HB := Lib.hid (OnlyU.box hu9 HB.out (by decide)); replace HU := Lib.hid (HU.out.trans hu9); have HW9 := Lib.hid hown9; clear hown9 hg9 hu9 HO HN)
          refine hK.out _ _ ?_ (fun hHeld => ?_)
          · (first | exact HB.out | exact HB.out.below (below_draws (n := 1) rfl) | exact HB.out.below ((Below.refl _ _).alloc (Nat.le_refl _) _))
          clear hK K; replace HB := Lib.hid hHeld; try simp only [Act.put, List.setIfInBounds_toArray, List.set_cons_zero, List.set_cons_succ]
          refine wpAnyH_take (i := 9) (oi := ⟨some 8, _, _, _, _, _⟩) (v := ?_) rfl (by kernel_rfl) (by kernel_rfl) (by kernel_rfl) (fun _ _ _ h => h) (Or.inl ⟨by rfl, ?_⟩) (by assumption) ?_; rotate_left
          · (intro w hSw; (try dsimp only at hSw); have hXw := BoxAt.cells hSw; go_simp; try with_reducible rfl)
          try simp only [Act.put, List.setIfInBounds_toArray, List.set_cons_zero, List.set_cons_succ]
          refine wpAnyH_done (by kernel_rfl) ?_ _; refine NoPanic.normal ?_; clear HX4 HX5; have HO := Lib.hid (out_app HW9.out rfl HCF.out.symm); clear HCF HW9; have hl3 : (encAll (T.take k) ++ [byteN (16 * p.ty + flagsN p)]).length ≤ 90000000001 := by rw [List.length_append, List.length_singleton]; omega
          generalize hLL : encAll (T.take k) ++ [byteN (16 * p.ty + flagsN p)] = LL at HO hl3; have HLL := Lib.hid hLL; clear hLL; have hX := HB.out.cells; go_wp2_with (first
            | (at_builtin; have X1 := HO.out; have X3 := Nat.le_trans hB HU.out.size; refine (@Lib.wpList_append_own_string Tryz.prog _) rfl (.tmp 50) (.tmp 51) 22 9 rfl w.heap.size 5 i0 Tryz.underlying22 Tryz.underlying9 hi hz0 hz1 hz2 _ _ _ rfl X1 (bB (lenB n)) rfl (by unfold maxLen; omega) (by omega) X3 ?_; intro v9 w9 hown9 hg9 _; have hu9 := OnlyU.grown X1 hg9; have hO9 := out_append hown9; clear hown9 hg9 X1 X3; replace HB := Lib.hid (OnlyU.box hu9 HB.out (by decide)); replace HU := Lib.hid (HU.out.trans hu9); replace HO := Lib.hid hO9; clear hu9 hO9; replace hX := HB.out.cells)
            | ((with_reducible show wpList _ _ _ (⟨_, .load 33 _, _, _, _, _⟩ :: _) _ _); refine wpList_load_box rfl 33 _ rfl _ rfl 33 (pkV p a c) HB.out _ Tryz.underlying33 rfl (pk_size _ _ _) ?_)
            | (go_at_call 114; refine Calls.mono (write_rest p a c w.heap.size _ _ _ HIN.out.ok HO.out HU.out.size (by rw [List.length_append, blen]; omega) HRP.out (HIN.out.row.below (HU.out.low (Nat.le_refl _))) HIN.out.low) ?_; rintro e w9 ⟨v9, rfl, hO9, hu9⟩; replace HB := Lib.hid (OnlyU.box hu9 HB.out (by decide)); replace HU := Lib.hid (HU.out.trans hu9); replace HO := Lib.hid hO9; clear hu9 hO9))
          go_roundw
          case rel => exact ⟨k + 1, by omega, by first | rfl | go_num, out_eq HO.out (by rw [HSN.out, HEN.out, ← HLL.out]; simp only [bl_bB, List.append_assoc, List.cons_append, List.nil_append]), Lib.hid (keep_only HK0.out HU.out)⟩
          case measure => simp [intOf]; omega
        · have hk2 : k = T.length := by omega
          subst hk2; have hout := show Out wr w.heap.size u8 (encAll T) from by have := HO.out; simpa using this
          obtain ⟨a1, c1, hv, _, hcells⟩ := own_form hout; subst hv; rw [u8V_nat] at hcells; have kc := conv_nats (P := Tryz.prog) wr 22 5 Tryz.underlying22 Tryz.underlying5 a1 c1 _ (encAll T).length (by simp) hcells 9 Tryz.underlying9; rw [strN_u8] at kc; clear hout hcells HO; go_wp2_with fail
          go_ret2
          exact FIN.out _ _ rfl HK.out.low
end Go.Proofs.YtnnpokndajpkiaaGreatDoor
