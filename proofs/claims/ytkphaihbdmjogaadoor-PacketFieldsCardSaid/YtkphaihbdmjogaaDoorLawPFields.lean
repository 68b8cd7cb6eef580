/- The walk of PacketFields: a packet that may be may not be any more with a field another one that its type has not. Conditions: the decoder's tables lie as Go lays them; the packet's list in its cells. -/
import Derived.Test.YtkphaihbdmjogaaDoorLaw03More
import Derived.Test.YtkphaihbdmjogaaDoorCardPk
namespace Go.Proofs.YtkphaihbdmjogaaDoor
open Go.RowKit

theorem any_take'' (p : UInt8 → Bool) (L : Bs) (k : Nat) (x : UInt8) (hx : L[k]? = some x) : (L.take (k + 1)).any p = ((L.take k).any p || p x) := by
  rw [List.take_add_one, hx, List.any_append]; simp
theorem u8_beq' (x y : UInt8) : (((x.toNat : Int) == (y.toNat : Int))) = (x == y) := by
  rw [Bool.eq_iff_iff, beq_iff_eq, beq_iff_eq, Int.natCast_inj, UInt8.toNat_inj]
theorem b1s (x : UInt8) : (moreF.b1' [x]).size = 1 := rfl
theorem moreF_subs (p : Pk) (f : Nat) : (moreF p f).subs = p.subs := by
  unfold moreF
  split <;> rfl
theorem moreF_ok {p : Pk} {f : Nat} (h : Small p) (hp : PkOk p) : PkOk (moreF p f) := by
  have hs := h.parts
  have e8 : ∀ n : Nat, (n + 1) % 256 < 256 := fun n => Nat.mod_lt _ (by decide)
  have e16 : ∀ n : Nat, (n + 1) % 65536 < 65536 := fun n => Nat.mod_lt _ (by decide)
  have hz : ∀ (s : ByteArray) (x : UInt8), s.size ≤ 10000 → (s ++ moreF.b1' [x]).size ≤ 300000000 := fun s x hx => by rw [bsize, b1s]; omega
  obtain ⟨h1, h2, h3, h4, h5, h6, h7, h8, h9, h10, h11, h12, h13, h14, h15, h16, h17⟩ := hp
  unfold moreF
  split <;> (constructor <;> first | assumption | exact e8 _ | exact e16 _ | exact hz _ _ (by omega))
theorem subMore_ok {p : Pk} (h : Small p) (hp : PkOk p) : PkOk (subMore p) := by
  have hf := h.few
  obtain ⟨h1, h2, h3, h4, h5, h6, h7, h8, h9, h10, h11, h12, h13, h14, h15, h16, h17⟩ := hp
  constructor <;> first | assumption | (simp [subMore]; omega) | (intro x hx; simp only [subMore, List.mem_append, List.mem_singleton] at hx; rcases hx with hx | rfl; exact h17 x hx; exact ⟨by show 3 ≤ _; omega, by simp⟩)
theorem subMore_len (p : Pk) : (subMore p).subs.length = p.subs.length + 1 := by simp [subMore]
theorem subMore_cells (p : Pk) : subCells (subMore p).subs = subCells p.subs ++ subCells [(moreF.b1' [102, 47, 35], 0)] := subCells_append _ _
theorem pk_more (p : Pk) (a a' : Option Addr) (c c' : Nat) : (pkV p a c).setIfInBounds 22 (.slice a' (p.subs.length + 1) c') = pkV (subMore p) a' c' := by
  have h := subMore_len p
  unfold pkV
  rw [h]
  rfl
theorem restP_le' (p : Pk) : restP p ≤ 268435455 := by
  unfold restP restOf
  split <;> omega
def letters : ByteArray := ⟨#[48, 49, 50, 51, 52, 53, 54, 55, 56, 57, 97, 98, 99, 100, 101, 102]⟩
def letterB (t : Nat) : UInt8 := (bl letters).getD t 0
def itsB (f t : Nat) : Bool := (bl (kindsB f)).any (· == letterB t)
theorem its_iff : ∀ f, f < 18 → ∀ t, t < 15 → 1 ≤ t → itsB f t = decide (t ∈ typesF f) := by
  decide +kernel
theorem letter_at : ∀ t, t < 15 → letters[t]? = some (letterB t) := by decide +kernel
set_option maxRecDepth 100000 in
set_option maxHeartbeats 2000000 in
theorem law03_PacketFields (p : Pk) (a : Option Addr) (c f8 : Nat) (w : World) (hE : Env w) (hq : PkArg w p a c) (hf8 : f8 < 256) : Calls Tryd.prog 6 #[.agg (pkV p a c), .int .u8 (f8 : Int)] w fun e w' => e = .returned (.bool true) ∧ Below w.heap.size w w' := by
  have ht := hq.ty
  have ha := hq.row
  have hnil := hq.nil
  clear hq
  have HK := Lib.hid ((Keep.begin hE [(a, subCells p.subs)] (by intro r hr; simp at hr; subst hr; exact ha)).alloc' (pkV p a c) 27 w.heap.size rfl)
  have hG := fun w1 ha => law03_Great p a c w1 ha
  clear hE ha
  obtain ⟨g, hg⟩ : ∃ g, greatB p = g := ⟨_, rfl⟩
  rw [hg] at hG
  have HG := Lib.hid hG
  clear hG
  cases g
  · have hsm := small_of hg
    have hp := hsm.ok ht
    have hle := restP_le' p
    have hge := restP_ge p
    have hR := fun w1 hE ha => packet_Rest p a c w1 hE hp ha
    obtain ⟨k0, k1, k2, k3, k4, k5, k6, k7, k8, k9, k10, k11, k12, k13, k14, k15, k16, k17, k18, k19, k20, k21, k22, k23⟩ := pk_at p a c
    by_cases h0 : 0 ≤ restP p
    · have hty := rest_types h0
      have hf : f8 % 18 < 18 := Nat.mod_lt _ (by decide)
      have hfe : (f8 : Int) % 18 = ((f8 % 18 : Nat) : Int) := by omega
      have hM := fun w1 hE => law03_more p a c (f8 % 18) w1 hE hp hf
      have hS := sub_more p hsm h0
      have hI := its_iff (f8 % 18) hf p.ty (by omega) hty.1
      have hB := more_bad p ht h0 (f8 % 18)
      have hN := more_ne p ht (f8 % 18)
      have hLE := letter_at p.ty (by omega)
      have hte : (p.ty : Int) % 16 = (p.ty : Int) := by omega
      generalize f8 % 18 = f at *
      have HR := Lib.hid hR
      have HM := Lib.hid hM
      have HI := Lib.hid hI
      have HB := Lib.hid hB
      have HN := Lib.hid hN
      have HS := Lib.hid hS
      have HT := Lib.hid ht
      have HP := Lib.hid hp
      have HSM := Lib.hid hsm
      clear hR hM hI hB hN hS ht hp hsm hg
      generalize hr : restP p = n at *
      have HRN := Lib.hid hr
      clear hr
      go_enter Tryd.func6, Tryd.ntmps6
      go_wp2_with (first
        | ((with_reducible show wpList _ _ _ (⟨some 13, _, _, _, _, _⟩ :: _) _ _); refine wpList_load_box rfl 27 _ rfl _ rfl 27 _ (HK.out.at 0 rfl) _ Tryd.underlying27 rfl (pk_size _ _ _) ?_)
        | ((with_reducible show wpList _ _ _ (⟨some 16, _, _, _, _, _⟩ :: _) _ _); refine wpList_load_box rfl 27 _ rfl _ rfl 27 _ (HK.out.at 0 rfl) _ Tryd.underlying27 rfl (pk_size _ _ _) ?_)
        | ((with_reducible show wpList _ _ _ (⟨some 31, _, _, _, _, _⟩ :: _) _ _); refine wpList_load_box rfl 27 _ rfl _ rfl 27 _ (HK.out.at 0 rfl) _ Tryd.underlying27 rfl (pk_size _ _ _) ?_)
        | (go_at_call 17; refine Calls.mono (HG.out _ (HK.out.rowAt 0 rfl)) ?_; rintro e w1 ⟨rfl, hb1⟩; replace HK := Lib.hid (HK.out.below hb1); clear hb1)
        | (go_at_call 20; have hE9 := HK.out.env; have hC9 := HK.out.rowAt 0 rfl; (with_reducible refine Calls.mono (HR.out _ hE9 hC9) ?_); rintro e w1 ⟨rfl, hb1⟩; clear hE9 hC9; replace HK := Lib.hid (HK.out.below hb1); clear hb1)
        | (go_at_call 26; refine Calls.mono (HM.out _ HK.out.env) ?_; rintro e w1 ⟨rfl, hb1⟩; replace HK := Lib.hid (HK.out.below hb1); clear hb1)
        | ((with_reducible show wpList _ _ _ (⟨some 6, .alloc 27, _, _, _, _⟩ :: _) _ _); obtain ⟨i0, z0, hi0, hz0, hs0, hc0⟩ := infoPkt; refine wpList_new rfl 27 rfl _ rfl rfl _ _ rfl rfl i0 z0 hi0 hz0 (pkV (moreF p f) a c) hs0 hc0 (pk_one _ _ _) rfl rfl ?_; replace HK := Lib.hid (HK.out.alloc (pkV (moreF p f) a c) 27); clear i0 z0 hi0 hz0 hs0 hc0; generalize hgw : World.alloc _ _ = w5 at HK ⊢; clear hgw; have hX1 := (HK.out.at 1 rfl).cells))
      have hz : p.ty < (ByteArray.mk #[48, 49, 50, 51, 52, 53, 54, 55, 56, 57, 97, 98, 99, 100, 101, 102]).size := by show p.ty < 16; omega
      have HLE := Lib.hid hLE
      clear hLE
      generalize hx : (ByteArray.mk #[48, 49, 50, 51, 52, 53, 54, 55, 56, 57, 97, 98, 99, 100, 101, 102])[p.ty]'hz = x
      have HXX := Lib.hid (show x = letterB p.ty by
        have h1 := HLE.out
        unfold letters at h1
        rw [getElem?_pos (ByteArray.mk #[48, 49, 50, 51, 52, 53, 54, 55, 56, 57, 97, 98, 99, 100, 101, 102]) p.ty hz, hx] at h1
        exact Option.some.inj h1)
      clear hx hz
      have hkz : (kindsB f).size ≤ 100 := by unfold kindsB; (repeat' split) <;> decide
      have HIK := Lib.hid (show itsB f p.ty = (bl (kindsB f)).any (· == x) by unfold itsB; rw [HXX.out])
      generalize kindsB f = kd at *
      go_loopw [9, 10] (fun y i wr => ∃ k : Nat, k ≤ kd.size ∧ i = .int .i64 k ∧ ∃ v : Bool, y = .bool v ∧ Hid (v = ((bl kd).take k).any (· == x)) ∧ w5 = wr) (fun _ i _ => kd.size - (intOf i).toNat)
      case atStart => exact ⟨0, by omega, rfl, false, rfl, rfl, rfl⟩
      case round =>
        obtain ⟨k, hk, rfl, v, rfl, HV, rfl⟩ := hrel
        by_cases hlt : k < kd.size
        · have hx := get_bl kd k hlt
          have hs1 := any_take'' (· == x) (bl kd) k _ hx
          have e1 : (((kd[k]'hlt).toNat : Int) == (x.toNat : Int)) = ((kd[k]'hlt) == x) := u8_beq' _ _
          rw [← HV.out] at hs1
          have H1 := Lib.hid hs1
          clear hs1 hx HV
          cases hb : ((kd[k]'hlt) == x) <;> cases v
          all_goals
            rw [hb] at e1
            have H3 := Lib.hid hb
            clear hb
            go_wp2_with fail
            go_roundw
            case rel => exact ⟨k + 1, by omega, by first | rfl | go_num, _, rfl, by rw [Hid, H1.out, H3.out]; rfl, by first | rfl | trivial⟩
            case measure => simp [intOf]; omega
        · have hk2 : k = kd.size := by omega
          have HV2 := Lib.hid (show v = decide (p.ty ∈ typesF f) by
            have := HV.out
            rw [hk2, ← bl_len, List.take_length] at this
            rw [this, ← HIK.out, HI.out])
          subst hk2
          clear HV HIK HI HLE HXX hX1
          have okQ := moreF_ok (f := f) HSM.out HP.out
          have hSP := fun w1 hE (ha : CellsA w1 a (subCells p.subs)) => packet_Same p (moreF p f) a a c c w1 hE HP.out okQ ha (moreF_subs p f ▸ ha)
          rw [show decide (p = moreF p f) = false from decide_eq_false HN.out] at hSP
          have HSP := Lib.hid hSP
          have HCP := Lib.hid (fun w1 hE ha => packet_Copy p a c w1 hE HP.out hnil ha)
          have hRS := fun w1 a' c' hE ha => packet_Rest (subMore p) a' c' w1 hE (subMore_ok HSM.out HP.out) ha
          rw [HS.out] at hRS
          have hfew := HP.out.few
          have hLN := subMore_len p
          clear hSP
          obtain ⟨i0, hi, hz0, hz1, hz2⟩ := info_parts infoSub
          have hway : (p.ty = 8 ∧ ((p.ty : Int) == 8) = true ∧ (if p.ty = 8 then n + 6 else if p.ty = 10 then n + 5 else -1) = n + 6) ∨ (p.ty ≠ 8 ∧ ((p.ty : Int) == 8) = false ∧ ((p.ty : Int) == 10) = true ∧ (if p.ty = 8 then n + 6 else if p.ty = 10 then n + 5 else -1) = n + 5) ∨ (p.ty ≠ 8 ∧ ((p.ty : Int) == 8) = false ∧ ((p.ty : Int) == 10) = false ∧ (if p.ty = 8 then n + 6 else if p.ty = 10 then n + 5 else -1) = -1) := by
            by_cases h8 : p.ty = 8
            · left; exact ⟨h8, by rw [h8]; rfl, by rw [if_pos h8]⟩
            · right
              by_cases h10 : p.ty = 10
              · left; exact ⟨h8, by rw [beq_eq_false_iff_ne]; omega, by rw [h10]; rfl, by rw [if_neg h8, if_pos h10]⟩
              · right; exact ⟨h8, by rw [beq_eq_false_iff_ne]; omega, by rw [beq_eq_false_iff_ne]; omega, by rw [if_neg h8, if_neg h10]⟩
          rcases hway with ⟨_, e8, hv⟩ | ⟨_, e8, e10, hv⟩ | ⟨_, e8, e10, hv⟩
          all_goals
            rw [hv] at hRS
            have HRS := Lib.hid hRS
            clear hv hRS
            cases v
            · have hqb : restP (moreF p f) < 0 := HB.out (by
                have := HV2.out
                simpa using this.symm)
              have hRQ := fun w1 hE (ha : CellsA w1 a (subCells p.subs)) => packet_Right (moreF p f) a c w1 hE okQ (moreF_subs p f ▸ ha)
              rw [show decide (0 ≤ restP (moreF p f)) = false from decide_eq_false (by omega)] at hRQ
              have HRQ := Lib.hid hRQ
              clear hRQ hqb okQ
              go_wp2_with (first
        | ((with_reducible show wpList _ _ _ (⟨some 59, _, _, _, _, _⟩ :: _) _ _); refine wpList_load_boxG (by kernel_rfl) 27 _ rfl _ rfl 27 _ (by (first | exact HK.out.at 0 rfl | exact HK.out.at 1 rfl)) _ Tryd.underlying27 rfl (pk_size _ _ _) ?_)
        | ((with_reducible show wpList _ _ _ (⟨some 63, _, _, _, _, _⟩ :: _) _ _); refine wpList_load_boxG (by kernel_rfl) 27 _ rfl _ rfl 27 _ (by (first | exact HK.out.at 0 rfl | exact HK.out.at 1 rfl)) _ Tryd.underlying27 rfl (pk_size _ _ _) ?_)
        | ((with_reducible show wpList _ _ _ (⟨some 64, _, _, _, _, _⟩ :: _) _ _); refine wpList_load_boxG (by kernel_rfl) 27 _ rfl _ rfl 27 _ (by (first | exact HK.out.at 0 rfl | exact HK.out.at 1 rfl)) _ Tryd.underlying27 rfl (pk_size _ _ _) ?_)
        | (go_at_call 18; have hE9 := HK.out.env; have hC9 := HK.out.rowAt 0 rfl; (with_reducible refine Calls.mono (HRQ.out _ hE9 hC9) ?_); rintro e w1 ⟨rfl, hb1⟩; clear hE9 hC9; replace HK := Lib.hid (HK.out.below hb1); clear hb1)
        | (go_at_call 24; have hE9 := HK.out.env; have hC9 := HK.out.rowAt 0 rfl; (with_reducible refine Calls.mono (HSP.out _ hE9 hC9) ?_); rintro e w1 ⟨rfl, hb1⟩; clear hE9 hC9; replace HK := Lib.hid (HK.out.below hb1); clear hb1)
        | ((with_reducible show wpList _ _ _ (⟨some 67, _, _, _, _, _⟩ :: _) _ _); refine wpList_load_box rfl 27 _ rfl _ rfl 27 _ (HK.out.at 1 rfl) _ Tryd.underlying27 rfl (pk_size _ _ _) ?_)
        | (go_at_call 23; refine Calls.mono (HCP.out _ HK.out.env (HK.out.rowAt 0 rfl)) ?_; rintro e w6 ⟨a9, c9, rfl, hown, hb1⟩; have HO := Lib.hid (own_base hown HK.out.size); clear hown; replace HK := Lib.hid (HK.out.below hb1); clear hb1)
        | ((with_reducible show wpList _ _ _ (⟨some 11, .alloc 27, _, _, _, _⟩ :: _) _ _); obtain ⟨i0, z0, hi0, hz0, hs0, hc0⟩ := infoPkt; refine wpList_new rfl 27 rfl _ rfl rfl _ _ rfl rfl i0 z0 hi0 hz0 (pkV p a9 c9) hs0 hc0 (pk_one _ _ _) rfl rfl ?_; replace HK := Lib.hid (HK.out.alloc (pkV p a9 c9) 27); clear i0 z0 hi0 hz0 hs0 hc0; replace HO := Lib.hid (HO.out.alloc (.cells (pkV p a9 c9) 27)); generalize hgw : World.alloc _ _ = w7 at HK HO ⊢; clear hgw; have hX0 := (HK.out.at 0 rfl).cells; have hF0 := (HK.out.at 0 rfl).frozen; have hX2 := (HK.out.at 2 rfl).cells; obtain ⟨_, _, _, _, _, _, _, _, _, _, _, _, _, _, _, _, _, _, _, _, _, _, n22, _⟩ := pk_at p a9 c9)
        | ((with_reducible show wpList _ _ _ (⟨some 72, .buildSlice _ _ _, _, _, _, _⟩ :: _) _ _); refine Great.wpList_buildSliceTo rfl 25 31 1 _ rfl _ rfl _ rfl Tryd.underlying25 (List.toArray (subCells [(moreF.b1' [102, 47, 35], 0)])) (by kernel_rfl) ?_; have hlz := HK.out.lt (x := _) (List.mem_of_getElem? (i := 0) rfl); replace HO := Lib.hid (HO.out.alloc (.cells (List.toArray (subCells [(moreF.b1' [102, 47, 35], 0)])) 31)); replace HK := Lib.hid (HK.out.allocRow (subCells [(moreF.b1' [102, 47, 35], 0)]) 31); generalize hgw : World.alloc _ _ = w8 at HK HO ⊢; clear hgw)
        | (at_builtin; refine wpList_append_cells rfl _ _ 25 rfl w.heap.size 31 i0 _ 2 24 Tryd.underlying25 hi hz0 hz1 hz2 rfl (by decide) (.slice a9 p.subs.length c9) p.subs.length (subCells p.subs) rfl HO.out (some ⟨w7.heap.size, 0, none⟩) 1 1 (fun h => by cases h) (subCells [(moreF.b1' [102, 47, 35], 0)]) rfl rfl (HK.out.rowAt 0 rfl) (subCells_one _) (by unfold maxLen; omega) (by omega) HK.out.size ?_; intro v9 w9 hown9 hg9; replace HK := Lib.hid ((HK.out.sub (R' := []) (List.Sublist.refl _) (by intro r hr; cases hr)).grown hg9 (fun g hg => (own_lt HO.out hg).2) (by intro g hg x hx; simp only [List.mem_cons, List.not_mem_nil, or_false] at hx; rcases hx with rfl | rfl | rfl; exact (HK.out.at 0 rfl).ne_own HO.out (by decide) g hg; exact (HK.out.at 1 rfl).ne_own HO.out (by decide) g hg; exact (HK.out.at 2 rfl).ne_own HO.out (by decide) g hg) (by intro r hr; cases hr)); replace HO := Lib.hid hown9; obtain ⟨a10, c10, hv9, _, _⟩ := own_form hown9; subst hv9; clear hown9 hg9; replace hX0 := (HK.out.at 0 rfl).cells; replace hF0 := (HK.out.at 0 rfl).frozen; replace hX2 := (HK.out.at 2 rfl).cells)
        | ((with_reducible show wpList _ _ _ (⟨some 75, _, _, _, _, _⟩ :: _) _ _); replace HO := Lib.hid (own_only HO.out (Only.setCell (F := fun j => j = w6.heap.size) (Only.refl _ _) (p := ⟨w6.heap.size, 22, none⟩) (Or.inl rfl) (.slice a10 (p.subs.length + 1) c10)) ((HK.out.at 0 rfl).ne_own HO.out (by decide))); replace HK := Lib.hid (HK.out.set (i := 0) rfl 22 _ (pk_more p a9 a10 c9 c10)); generalize World.setCell w9 _ _ = w10 at HK HO ⊢; refine wpList_load_box rfl 27 _ rfl _ rfl 27 _ (HK.out.at 0 rfl) _ Tryd.underlying27 rfl (pk_size _ _ _) ?_; clear hX0 hF0 hX2)
        | (go_at_call 20; refine Calls.mono (HRS.out _ a10 c10 HK.out.env (by rw [subMore_cells]; exact own_cells HO.out)) ?_; rintro e w1 ⟨rfl, hb1⟩; replace HK := Lib.hid (HK.out.below hb1); clear hb1; have hX2 := (HK.out.at 2 rfl).cells)
        | (go_at_call 16; refine Calls.mono (law03_awake _ HK.out.env) ?_; rintro e w1 ⟨rfl, hb1⟩; replace HK := Lib.hid (HK.out.below hb1); clear hb1))
              go_ret
              exact ⟨rfl, HK.out.low⟩
            · clear okQ
              go_wp2_with (first
        | ((with_reducible show wpList _ _ _ (⟨some 63, _, _, _, _, _⟩ :: _) _ _); refine wpList_load_boxG (by kernel_rfl) 27 _ rfl _ rfl 27 _ (by (first | exact HK.out.at 0 rfl | exact HK.out.at 1 rfl)) _ Tryd.underlying27 rfl (pk_size _ _ _) ?_)
        | ((with_reducible show wpList _ _ _ (⟨some 64, _, _, _, _, _⟩ :: _) _ _); refine wpList_load_boxG (by kernel_rfl) 27 _ rfl _ rfl 27 _ (by (first | exact HK.out.at 0 rfl | exact HK.out.at 1 rfl)) _ Tryd.underlying27 rfl (pk_size _ _ _) ?_)
        | (go_at_call 24; have hE9 := HK.out.env; have hC9 := HK.out.rowAt 0 rfl; (with_reducible refine Calls.mono (HSP.out _ hE9 hC9) ?_); rintro e w1 ⟨rfl, hb1⟩; clear hE9 hC9; replace HK := Lib.hid (HK.out.below hb1); clear hb1)
        | ((with_reducible show wpList _ _ _ (⟨some 67, _, _, _, _, _⟩ :: _) _ _); refine wpList_load_box rfl 27 _ rfl _ rfl 27 _ (HK.out.at 1 rfl) _ Tryd.underlying27 rfl (pk_size _ _ _) ?_)
        | (go_at_call 23; refine Calls.mono (HCP.out _ HK.out.env (HK.out.rowAt 0 rfl)) ?_; rintro e w6 ⟨a9, c9, rfl, hown, hb1⟩; have HO := Lib.hid (own_base hown HK.out.size); clear hown; replace HK := Lib.hid (HK.out.below hb1); clear hb1)
        | ((with_reducible show wpList _ _ _ (⟨some 11, .alloc 27, _, _, _, _⟩ :: _) _ _); obtain ⟨i0, z0, hi0, hz0, hs0, hc0⟩ := infoPkt; refine wpList_new rfl 27 rfl _ rfl rfl _ _ rfl rfl i0 z0 hi0 hz0 (pkV p a9 c9) hs0 hc0 (pk_one _ _ _) rfl rfl ?_; replace HK := Lib.hid (HK.out.alloc (pkV p a9 c9) 27); clear i0 z0 hi0 hz0 hs0 hc0; replace HO := Lib.hid (HO.out.alloc (.cells (pkV p a9 c9) 27)); generalize hgw : World.alloc _ _ = w7 at HK HO ⊢; clear hgw; have hX0 := (HK.out.at 0 rfl).cells; have hF0 := (HK.out.at 0 rfl).frozen; have hX2 := (HK.out.at 2 rfl).cells; obtain ⟨_, _, _, _, _, _, _, _, _, _, _, _, _, _, _, _, _, _, _, _, _, _, n22, _⟩ := pk_at p a9 c9)
        | ((with_reducible show wpList _ _ _ (⟨some 72, .buildSlice _ _ _, _, _, _, _⟩ :: _) _ _); refine Great.wpList_buildSliceTo rfl 25 31 1 _ rfl _ rfl _ rfl Tryd.underlying25 (List.toArray (subCells [(moreF.b1' [102, 47, 35], 0)])) (by kernel_rfl) ?_; have hlz := HK.out.lt (x := _) (List.mem_of_getElem? (i := 0) rfl); replace HO := Lib.hid (HO.out.alloc (.cells (List.toArray (subCells [(moreF.b1' [102, 47, 35], 0)])) 31)); replace HK := Lib.hid (HK.out.allocRow (subCells [(moreF.b1' [102, 47, 35], 0)]) 31); generalize hgw : World.alloc _ _ = w8 at HK HO ⊢; clear hgw)
        | (at_builtin; refine wpList_append_cells rfl _ _ 25 rfl w.heap.size 31 i0 _ 2 24 Tryd.underlying25 hi hz0 hz1 hz2 rfl (by decide) (.slice a9 p.subs.length c9) p.subs.length (subCells p.subs) rfl HO.out (some ⟨w7.heap.size, 0, none⟩) 1 1 (fun h => by cases h) (subCells [(moreF.b1' [102, 47, 35], 0)]) rfl rfl (HK.out.rowAt 0 rfl) (subCells_one _) (by unfold maxLen; omega) (by omega) HK.out.size ?_; intro v9 w9 hown9 hg9; replace HK := Lib.hid ((HK.out.sub (R' := []) (List.Sublist.refl _) (by intro r hr; cases hr)).grown hg9 (fun g hg => (own_lt HO.out hg).2) (by intro g hg x hx; simp only [List.mem_cons, List.not_mem_nil, or_false] at hx; rcases hx with rfl | rfl | rfl; exact (HK.out.at 0 rfl).ne_own HO.out (by decide) g hg; exact (HK.out.at 1 rfl).ne_own HO.out (by decide) g hg; exact (HK.out.at 2 rfl).ne_own HO.out (by decide) g hg) (by intro r hr; cases hr)); replace HO := Lib.hid hown9; obtain ⟨a10, c10, hv9, _, _⟩ := own_form hown9; subst hv9; clear hown9 hg9; replace hX0 := (HK.out.at 0 rfl).cells; replace hF0 := (HK.out.at 0 rfl).frozen; replace hX2 := (HK.out.at 2 rfl).cells)
        | ((with_reducible show wpList _ _ _ (⟨some 75, _, _, _, _, _⟩ :: _) _ _); replace HO := Lib.hid (own_only HO.out (Only.setCell (F := fun j => j = w6.heap.size) (Only.refl _ _) (p := ⟨w6.heap.size, 22, none⟩) (Or.inl rfl) (.slice a10 (p.subs.length + 1) c10)) ((HK.out.at 0 rfl).ne_own HO.out (by decide))); replace HK := Lib.hid (HK.out.set (i := 0) rfl 22 _ (pk_more p a9 a10 c9 c10)); generalize World.setCell w9 _ _ = w10 at HK HO ⊢; refine wpList_load_box rfl 27 _ rfl _ rfl 27 _ (HK.out.at 0 rfl) _ Tryd.underlying27 rfl (pk_size _ _ _) ?_; clear hX0 hF0 hX2)
        | (go_at_call 20; refine Calls.mono (HRS.out _ a10 c10 HK.out.env (by rw [subMore_cells]; exact own_cells HO.out)) ?_; rintro e w1 ⟨rfl, hb1⟩; replace HK := Lib.hid (HK.out.below hb1); clear hb1; have hX2 := (HK.out.at 2 rfl).cells)
        | (go_at_call 16; refine Calls.mono (law03_awake _ HK.out.env) ?_; rintro e w1 ⟨rfl, hb1⟩; replace HK := Lib.hid (HK.out.below hb1); clear hb1))
              go_ret
              exact ⟨rfl, HK.out.low⟩
    · have hneg := restP_neg p (by omega)
      have hRT := fun w1 hE ha => packet_Right p a c w1 hE hp ha
      rw [hneg] at hR hRT
      have HR := Lib.hid hR
      have HRT := Lib.hid hRT
      clear hR hRT hp hsm hg ht h0 hneg hle hge
      go_enter Tryd.func6, Tryd.ntmps6
      go_wp2_with (first
        | ((with_reducible show wpList _ _ _ (⟨some 13, _, _, _, _, _⟩ :: _) _ _); refine wpList_load_box rfl 27 _ rfl _ rfl 27 _ (HK.out.at 0 rfl) _ Tryd.underlying27 rfl (pk_size _ _ _) ?_)
        | ((with_reducible show wpList _ _ _ (⟨some 16, _, _, _, _, _⟩ :: _) _ _); refine wpList_load_box rfl 27 _ rfl _ rfl 27 _ (HK.out.at 0 rfl) _ Tryd.underlying27 rfl (pk_size _ _ _) ?_)
        | ((with_reducible show wpList _ _ _ (⟨some 23, _, _, _, _, _⟩ :: _) _ _); refine wpList_load_boxG (by kernel_rfl) 27 _ rfl _ rfl 27 _ (by (first | exact HK.out.at 0 rfl)) _ Tryd.underlying27 rfl (pk_size _ _ _) ?_)
        | (go_at_call 17; refine Calls.mono (HG.out _ (HK.out.rowAt 0 rfl)) ?_; rintro e w1 ⟨rfl, hb1⟩; replace HK := Lib.hid (HK.out.below hb1); clear hb1)
        | (go_at_call 20; have hE9 := HK.out.env; have hC9 := HK.out.rowAt 0 rfl; (with_reducible refine Calls.mono (HR.out _ hE9 hC9) ?_); rintro e w1 ⟨rfl, hb1⟩; clear hE9 hC9; replace HK := Lib.hid (HK.out.below hb1); clear hb1)
        | (go_at_call 18; have hE9 := HK.out.env; have hC9 := HK.out.rowAt 0 rfl; (with_reducible refine Calls.mono (HRT.out _ hE9 hC9) ?_); rintro e w1 ⟨rfl, hb1⟩; clear hE9 hC9; replace HK := Lib.hid (HK.out.below hb1); clear hb1)
        | (go_at_call 16; refine Calls.mono (law03_awake _ HK.out.env) ?_; rintro e w1 ⟨rfl, hb1⟩; replace HK := Lib.hid (HK.out.below hb1); clear hb1))
      go_ret
      exact ⟨rfl, HK.out.low⟩
  · clear hg ht
    go_enter Tryd.func6, Tryd.ntmps6
    go_wp2_with (first
        | ((with_reducible show wpList _ _ _ (⟨some 13, _, _, _, _, _⟩ :: _) _ _); refine wpList_load_box rfl 27 _ rfl _ rfl 27 _ (HK.out.at 0 rfl) _ Tryd.underlying27 rfl (pk_size _ _ _) ?_)
        | (go_at_call 17; refine Calls.mono (HG.out _ (HK.out.rowAt 0 rfl)) ?_; rintro e w1 ⟨rfl, hb1⟩; replace HK := Lib.hid (HK.out.below hb1); clear hb1)
        | (go_at_call 16; refine Calls.mono (law03_awake _ HK.out.env) ?_; rintro e w1 ⟨rfl, hb1⟩; replace HK := Lib.hid (HK.out.below hb1); clear hb1))
    go_ret
    exact ⟨rfl, HK.out.low⟩
end Go.Proofs.YtkphaihbdmjogaaDoor
