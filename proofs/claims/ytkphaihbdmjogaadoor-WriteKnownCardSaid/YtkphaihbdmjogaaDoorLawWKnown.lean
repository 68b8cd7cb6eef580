/- The walk of WriteKnown, a closed statement. Conditions: the decoder's tables lie as Go lays them. -/
import Derived.Test.YtkphaihbdmjogaaDoorPlainRow
import Derived.Test.YtkphaihbdmjogaaDoorGuards
import Derived.Test.YtkphaihbdmjogaaDoorPacketSame
namespace Go.Proofs.YtkphaihbdmjogaaDoor
open Go.RowKit
def xF : Pk := { Pk.zero with ty := 1, level := 4, hasWill := true, wtopic := b1 [119], wpayload := b1 [0, 112], wqos := 2, wret := true, hasUser := true, user := b1 [117], hasPass := true, pass := b1 [255] }
theorem xF_ok : PkOk xF := by constructor <;> first | decide | (intro x hx; cases hx)
theorem xF_r : 0 ≤ restP xF := by decide +kernel
theorem xF_s : encS xF = b1 [16, 25, 0, 4, 77, 81, 84, 84, 4, 244, 0, 0, 0, 0, 0, 1, 119, 0, 2, 0, 112, 0, 1, 117, 0, 1, 255] := by kernel_rfl
def xA : Pk := { Pk.zero with ty := 2, present := true }
theorem xA_ok : PkOk xA := by constructor <;> first | decide | (intro x hx; cases hx)
theorem xA_r : 0 ≤ restP xA := by decide +kernel
theorem xA_s : encS xA = b1 [32, 2, 1, 0] := by kernel_rfl
def xB : Pk := { Pk.zero with ty := 2, code := 2 }
theorem xB_ok : PkOk xB := by constructor <;> first | decide | (intro x hx; cases hx)
theorem xB_r : 0 ≤ restP xB := by decide +kernel
theorem xB_s : encS xB = b1 [32, 2, 0, 2] := by kernel_rfl
def xC : Pk := { Pk.zero with ty := 3, topic := b1 [97], qos := 2, id := 258, dup := true }
theorem xC_ok : PkOk xC := by constructor <;> first | decide | (intro x hx; cases hx)
theorem xC_r : 0 ≤ restP xC := by decide +kernel
theorem xC_s : encS xC = b1 [60, 5, 0, 1, 97, 1, 2] := by kernel_rfl
def xD : Pk := { Pk.zero with ty := 3, topic := b1 [97] }
theorem xD_ok : PkOk xD := by constructor <;> first | decide | (intro x hx; cases hx)
theorem xD_r : 0 ≤ restP xD := by decide +kernel
theorem xD_s : encS xD = b1 [48, 3, 0, 1, 97] := by kernel_rfl
def xE : Pk := { Pk.zero with ty := 8, id := 1, subs := [(b1 [97, 47, 43], 2)] }
theorem xE_ok : PkOk xE := by
  constructor
  all_goals first | decide | (intro x hx; unfold xE at hx; simp at hx; rcases hx with rfl <;> decide)
theorem xE_r : 0 ≤ restP xE := by decide +kernel
theorem xE_s : encS xE = b1 [130, 8, 0, 1, 0, 3, 97, 47, 43, 2] := by kernel_rfl
def xG : Pk := { Pk.zero with ty := 10, id := 1, subs := [(b1 [35], 0), (b1 [98], 0)] }
theorem xG_ok : PkOk xG := by
  constructor
  all_goals first | decide | (intro x hx; unfold xG at hx; simp at hx; rcases hx with rfl | rfl <;> decide)
theorem xG_r : 0 ≤ restP xG := by decide +kernel
theorem xG_s : encS xG = b1 [162, 8, 0, 1, 0, 1, 35, 0, 1, 98] := by kernel_rfl
def xH : Pk := { Pk.zero with ty := 9, id := 1, codes := b1 [2, 128] }
theorem xH_ok : PkOk xH := by constructor <;> first | decide | (intro x hx; cases hx)
theorem xH_r : 0 ≤ restP xH := by decide +kernel
theorem xH_s : encS xH = b1 [144, 4, 0, 1, 2, 128] := by kernel_rfl
def xI0 : Pk := { Pk.zero with ty := 4, id := 513 }
theorem xI0_ok : PkOk xI0 := by constructor <;> first | decide | (intro x hx; cases hx)
theorem xI0_r : 0 ≤ restP xI0 := by decide +kernel
theorem xI0_s : encS xI0 = b1 [64, 2, 2, 1] := by kernel_rfl
def xI1 : Pk := { Pk.zero with ty := 5, id := 513 }
theorem xI1_ok : PkOk xI1 := by constructor <;> first | decide | (intro x hx; cases hx)
theorem xI1_r : 0 ≤ restP xI1 := by decide +kernel
theorem xI1_s : encS xI1 = b1 [80, 2, 2, 1] := by kernel_rfl
def xI2 : Pk := { Pk.zero with ty := 6, id := 513 }
theorem xI2_ok : PkOk xI2 := by constructor <;> first | decide | (intro x hx; cases hx)
theorem xI2_r : 0 ≤ restP xI2 := by decide +kernel
theorem xI2_s : encS xI2 = b1 [98, 2, 2, 1] := by kernel_rfl
def xI3 : Pk := { Pk.zero with ty := 7, id := 513 }
theorem xI3_ok : PkOk xI3 := by constructor <;> first | decide | (intro x hx; cases hx)
theorem xI3_r : 0 ≤ restP xI3 := by decide +kernel
theorem xI3_s : encS xI3 = b1 [112, 2, 2, 1] := by kernel_rfl
def xJ : Pk := { Pk.zero with ty := 11, id := 9 }
theorem xJ_ok : PkOk xJ := by constructor <;> first | decide | (intro x hx; cases hx)
theorem xJ_r : 0 ≤ restP xJ := by decide +kernel
theorem xJ_s : encS xJ = b1 [176, 2, 0, 9] := by kernel_rfl
def xK : Pk := { Pk.zero with ty := 13 }
theorem xK_ok : PkOk xK := by constructor <;> first | decide | (intro x hx; cases hx)
theorem xK_r : 0 ≤ restP xK := by decide +kernel
theorem xK_s : encS xK = b1 [208, 0] := by kernel_rfl
def xL : Pk := { Pk.zero with ty := 14 }
theorem xL_ok : PkOk xL := by constructor <;> first | decide | (intro x hx; cases hx)
theorem xL_r : 0 ≤ restP xL := by decide +kernel
theorem xL_s : encS xL = b1 [224, 0] := by kernel_rfl
def zeros : ByteArray := strN (List.replicate 125 0)
def xZ : Pk := { Pk.zero with ty := 3, topic := b1 [97], payload := zeros }
theorem xZ_ok : PkOk xZ := by constructor <;> first | decide +kernel | (intro x hx; cases hx)
theorem xZ_size : (encS xZ).size = 131 := by kernel_rfl
theorem xZ_e : encE xZ = 0 := by kernel_rfl
theorem xZ_cut : (encS xZ).extract 0 4 = ⟨#[48, 128, 1, 0]⟩ := by
  apply bl_inj
  have : bl ((encS xZ).extract 0 4) = (bl (encS xZ)).take 4 := by unfold bl; simp
  rw [this]
  decide +kernel
def xM : Pk := { Pk.zero with ty := 12 }
def xN : Pk := { Pk.zero with ty := 15 }
theorem xM_ok : PkOk xM := by constructor <;> first | decide | (intro x hx; cases hx)
theorem xN_ok : PkOk xN := by constructor <;> first | decide | (intro x hx; cases hx)
theorem xO_ok : PkOk Pk.zero := by constructor <;> first | decide | (intro x hx; cases hx)
theorem xMN_s : allS [(xM, none, 0), (xN, none, 0)] = ⟨#[]⟩ ∧ allE [(xM, none, 0), (xN, none, 0)] = 4 := ⟨by kernel_rfl, by kernel_rfl⟩
theorem xO_size : sizeN Pk.zero = 0 := by kernel_rfl
theorem zeros_cells : (madeCells (Value.int .u8 0).cells (125 * 1)).toList = natV (List.replicate 125 0) := by kernel_rfl
theorem x0_s : allS [] = ⟨#[]⟩ ∧ allE [] = 0 := ⟨rfl, rfl⟩
set_option maxRecDepth 100000 in
set_option maxHeartbeats 4000000 in
theorem law04_WriteKnown (w : World) (hE : Env w) : Calls Tryd.prog 9 #[] w fun e w' => e = .returned (.bool true) ∧ Below w.heap.size w w' := by
  have HK := Lib.hid (Keep.begin hE [] (by intro r hr; cases hr))
  have hNONE := fun w1 hE => write_All none 0 [] w1 hE (cells_nil _ _) (by intro x hx; cases hx) (by simp)
  rw [x0_s.1, x0_s.2] at hNONE
  simp only [List.length_nil] at hNONE
  have hMN := fun w1 al hE hc => write_All al 2 [(xM, none, 0), (xN, none, 0)] w1 hE hc (by intro x hx; simp at hx; rcases hx with rfl | rfl; exact ⟨xM_ok, cells_nil _ _⟩; exact ⟨xN_ok, cells_nil _ _⟩) (by simp)
  rw [xMN_s.1, xMN_s.2] at hMN
  simp only [List.length_cons, List.length_nil, Nat.zero_add, Nat.reduceAdd] at hMN
  have hZ := fun w1 hE ha => write_Encode xZ none 0 w1 hE xZ_ok ha
  rw [xZ_e] at hZ
  have hO := fun w1 hE ha => write_Size Pk.zero none 0 w1 hE xO_ok ha
  rw [xO_size] at hO
  have hsz := xZ_size
  have hcut := xZ_cut
  generalize encS xZ = z at *
  have HNONE := Lib.hid hNONE
  have HMN := Lib.hid hMN
  have HZ := Lib.hid hZ
  have HO := Lib.hid hO
  obtain ⟨i0, hi, hz0, hz1, hz2⟩ := info_parts infoU8
  clear hNONE hMN hZ hO hE
  go_enter Tryd.func9, Tryd.ntmps9
  go_upto_region 2 with (first
    | ((with_reducible show wpList _ _ _ (⟨some 10, _, _, _, _, _⟩ :: _) _ _); refine wpList_build_to (o := ⟨some 10, _, _, _, _, _⟩) rfl 24 _ rfl (#[.string (b1 [119]), .string (b1 [0, 112]), .int .u8 2, .bool true]) (by kernel_rfl) ?_)
    | ((with_reducible show wpList _ _ _ (⟨some 11, _, _, _, _, _⟩ :: _) _ _); refine wpList_build_to (o := ⟨some 11, _, _, _, _, _⟩) rfl 27 _ rfl (pkV xF none 0) (by kernel_rfl) ?_)
    | ((with_reducible show wpList _ _ _ (⟨some 1, .alloc 27, _, _, _, _⟩ :: _) _ _); obtain ⟨i0, z0, hi0, hz0, hs0, hc0⟩ := infoPkt; refine wpList_new rfl 27 rfl _ rfl rfl _ _ rfl rfl i0 z0 hi0 hz0 (pkV xF none 0) hs0 hc0 (pk_one _ _ _) rfl rfl ?_; replace HK := Lib.hid (HK.out.alloc (pkV xF none 0) 27); clear i0 z0 hi0 hz0 hs0 hc0))
  go_upto_region 4 with (first
    | ((with_reducible show wpList _ _ _ (⟨some 12, _, _, _, _, _⟩ :: _) _ _); refine wpList_load_box rfl 27 _ rfl _ rfl 27 _ (HK.out.at 0 rfl) _ Tryd.underlying27 rfl (pk_size _ _ _) ?_)
    | ((with_reducible show wpList _ _ _ (⟨some 16, _, _, _, _, some _⟩ :: _) _ _); refine wpList_free (by kernel_rfl) ?_)
    | ((with_reducible show wpList _ _ _ (⟨some 21, _, _, _, _, some _⟩ :: _) _ _); refine wpList_free (by kernel_rfl) ?_)
    | ((with_reducible show wpList _ _ _ (⟨some 16, _, _, _, _, _⟩ :: _) _ _); refine wpList_build_to (o := ⟨some 16, _, _, _, _, _⟩) rfl 27 _ rfl (pkV xA none 0) (by kernel_rfl) ?_)
    | ((with_reducible show wpList _ _ _ (⟨some 21, _, _, _, _, _⟩ :: _) _ _); refine wpList_build_to (o := ⟨some 21, _, _, _, _, _⟩) rfl 27 _ rfl (pkV xB none 0) (by kernel_rfl) ?_)
    | ((with_reducible show wpList _ _ _ (⟨some 17, _, _, _, _, some _⟩ :: _) _ _); refine wpList_free (by kernel_rfl) ?_)
    | ((with_reducible show wpList _ _ _ (⟨some 22, _, _, _, _, some _⟩ :: _) _ _); refine wpList_free (by kernel_rfl) ?_)
    | (go_at_call 29; (with_reducible show Calls _ _ #[.agg (pkV xF _ _), _] _ _); refine Calls.mono (law04_writes xF _ _ _ _ HK.out.env xF_ok (cells_nil _ _) xF_r xF_s) ?_; rintro e w1 ⟨rfl, hb1⟩; replace HK := Lib.hid (HK.out.below hb1); clear hb1)
    | (go_at_call 29; (with_reducible show Calls _ _ #[.agg (pkV xA _ _), _] _ _); refine Calls.mono (law04_writes xA _ _ _ _ HK.out.env xA_ok (cells_nil _ _) xA_r xA_s) ?_; rintro e w1 ⟨rfl, hb1⟩; replace HK := Lib.hid (HK.out.below hb1); clear hb1)
    | (go_at_call 29; (with_reducible show Calls _ _ #[.agg (pkV xB _ _), _] _ _); refine Calls.mono (law04_writes xB _ _ _ _ HK.out.env xB_ok (cells_nil _ _) xB_r xB_s) ?_; rintro e w1 ⟨rfl, hb1⟩; replace HK := Lib.hid (HK.out.below hb1); clear hb1))
  go_upto_region 6 with (first
    | ((with_reducible show wpList _ _ _ (⟨some 29, _, _, _, _, some _⟩ :: _) _ _); refine wpList_free (by kernel_rfl) ?_)
    | ((with_reducible show wpList _ _ _ (⟨some 34, _, _, _, _, some _⟩ :: _) _ _); refine wpList_free (by kernel_rfl) ?_)
    | ((with_reducible show wpList _ _ _ (⟨some 35, _, _, _, _, some _⟩ :: _) _ _); refine wpList_free (by kernel_rfl) ?_)
    | ((with_reducible show wpList _ _ _ (⟨some 36, _, _, _, _, some _⟩ :: _) _ _); refine wpList_free (by kernel_rfl) ?_)
    | ((with_reducible show wpList _ _ _ (⟨some 41, _, _, _, _, some _⟩ :: _) _ _); refine wpList_free (by kernel_rfl) ?_)
    | ((with_reducible show wpList _ _ _ (⟨some 42, _, _, _, _, some _⟩ :: _) _ _); refine wpList_free (by kernel_rfl) ?_)
    | ((with_reducible show wpList _ _ _ (⟨some 43, _, _, _, _, some _⟩ :: _) _ _); refine wpList_free (by kernel_rfl) ?_)
    | ((with_reducible show wpList _ _ _ (⟨some 44, _, _, _, _, some _⟩ :: _) _ _); refine wpList_free (by kernel_rfl) ?_)
    | ((with_reducible show wpList _ _ _ (⟨some 49, _, _, _, _, some _⟩ :: _) _ _); refine wpList_free (by kernel_rfl) ?_)
    | ((with_reducible show wpList _ _ _ (⟨some 30, _, _, _, _, some _⟩ :: _) _ _); refine wpList_free (by kernel_rfl) ?_)
    | ((with_reducible show wpList _ _ _ (⟨some 37, _, _, _, _, some _⟩ :: _) _ _); refine wpList_free (by kernel_rfl) ?_)
    | ((with_reducible show wpList _ _ _ (⟨some 45, _, _, _, _, some _⟩ :: _) _ _); refine wpList_free (by kernel_rfl) ?_)
    | ((with_reducible show wpList _ _ _ (⟨some 50, _, _, _, _, some _⟩ :: _) _ _); refine wpList_free (by kernel_rfl) ?_)
    | ((with_reducible show wpList _ _ _ (⟨some 25, _, _, _, _, _⟩ :: _) _ _); refine wpList_build_to (o := ⟨some 25, _, _, _, _, _⟩) rfl 27 _ rfl (pkV xC none 0) (by kernel_rfl) ?_)
    | ((with_reducible show wpList _ _ _ (⟨some 29, _, _, _, _, _⟩ :: _) _ _); refine wpList_build_to (o := ⟨some 29, _, _, _, _, _⟩) rfl 27 _ rfl (pkV xD none 0) (by kernel_rfl) ?_)
    | ((with_reducible show wpList _ _ _ (⟨some 34, _, _, _, _, _⟩ :: _) _ _); refine wpList_build_to (o := ⟨some 34, _, _, _, _, _⟩) rfl 31 _ rfl (#[.string (b1 [97, 47, 43]), .int .u8 2]) (by kernel_rfl) ?_)
    | ((with_reducible show wpList _ _ _ (⟨some 35, .buildSlice _ _ _, _, _, _, _⟩ :: _) _ _); refine Great.wpList_buildSliceTo rfl 25 31 1 _ rfl _ rfl _ rfl Tryd.underlying25 (List.toArray (subCells xE.subs)) (by kernel_rfl) ?_; replace HK := Lib.hid (HK.out.allocRow (subCells xE.subs) 31); generalize hgw : World.alloc _ _ = w8 at HK ⊢; clear hgw)
    | ((with_reducible show wpList _ _ _ (⟨some 36, _, _, _, _, _⟩ :: _) _ _); refine wpList_build_to (o := ⟨some 36, _, _, _, _, _⟩) rfl 27 _ rfl (pkV xE (some ⟨w1.heap.size, 0, none⟩) 1) (by kernel_rfl) ?_)
    | ((with_reducible show wpList _ _ _ (⟨some 41, _, _, _, _, _⟩ :: _) _ _); refine wpList_build_to (o := ⟨some 41, _, _, _, _, _⟩) rfl 31 _ rfl (#[.string (b1 [35]), .int .u8 0]) (by kernel_rfl) ?_)
    | ((with_reducible show wpList _ _ _ (⟨some 42, _, _, _, _, _⟩ :: _) _ _); refine wpList_build_to (o := ⟨some 42, _, _, _, _, _⟩) rfl 31 _ rfl (#[.string (b1 [98]), .int .u8 0]) (by kernel_rfl) ?_)
    | ((with_reducible show wpList _ _ _ (⟨some 43, .buildSlice _ _ _, _, _, _, _⟩ :: _) _ _); refine Great.wpList_buildSliceTo rfl 25 31 2 _ rfl _ rfl _ rfl Tryd.underlying25 (List.toArray (subCells xG.subs)) (by kernel_rfl) ?_; replace HK := Lib.hid (HK.out.allocRow (subCells xG.subs) 31); generalize hgw : World.alloc _ _ = w9 at HK ⊢; clear hgw)
    | ((with_reducible show wpList _ _ _ (⟨some 44, _, _, _, _, _⟩ :: _) _ _); refine wpList_build_to (o := ⟨some 44, _, _, _, _, _⟩) rfl 27 _ rfl (pkV xG (some ⟨w1.heap.size, 0, none⟩) 2) (by kernel_rfl) ?_)
    | ((with_reducible show wpList _ _ _ (⟨some 49, _, _, _, _, _⟩ :: _) _ _); refine wpList_build_to (o := ⟨some 49, _, _, _, _, _⟩) rfl 27 _ rfl (pkV xH none 0) (by kernel_rfl) ?_)
    | (go_at_call 29; (with_reducible show Calls _ _ #[.agg (pkV xC _ _), _] _ _); refine Calls.mono (law04_writes xC _ _ _ _ HK.out.env xC_ok (cells_nil _ _) xC_r xC_s) ?_; rintro e w1 ⟨rfl, hb1⟩; replace HK := Lib.hid (HK.out.below hb1); clear hb1)
    | (go_at_call 29; (with_reducible show Calls _ _ #[.agg (pkV xD _ _), _] _ _); refine Calls.mono (law04_writes xD _ _ _ _ HK.out.env xD_ok (cells_nil _ _) xD_r xD_s) ?_; rintro e w1 ⟨rfl, hb1⟩; replace HK := Lib.hid (HK.out.below hb1); clear hb1)
    | (go_at_call 29; (with_reducible show Calls _ _ #[.agg (pkV xE _ _), _] _ _); refine Calls.mono (law04_writes xE _ _ _ _ HK.out.env xE_ok (HK.out.rowAt 0 rfl) xE_r xE_s) ?_; rintro e w1 ⟨rfl, hb1⟩; replace HK := Lib.hid (HK.out.below hb1); clear hb1)
    | (go_at_call 29; (with_reducible show Calls _ _ #[.agg (pkV xG _ _), _] _ _); refine Calls.mono (law04_writes xG _ _ _ _ HK.out.env xG_ok (HK.out.rowAt 0 rfl) xG_r xG_s) ?_; rintro e w1 ⟨rfl, hb1⟩; replace HK := Lib.hid (HK.out.below hb1); clear hb1)
    | (go_at_call 29; (with_reducible show Calls _ _ #[.agg (pkV xH _ _), _] _ _); refine Calls.mono (law04_writes xH _ _ _ _ HK.out.env xH_ok (cells_nil _ _) xH_r xH_s) ?_; rintro e w1 ⟨rfl, hb1⟩; replace HK := Lib.hid (HK.out.below hb1); clear hb1))
  go_upto_region 7 with (first
    | ((with_reducible show wpList _ _ _ (⟨some 53, .buildSlice _ _ _, _, _, _, _⟩ :: _) _ _); refine Great.wpList_buildSliceTo rfl 44 5 4 _ rfl _ rfl _ rfl Tryd.underlying44 (List.toArray (natV [64, 80, 98, 112])) (by kernel_rfl) ?_; replace HK := Lib.hid (HK.out.allocRow (natV [64, 80, 98, 112]) 5); generalize hgw : World.alloc _ _ = wf at HK ⊢; clear hgw))
  replace HK := Lib.hid (HK.out.sub (L' := []) (R' := [(some ⟨w1.heap.size, 0, none⟩, natV [64, 80, 98, 112])]) (List.nil_sublist _) (by intro r hr; simp at hr; subst hr; simp))
  generalize w1.heap.size = N at HK ⊢
  go_wp2_with fail
  go_loopw [3] (fun i wr => ∃ k : Nat, k ≤ 4 ∧ i = .int .i64 k ∧ Hid (Keep w [] [(some ⟨N, 0, none⟩, natV [64, 80, 98, 112])] wr)) (fun i _ => 4 - (intOf i).toNat)
  case atStart => exact ⟨0, by omega, rfl, HK⟩
  case round =>
    clear HK
    obtain ⟨k, hk, rfl, HK⟩ := hrel
    have hk5 : k = 0 ∨ k = 1 ∨ k = 2 ∨ k = 3 ∨ k = 4 := by omega
    rcases hk5 with rfl | rfl | rfl | rfl | rfl
    · have hc := cells_at (HK.out.rowAt 0 rfl) 0 _ rfl
      rw [Addr.add_lit] at hc
      go_wp2_with (first
        | ((with_reducible show wpList _ _ _ (⟨some 63, _, _, _, _, _⟩ :: _) _ _); refine wpList_build_to (o := ⟨some 63, _, _, _, _, _⟩) rfl 27 _ rfl (pkV xI0 none 0) (by kernel_rfl) ?_)
        | ((with_reducible show wpList _ _ _ (⟨some 68, .buildSlice _ _ _, _, _, _, _⟩ :: _) _ _); refine Great.wpList_buildSliceTo rfl 44 5 4 _ rfl _ rfl _ rfl Tryd.underlying44 (List.toArray (natV [64, 2, 2, 1])) (by kernel_rfl) ?_; replace HK := Lib.hid (HK.out.allocRow (natV [64, 2, 2, 1]) 5); generalize hgw : World.alloc _ _ = wg at HK ⊢; clear hgw; have kc := conv_nats (P := Tryd.prog) wg 44 5 Tryd.underlying44 Tryd.underlying5 (some ⟨wr.heap.size, 0, none⟩) 4 [64, 2, 2, 1] 4 rfl (HK.out.rowAt 0 rfl) 9 Tryd.underlying9; rw [show strN [64, 2, 2, 1] = b1 [64, 2, 2, 1] from by kernel_rfl] at kc)
        | (go_at_call 29; (with_reducible show Calls _ _ #[.agg (pkV xI0 _ _), _] _ _); refine Calls.mono (law04_writes xI0 _ _ _ _ HK.out.env xI0_ok (cells_nil _ _) xI0_r xI0_s) ?_; rintro e w1 ⟨rfl, hb1⟩; replace HK := Lib.hid (HK.out.below hb1); clear hb1))
      go_roundw
      case rel => exact ⟨1, by omega, by first | rfl | go_num, Lib.hid (HK.out.sub (List.nil_sublist _) (fun r hr => by simp at hr; subst hr; simp))⟩
      case measure => simp [intOf]
    · have hc := cells_at (HK.out.rowAt 0 rfl) 1 _ rfl
      rw [Addr.add_lit] at hc
      go_wp2_with (first
        | ((with_reducible show wpList _ _ _ (⟨some 63, _, _, _, _, _⟩ :: _) _ _); refine wpList_build_to (o := ⟨some 63, _, _, _, _, _⟩) rfl 27 _ rfl (pkV xI1 none 0) (by kernel_rfl) ?_)
        | ((with_reducible show wpList _ _ _ (⟨some 68, .buildSlice _ _ _, _, _, _, _⟩ :: _) _ _); refine Great.wpList_buildSliceTo rfl 44 5 4 _ rfl _ rfl _ rfl Tryd.underlying44 (List.toArray (natV [80, 2, 2, 1])) (by kernel_rfl) ?_; replace HK := Lib.hid (HK.out.allocRow (natV [80, 2, 2, 1]) 5); generalize hgw : World.alloc _ _ = wg at HK ⊢; clear hgw; have kc := conv_nats (P := Tryd.prog) wg 44 5 Tryd.underlying44 Tryd.underlying5 (some ⟨wr.heap.size, 0, none⟩) 4 [80, 2, 2, 1] 4 rfl (HK.out.rowAt 0 rfl) 9 Tryd.underlying9; rw [show strN [80, 2, 2, 1] = b1 [80, 2, 2, 1] from by kernel_rfl] at kc)
        | (go_at_call 29; (with_reducible show Calls _ _ #[.agg (pkV xI1 _ _), _] _ _); refine Calls.mono (law04_writes xI1 _ _ _ _ HK.out.env xI1_ok (cells_nil _ _) xI1_r xI1_s) ?_; rintro e w1 ⟨rfl, hb1⟩; replace HK := Lib.hid (HK.out.below hb1); clear hb1))
      go_roundw
      case rel => exact ⟨2, by omega, by first | rfl | go_num, Lib.hid (HK.out.sub (List.nil_sublist _) (fun r hr => by simp at hr; subst hr; simp))⟩
      case measure => simp [intOf]
    · have hc := cells_at (HK.out.rowAt 0 rfl) 2 _ rfl
      rw [Addr.add_lit] at hc
      go_wp2_with (first
        | ((with_reducible show wpList _ _ _ (⟨some 63, _, _, _, _, _⟩ :: _) _ _); refine wpList_build_to (o := ⟨some 63, _, _, _, _, _⟩) rfl 27 _ rfl (pkV xI2 none 0) (by kernel_rfl) ?_)
        | ((with_reducible show wpList _ _ _ (⟨some 68, .buildSlice _ _ _, _, _, _, _⟩ :: _) _ _); refine Great.wpList_buildSliceTo rfl 44 5 4 _ rfl _ rfl _ rfl Tryd.underlying44 (List.toArray (natV [98, 2, 2, 1])) (by kernel_rfl) ?_; replace HK := Lib.hid (HK.out.allocRow (natV [98, 2, 2, 1]) 5); generalize hgw : World.alloc _ _ = wg at HK ⊢; clear hgw; have kc := conv_nats (P := Tryd.prog) wg 44 5 Tryd.underlying44 Tryd.underlying5 (some ⟨wr.heap.size, 0, none⟩) 4 [98, 2, 2, 1] 4 rfl (HK.out.rowAt 0 rfl) 9 Tryd.underlying9; rw [show strN [98, 2, 2, 1] = b1 [98, 2, 2, 1] from by kernel_rfl] at kc)
        | (go_at_call 29; (with_reducible show Calls _ _ #[.agg (pkV xI2 _ _), _] _ _); refine Calls.mono (law04_writes xI2 _ _ _ _ HK.out.env xI2_ok (cells_nil _ _) xI2_r xI2_s) ?_; rintro e w1 ⟨rfl, hb1⟩; replace HK := Lib.hid (HK.out.below hb1); clear hb1))
      go_roundw
      case rel => exact ⟨3, by omega, by first | rfl | go_num, Lib.hid (HK.out.sub (List.nil_sublist _) (fun r hr => by simp at hr; subst hr; simp))⟩
      case measure => simp [intOf]
    · have hc := cells_at (HK.out.rowAt 0 rfl) 3 _ rfl
      rw [Addr.add_lit] at hc
      go_wp2_with (first
        | ((with_reducible show wpList _ _ _ (⟨some 63, _, _, _, _, _⟩ :: _) _ _); refine wpList_build_to (o := ⟨some 63, _, _, _, _, _⟩) rfl 27 _ rfl (pkV xI3 none 0) (by kernel_rfl) ?_)
        | ((with_reducible show wpList _ _ _ (⟨some 68, .buildSlice _ _ _, _, _, _, _⟩ :: _) _ _); refine Great.wpList_buildSliceTo rfl 44 5 4 _ rfl _ rfl _ rfl Tryd.underlying44 (List.toArray (natV [112, 2, 2, 1])) (by kernel_rfl) ?_; replace HK := Lib.hid (HK.out.allocRow (natV [112, 2, 2, 1]) 5); generalize hgw : World.alloc _ _ = wg at HK ⊢; clear hgw; have kc := conv_nats (P := Tryd.prog) wg 44 5 Tryd.underlying44 Tryd.underlying5 (some ⟨wr.heap.size, 0, none⟩) 4 [112, 2, 2, 1] 4 rfl (HK.out.rowAt 0 rfl) 9 Tryd.underlying9; rw [show strN [112, 2, 2, 1] = b1 [112, 2, 2, 1] from by kernel_rfl] at kc)
        | (go_at_call 29; (with_reducible show Calls _ _ #[.agg (pkV xI3 _ _), _] _ _); refine Calls.mono (law04_writes xI3 _ _ _ _ HK.out.env xI3_ok (cells_nil _ _) xI3_r xI3_s) ?_; rintro e w1 ⟨rfl, hb1⟩; replace HK := Lib.hid (HK.out.below hb1); clear hb1))
      go_roundw
      case rel => exact ⟨4, by omega, by first | rfl | go_num, Lib.hid (HK.out.sub (List.nil_sublist _) (fun r hr => by simp at hr; subst hr; simp))⟩
      case measure => simp [intOf]
    · go_wp2_with (first
        | ((with_reducible show wpList _ _ _ (⟨some 93, _, _, _, _, some _⟩ :: _) _ _); refine wpList_free (by kernel_rfl) ?_)
        | ((with_reducible show wpList _ _ _ (⟨some 97, _, _, _, _, some _⟩ :: _) _ _); refine wpList_free (by kernel_rfl) ?_)
        | ((with_reducible show wpList _ _ _ (⟨some 127, _, _, _, _, some _⟩ :: _) _ _); refine wpList_free (by kernel_rfl) ?_)
        | ((with_reducible show wpList _ _ _ (⟨some 94, _, _, _, _, some _⟩ :: _) _ _); refine wpList_free (by kernel_rfl) ?_)
        | ((with_reducible show wpList _ _ _ (⟨some 98, _, _, _, _, some _⟩ :: _) _ _); refine wpList_free (by kernel_rfl) ?_)
        | ((with_reducible show wpList _ _ _ (⟨some 128, _, _, _, _, some _⟩ :: _) _ _); refine wpList_free (by kernel_rfl) ?_)
        | ((with_reducible show wpList _ _ _ (⟨some 132, _, _, _, _, some _⟩ :: _) _ _); refine wpList_free (by kernel_rfl) ?_)
        | (go_at_call 30; (with_reducible refine Calls.mono (HNONE.out _ HK.out.env) ?_); rintro e w1 ⟨rfl, hb1⟩; replace HK := Lib.hid (HK.out.below hb1); clear hb1)
        | ((with_reducible show wpList _ _ _ (⟨some 77, _, _, _, _, _⟩ :: _) _ _); refine wpList_build_to (o := ⟨some 77, _, _, _, _, _⟩) rfl 27 _ rfl (pkV xM none 0) (by kernel_rfl) ?_)
        | ((with_reducible show wpList _ _ _ (⟨some 78, _, _, _, _, _⟩ :: _) _ _); refine wpList_build_to (o := ⟨some 78, _, _, _, _, _⟩) rfl 27 _ rfl (pkV xN none 0) (by kernel_rfl) ?_)
        | ((with_reducible show wpList _ _ _ (⟨some 79, .buildSlice _ _ _, _, _, _, _⟩ :: _) _ _); refine Great.wpList_buildSliceTo rfl 49 27 2 _ rfl _ rfl _ rfl Tryd.underlying49 (List.toArray (pkCells [(xM, none, 0), (xN, none, 0)])) (by kernel_rfl) ?_; replace HK := Lib.hid (HK.out.allocRow (pkCells [(xM, none, 0), (xN, none, 0)]) 27); generalize hgw : World.alloc _ _ = wp at HK ⊢; clear hgw)
        | (go_at_call 30; (with_reducible refine Calls.mono (HMN.out _ _ HK.out.env (HK.out.rowAt 0 rfl)) ?_); rintro e w1 ⟨rfl, hb1⟩; replace HK := Lib.hid (HK.out.below hb1); clear hb1)
        | ((with_reducible show wpList _ _ _ (⟨some 84, _, _, _, _, _⟩ :: _) _ _); refine wpList_make_full _ rfl _ _ _ rfl w.heap.size 5 i0 _ 1 Tryd.underlying44 hi hz0 hz1 .i64 .i64 125 125 125 rfl rfl rfl rfl (by rw [hz2]; omega) (by unfold maxLen; omega) HK.out.size ?_; intro w6 hown6 hg6; replace HK := Lib.hid (HK.out.below (below_none hg6)); have kc := conv_nats (P := Tryd.prog) w6 44 5 Tryd.underlying44 Tryd.underlying5 _ 125 (List.replicate 125 0) 125 (by simp) (zeros_cells ▸ own_cells hown6) 9 Tryd.underlying9; change _ = Result.ok (Value.string zeros) _ at kc; clear hown6 hg6)
        | ((with_reducible show wpList _ _ _ (⟨some 86, _, _, _, _, _⟩ :: _) _ _); refine wpList_build_to (o := ⟨some 86, _, _, _, _, _⟩) rfl 27 _ rfl (pkV xZ none 0) (by kernel_rfl) ?_)
        | (go_at_call 31; refine Calls.mono (HZ.out _ HK.out.env (cells_nil _ _)) ?_; rintro e w1 ⟨rfl, hb1⟩; replace HK := Lib.hid (HK.out.below hb1); clear hb1)
        | ((with_reducible show wpList _ _ _ (⟨some 90, _, _, _, _, _⟩ :: _) _ _); refine wpList_build_to (o := ⟨some 90, _, _, _, _, _⟩) rfl 27 _ rfl (pkV xJ none 0) (by kernel_rfl) ?_)
        | ((with_reducible show wpList _ _ _ (⟨some 93, _, _, _, _, _⟩ :: _) _ _); refine wpList_build_to (o := ⟨some 93, _, _, _, _, _⟩) rfl 27 _ rfl (pkV xK none 0) (by kernel_rfl) ?_)
        | ((with_reducible show wpList _ _ _ (⟨some 97, _, _, _, _, _⟩ :: _) _ _); refine wpList_build_to (o := ⟨some 97, _, _, _, _, _⟩) rfl 27 _ rfl (pkV xL none 0) (by kernel_rfl) ?_)
        | ((with_reducible show wpList _ _ _ (⟨some 127, _, _, _, _, _⟩ :: _) _ _); refine wpList_build_to (o := ⟨some 127, _, _, _, _, _⟩) rfl 27 _ rfl (pkV Pk.zero none 0) (by kernel_rfl) ?_)
        | (go_at_call 29; (with_reducible show Calls _ _ #[.agg (pkV xJ _ _), _] _ _); refine Calls.mono (law04_writes xJ _ _ _ _ HK.out.env xJ_ok (cells_nil _ _) xJ_r xJ_s) ?_; rintro e w1 ⟨rfl, hb1⟩; replace HK := Lib.hid (HK.out.below hb1); clear hb1)
        | (go_at_call 29; (with_reducible show Calls _ _ #[.agg (pkV xK _ _), _] _ _); refine Calls.mono (law04_writes xK _ _ _ _ HK.out.env xK_ok (cells_nil _ _) xK_r xK_s) ?_; rintro e w1 ⟨rfl, hb1⟩; replace HK := Lib.hid (HK.out.below hb1); clear hb1)
        | (go_at_call 29; (with_reducible show Calls _ _ #[.agg (pkV xL _ _), _] _ _); refine Calls.mono (law04_writes xL _ _ _ _ HK.out.env xL_ok (cells_nil _ _) xL_r xL_s) ?_; rintro e w1 ⟨rfl, hb1⟩; replace HK := Lib.hid (HK.out.below hb1); clear hb1)
        | (go_at_call 32; refine Calls.mono (HO.out _ HK.out.env (cells_nil _ _)) ?_; rintro e w1 ⟨rfl, hb1⟩; replace HK := Lib.hid (HK.out.below hb1); clear hb1)
        | (go_at_call 33; refine Calls.mono (law04_awake _ HK.out.env) ?_; rintro e w1 ⟨rfl, hb1⟩; replace HK := Lib.hid (HK.out.below hb1); clear hb1))
      go_ret
      exact ⟨rfl, HK.out.low⟩
end Go.Proofs.YtkphaihbdmjogaaDoor
