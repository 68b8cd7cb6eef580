/- Small functions of law04: writes (where it is so), awake. Conditions: the decoder's tables lie as Go lays them; the packet's list in its cells. -/
import Derived.Test.YtfljdlaelanliaaDoorWriteEncode
import Derived.Test.YtfljdlaelanliaaDoorLaw03
namespace Go.Proofs.YtfljdlaelanliaaDoor
open Go.RowKit
theorem size_good {p : Pk} (hp : PkOk p) (h : 0 ≤ restP p) : sizeN p = (encS p).size := by
  rw [encS_good h]
  show _ = (encB p).length
  rw [encB_len p hp h]
  unfold sizeN
  rw [if_neg (by omega)]
set_option maxRecDepth 100000 in
theorem law04_writes (p : Pk) (a : Option Addr) (c : Nat) (s : ByteArray) (w : World) (hE : Env w) (hp : PkOk p) (ha : CellsA w a (subCells p.subs)) (hr : 0 ≤ restP p) (hs : encS p = s) : Calls Tryd.prog 37 #[.agg (pkV p a c), .string s] w fun e w' => e = .returned (.bool true) ∧ Below w.heap.size w w' := by
  subst hs
  have HK := Lib.hid ((Keep.begin hE [(a, subCells p.subs)] (by intro r hr; simp at hr; subst hr; exact ha)).alloc' (pkV p a c) 27 w.heap.size rfl)
  have hN := fun w1 hE ha => write_Encode p a c w1 hE hp ha
  have hS := fun w1 hE ha => write_Size p a c w1 hE hp ha
  rw [encE_good hr] at hN
  rw [size_good hp hr] at hS
  generalize encS p = s at *
  have HN := Lib.hid hN
  have HS := Lib.hid hS
  clear hN hS hp ha hE hr
  go_enter Tryd.func37, Tryd.ntmps37
  go_wp2_with (first
    | ((with_reducible show wpList _ _ _ (⟨_, .load 27 _, _, _, _, _⟩ :: _) _ _); refine wpList_load_box rfl 27 _ rfl _ rfl 27 _ (by (first | exact HK.out.at 0 rfl)) _ Tryd.underlying27 rfl (pk_size _ _ _) ?_)
    | ((with_reducible show wpList _ _ _ (⟨some 20, _, _, _, _, _⟩ :: _) _ _); refine wpList_load_boxG (by kernel_rfl) 27 _ rfl _ rfl 27 _ (by (first | exact HK.out.at 0 rfl)) _ Tryd.underlying27 rfl (pk_size _ _ _) ?_)
    | (go_at_call 32; refine Calls.mono (HN.out _ HK.out.env (HK.out.rowAt 0 rfl)) ?_; rintro e w1 ⟨rfl, hb1⟩; replace HK := Lib.hid (HK.out.below hb1); clear hb1)
    | (go_at_call 30; refine Calls.mono (HS.out _ HK.out.env (HK.out.rowAt 0 rfl)) ?_; rintro e w1 ⟨rfl, hb1⟩; replace HK := Lib.hid (HK.out.below hb1); clear hb1))
  go_ret
  exact ⟨rfl, HK.out.low⟩
def wN : Pk := { Pk.zero with ty := 3 }
def wR : Pk := { Pk.zero with ty := 6, id := 256 }
def wG : Pk := { Pk.zero with ty := 12 }
def wC : Pk := { Pk.zero with ty := 1, level := 4, clean := true, keep := 10, client := b1 [99] }
def wP : Pk := { Pk.zero with ty := 3, topic := b1 [97, 47, 98], qos := 1, id := 7, ret := true, payload := b1 [104, 105] }
theorem wN_ok : PkOk wN := by constructor <;> first | decide | (intro x hx; cases hx)
theorem wR_ok : PkOk wR := by constructor <;> first | decide | (intro x hx; cases hx)
theorem wG_ok : PkOk wG := by constructor <;> first | decide | (intro x hx; cases hx)
theorem wC_ok : PkOk wC := by constructor <;> first | decide | (intro x hx; cases hx)
theorem wP_ok : PkOk wP := by constructor <;> first | decide | (intro x hx; cases hx)
theorem nN : encE wN = 4 := by kernel_rfl
theorem nC : 0 ≤ restP wC := by decide +kernel
theorem nP : 0 ≤ restP wP := by decide +kernel
theorem sC : encS wC = b1 [16, 13, 0, 4, 77, 81, 84, 84, 4, 2, 0, 10, 0, 1, 99] := by kernel_rfl
theorem sP : encS wP = b1 [51, 9, 0, 3, 97, 47, 98, 0, 7, 104, 105] := by kernel_rfl
theorem sA : allS [(wR, none, 0), (wG, none, 0)] = ⟨#[98, 2, 1, 0, 192, 0]⟩ := by kernel_rfl
theorem eA : allE [(wR, none, 0), (wG, none, 0)] = 0 := by kernel_rfl
set_option maxRecDepth 100000 in
set_option maxHeartbeats 2000000 in
theorem law04_awake (w : World) (hE : Env w) : Calls Tryd.prog 13 #[] w fun e w' => e = .returned (.bool true) ∧ Below w.heap.size w w' := by
  have rN := fun w1 hE ha => write_Encode wN none 0 w1 hE wN_ok ha
  have rA := fun w1 al hE hc => write_All al 2 [(wR, none, 0), (wG, none, 0)] w1 hE hc (by intro x hx; simp at hx; rcases hx with rfl | rfl; exact ⟨wR_ok, cells_nil _ _⟩; exact ⟨wG_ok, cells_nil _ _⟩) (by simp)
  have rC := fun w1 hE ha => law04_writes wC none 0 _ w1 hE wC_ok ha nC sC
  have rP := fun w1 hE ha => law04_writes wP none 0 _ w1 hE wP_ok ha nP sP
  rw [nN] at rN
  rw [sA, eA] at rA
  have RN := Lib.hid rN
  have RA := Lib.hid rA
  have RC := Lib.hid rC
  have RP := Lib.hid rP
  have HK := Lib.hid (Keep.begin hE [] (by intro r hr; cases hr))
  clear rN rA rC rP hE
  go_enter Tryd.func13, Tryd.ntmps13
  go_wp2_with (first
    | ((with_reducible show wpList _ _ _ (⟨some 6, _, _, _, _, _⟩ :: _) _ _); refine wpList_build_to (o := ⟨some 6, _, _, _, _, _⟩) rfl 27 _ rfl (pkV wN none 0) (by kernel_rfl) ?_)
    | ((with_reducible show wpList _ _ _ (⟨some 11, _, _, _, _, _⟩ :: _) _ _); refine wpList_build_to (o := ⟨some 11, _, _, _, _, _⟩) rfl 27 _ rfl (pkV wR none 0) (by kernel_rfl) ?_)
    | ((with_reducible show wpList _ _ _ (⟨some 12, _, _, _, _, _⟩ :: _) _ _); refine wpList_build_to (o := ⟨some 12, _, _, _, _, _⟩) rfl 27 _ rfl (pkV wG none 0) (by kernel_rfl) ?_)
    | ((with_reducible show wpList _ _ _ (⟨some 17, _, _, _, _, _⟩ :: _) _ _); refine wpList_build_to (o := ⟨some 17, _, _, _, _, _⟩) rfl 27 _ rfl (pkV wC none 0) (by kernel_rfl) ?_)
    | ((with_reducible show wpList _ _ _ (⟨some 20, _, _, _, _, _⟩ :: _) _ _); refine wpList_build_G (by kernel_rfl) 27 _ rfl (pkV wP none 0) (by kernel_rfl) ?_)
    | (go_at_call 32; refine Calls.mono (RN.out _ HK.out.env (cells_nil _ _)) ?_; rintro e w1 ⟨rfl, hb1⟩; replace HK := Lib.hid (HK.out.below hb1); clear hb1)
    | ((with_reducible show wpList _ _ _ (⟨some 13, .buildSlice _ _ _, _, _, _, _⟩ :: _) _ _); refine Great.wpList_buildSliceTo rfl 33 27 2 _ rfl _ rfl _ rfl Tryd.underlying33 (List.toArray (pkCells [(wR, none, 0), (wG, none, 0)])) (by kernel_rfl) ?_; replace HK := Lib.hid (HK.out.allocRow (pkCells [(wR, none, 0), (wG, none, 0)]) 27); generalize hgw : World.alloc _ _ = w8 at HK ⊢; clear hgw)
    | (go_at_call 15; refine Calls.mono (RA.out _ _ HK.out.env (HK.out.rowAt 0 rfl)) ?_; rintro e w1 ⟨rfl, hb1⟩; replace HK := Lib.hid (HK.out.below hb1); clear hb1)
    | (go_at_call 37; (with_reducible show Calls _ _ #[.agg (pkV wC none 0), _] _ _); refine Calls.mono (RC.out _ HK.out.env (cells_nil _ _)) ?_; rintro e w1 ⟨rfl, hb1⟩; replace HK := Lib.hid (HK.out.below hb1); clear hb1)
    | (go_at_call 37; (with_reducible show Calls _ _ #[.agg (pkV wP none 0), _] _ _); refine Calls.mono (RP.out _ HK.out.env (cells_nil _ _)) ?_; rintro e w1 ⟨rfl, hb1⟩; replace HK := Lib.hid (HK.out.below hb1); clear hb1))
  go_ret
  exact ⟨rfl, HK.out.low⟩
end Go.Proofs.YtfljdlaelanliaaDoor
