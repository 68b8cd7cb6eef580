/- The walk of the program's Copy: a packet in new memory. Conditions: a machine's bounds on the packet's sizes; its list in its cells. -/
import Derived.Test.YtfljdlaelanliaaDoorPacketSame
namespace Go.Proofs.YtfljdlaelanliaaDoor
open Go.RowKit
/-- A packet in new memory. -/
def RetCopy (p : Pk) (w : World) (e : Ending) (w' : World) : Prop := ∃ (a' : Option Addr) (c' : Nat), e = .returned (.agg (pkV p a' c')) ∧ w'.ownsRow w.heap.size 31 2 (.slice a' p.subs.length c') p.subs.length (subCells p.subs) ∧ Below w.heap.size w w'
theorem pk_slice (p : Pk) (a a' : Option Addr) (c c' : Nat) : (pkV p a c).setIfInBounds 22 (.slice a' p.subs.length c') = pkV p a' c' := rfl
set_option maxRecDepth 100000 in
set_option maxHeartbeats 4000000 in
theorem packet_Copy (p : Pk) (a : Option Addr) (c : Nat) (w : World) (hE : Env w) (hp : PkOk p) (hc : a = none → c = 0) (ha : CellsA w a (subCells p.subs)) :
    Calls Tryd.prog 33 #[.agg (pkV p a c)] w (RetCopy p w) := by
  obtain ⟨i0, hi, hz0, hz1, hz2⟩ := info_parts infoSub
  have hfew := hp.few
  clear hp
  have HK := Lib.hid (((Keep.begin hE [(a, subCells p.subs)] (by intro r hr; simp at hr; subst hr; exact ha)).alloc' (pkV p a c) 27 w.heap.size rfl).alloc' (pkV Pk.zero none 0) 27 (w.heap.size + 1) (by simp))
  clear hE ha
  have HC := Lib.hid hc
  have HL := Lib.hid (subCells_len p.subs)
  have HO := Lib.hid (subCells_one p.subs)
  clear hc
  obtain ⟨k0, k1, k2, k3, k4, k5, k6, k7, k8, k9, k10, k11, k12, k13, k14, k15, k16, k17, k18, k19, k20, k21, k22, k23⟩ := pk_at p a c
  go_enter Tryd.func33, Tryd.ntmps33
  go_wp2_with (first
    | (at_builtin; refine wpList_append_cells rfl _ _ 25 rfl w.heap.size 31 i0 _ 2 24 Tryd.underlying25 hi hz0 hz1 hz2 rfl (by decide) (.slice none 0 0) 0 [] rfl (World.ownsRow_nil _ _ _ _) a p.subs.length c HC.out (subCells p.subs) rfl HL.out (HK.out.rowAt 0 rfl) HO.out (by unfold maxLen; omega) (by omega) (by simp; omega) ?_; intro v1 w1 hown hg1; rw [Nat.zero_add, List.nil_append] at hown; replace HK := Lib.hid (HK.out.below (below_none hg1)); have HW := Lib.hid hown; obtain ⟨a1, c1, hv1, hc1, hcells1⟩ := own_form hown; subst hv1; clear hown hcells1 hg1; have hX := (HK.out.at 1 rfl).cells; have hF := (HK.out.at 1 rfl).frozen)
    | ((with_reducible show wpList _ _ _ (⟨_, .load 27 _, _, _, _, _⟩ :: _) _ _); clear hX hF; replace HW := Lib.hid (own_only HW.out (Only.setCell (F := fun j => j = w.heap.size) (Only.refl _ _) (p := ⟨w.heap.size, 22, none⟩) (Or.inl rfl) (.slice a1 p.subs.length c1)) ((HK.out.at 1 rfl).ne_own HW.out (by decide))); replace HK := Lib.hid (HK.out.set (i := 1) rfl 22 _ (pk_slice p a a1 c c1)); generalize World.setCell w1 _ _ = w2 at HK HW ⊢; refine wpList_load_box rfl 27 _ rfl (w.heap.size) rfl 27 (pkV p a1 c1) (HK.out.at 1 rfl) _ Tryd.underlying27 rfl (pk_size _ _ _) ?_)
    | ((with_reducible show wpList _ _ _ (⟨none, .store 27 _ _, _, _, _, _⟩ :: _) _ _); refine wpList_store_box rfl 27 _ _ rfl (w.heap.size + 1) (pkV p a1 c1) rfl rfl 27 (pkV Pk.zero none 0) (HK.out.at 0 rfl) (pk_size _ _ _) rfl (pk_one _ _ _) ?_; intro w3 hbx hon; replace HW := Lib.hid (own_only HW.out hon ((HK.out.at 0 rfl).ne_own HW.out (by decide))); replace HK := Lib.hid (HK.out.only (i := 0) rfl hon hbx)))
  exact bodyPost_ret (v := .agg (pkV p a1 c1)) (results_cell_row rfl _ _ (w.heap.size + 1) 27 (pkV p a1 c1) (0, 0) _ rfl (HK.out.at 0 rfl) Tryd.underlying27 rfl (pk_size _ _ _)) rfl ⟨a1, c1, rfl, HW.out, HK.out.low⟩
end Go.Proofs.YtfljdlaelanliaaDoor
