/- The walks of the reference's Clear and Copy. Conditions: the list lies behind its pointer. -/
import Derived.Test.YtbhmflkhcadaeaaDoorRefSubs2
namespace Go.Proofs.YtbhmflkhcadaeaaDoor
open Go.RowKit

/-- What the reference's Clear leaves. -/
def RetRClear (B g : Nat) (v : Value) (S : List Sb) (w : World) (e : Ending) (w' : World) : Prop :=
  ∃ r, e = .returned r ∧ w'.ownsRow w.heap.size 9 1 r S.length (strsOf S) ∧ RAt w' B g (.slice none 0 0) [] ∧ Only (Foot g v) w w'

set_option maxRecDepth 100000 in
theorem ref15_Clear (B g : Nat) (v : Value) (S : List Sb) (w : World) (hL : RAt w B g v S) (hfew : S.length ≤ 16) :
    Calls Tryd.prog 29 #[.pointer (some ⟨g, 0, none⟩)] w (RetRClear B g v S w) := by
  obtain ⟨i0, hi, hz0, hz1, hz2⟩ := info_parts infoStr
  have HL := Lib.hid (fun w1 (hb : Below w.heap.size w w1) => hL.below hb)
  have FIN := Lib.hid (show ∀ w1 r, Below w.heap.size w w1 → w1.ownsRow w.heap.size 9 1 r S.length (strsOf S) → RetRClear B g v S w (.returned r) (w1.setCell ⟨g, 0, none⟩ (.slice none 0 0)) from fun w1 r hb h => by
    have hl := hL.below hb
    have hlt := hL.blk.lt
    refine ⟨r, rfl, own_only h ((Only.refl (fun k => k = g) _).setCell (Or.inl rfl) _) ?_, ⟨hl.blk.set _, RowAt.of_own (World.ownsRow_nil _ _ _ _), hL.lo⟩, (Only.of_below hb _).setCell (Or.inl (Or.inl rfl)) _⟩
    rintro k hk rfl
    have := (own_lt h hk).2
    omega)
  obtain ⟨a, c, hv, hc, _⟩ := hL.own.form
  subst hv
  clear hL
  go_enter Tryd.func29, Tryd.ntmps29
  go_wp2_with fail
  go_loopw [3, 4] (fun p i wr => ∃ k : Nat, k ≤ S.length ∧ i = .int .i64 k ∧ Hid (wr.ownsRow w.heap.size 9 1 p k (strsOf (S.take k))) ∧ Below w.heap.size w wr) (fun _ i _ => S.length - (intOf i).toNat)
  case atStart => exact ⟨0, by omega, rfl, World.ownsRow_nil _ _ _ _, Below.refl _ _⟩
  case round =>
    obtain ⟨k, hk, rfl, HROW, hbr⟩ := hrel
    have hlr := HL.out _ hbr
    have hcell := hlr.blk.cell
    by_cases hlt : k < S.length
    · obtain ⟨x, hx⟩ : ∃ x, S[k]? = some x := ⟨_, List.getElem?_eq_getElem hlt⟩
      obtain ⟨a', c', hv, _, hcells⟩ := hlr.own.form
      injection hv with e1 _ e2
      subst e1 e2
      obtain ⟨bb, o, rfl, c1, c2⟩ := hcells.sub hx
      have HST := Lib.hid (show strsOf (S.take (k + 1)) = strsOf (S.take k) ++ [.string x.1] by unfold strsOf; rw [List.take_add_one, hx]; simp)
      have hsz := hbr.size
      obtain ⟨f, q⟩ := x
      dsimp only at *
      clear hx hcells hlr
      go_wp2_with (first
        | (at_builtin; refine wpList_append_own _ rfl (.tmp 14) (.tmp 23) 46 rfl w.heap.size 9 i0 _ 1 16 Tryd.underlying46 hi hz0 hz1 hz2 rfl (by decide) _ k (strsOf (S.take k)) rfl (HROW.out.alloc _) ⟨wr.heap.size, 0, none⟩ 1 1 [.string f] rfl rfl (newsN _ _ _ _ rfl) (by simp [Value.oneCell']) (by unfold maxLen; omega) (by omega) (by simp; omega) ?_; intro v2 w2 hown2 hg2 _; have hb2 := Below.grown' (hbr.alloc hsz _) hg2 (by simp; omega) (fun r hr => (own_lt HROW.out hr).2); have HROW2 := Lib.hid hown2; clear hown2 hg2))
      go_roundw
      case rel => exact ⟨k + 1, by omega, by first | rfl | go_num, by rw [Hid, HST.out]; exact HROW2.out, hb2⟩
      case measure => simp [intOf]; omega
    · have : k = S.length := by omega
      subst this
      have hfr := hlr.blk.frozen 0
      have hrow := HROW.out
      rw [List.take_length] at hrow
      have HR := Lib.hid hrow
      clear hlr hrow
      go_wp2_with fail
      go_ret
      exact FIN.out _ _ hbr HR.out

theorem ref15_Copy (B g : Nat) (v : Value) (S : List Sb) (w : World) (hL : RAt w B g v S) (hfew : S.length ≤ 16) :
    Calls Tryd.prog 33 #[.pointer (some ⟨g, 0, none⟩)] w fun e w' => ∃ g' v', e = .returned (.pointer (some ⟨g', 0, none⟩)) ∧ RAt w' w.heap.size g' v' S ∧ Below w.heap.size w w' := by
  obtain ⟨i0, hi, hz0, hz1, hz2⟩ := info_parts infoSub
  have hcell := hL.blk.cell
  have hlt := hL.blk.lt
  obtain ⟨a, c, rfl, hc, hcells⟩ := hL.own.form
  have hAc : a = none → c = 0 := fun h => by
    rcases hL.own.2 with ⟨hv, _⟩ | ⟨_, _, _, hv, _⟩
    · injection hv
    · rw [h] at hv; cases hv
  have HC := Lib.hid (fun w1 (hb : Below w.heap.size w w1) => hcells.below hb)
  have HL := Lib.hid (subCells_len S)
  have HO := Lib.hid (subCells_one S)
  have FIN := Lib.hid (show ∀ (w1 : World) (r : Value), Below w.heap.size w w1 → w1.ownsRow w.heap.size 33 2 r S.length (subCells S) → ∃ g' v', Ending.returned (.pointer (some ⟨w1.heap.size, 0, none⟩)) = .returned (.pointer (some ⟨g', 0, none⟩)) ∧ RAt (w1.alloc (.cells #[r] 30)) w.heap.size g' v' S ∧ Below w.heap.size w (w1.alloc (.cells #[r] 30)) from fun w1 r hb h => by
    exact ⟨_, r, rfl, ⟨OneAt.new _ _ _, RowAt.of_own (h.alloc _), hb.size⟩, hb.alloc hb.size _⟩)
  clear hL hcells
  go_enter Tryd.func33, Tryd.ntmps33
  go_wp2_with (first
    | (at_builtin; (refine wpList_append_cells rfl (.tmp 3) (.tmp 7) 28 rfl w.heap.size 33 i0 _ 2 24 Tryd.underlying28 hi hz0 hz1 hz2 rfl (by decide) (.slice (some ⟨w.heap.size, 0, none⟩) 0 0) 0 [] rfl ⟨rfl, Or.inr ⟨w.heap.size, 0, #[], rfl, Nat.le_refl _, heap_alloc_new w _, Nat.le_refl _, by unfold maxLen; omega, rfl, rfl⟩⟩ a S.length c hAc (subCells S) rfl HL.out (HC.out _ ((Below.refl _ _).alloc (Nat.le_refl _) _)) HO.out (by unfold maxLen; omega) (by omega) (by simp) ?_; intro v2 w2 hown2 hg2; have hb2 := Below.grown' ((Below.refl w.heap.size w).alloc (Nat.le_refl _) _) hg2 (by simp) (by intro g h; have h2 : w.heap.size = g := (by simpa [Value.ownBlock] using h); omega); rw [Nat.zero_add, List.nil_append] at hown2; have HR := Lib.hid hown2; obtain ⟨a2, c2, rfl, _, _⟩ := own_form hown2; clear hown2)))
  go_ret
  exact FIN.out _ _ hb2 HR.out
end Go.Proofs.YtbhmflkhcadaeaaDoor
