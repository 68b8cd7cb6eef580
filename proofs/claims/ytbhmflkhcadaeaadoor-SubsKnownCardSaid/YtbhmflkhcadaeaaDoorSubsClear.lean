/- The walks of the list's New, Drop and Clear. Conditions: the list lies behind its pointer, its filters in order. -/
import Derived.Test.YtbhmflkhcadaeaaDoorSubsDrop
namespace Go.Proofs.YtbhmflkhcadaeaaDoor
open Go.RowKit

theorem subs_Drop (B g : Nat) (v : Value) (S : List Sb) (f : ByteArray) (w : World) (hL : LAt w B g v S) (hS : Fine S) (hB : B ≤ w.heap.size) :
    Calls Tryd.prog 21 #[.pointer (some ⟨g, 0, none⟩), .string f] w (RetDrop B g v (atS S (bl f)) (delS S (bl f)) w) := by
  cases hat : atS S (bl f) with
  | true => exact drop_there B g v S f w hL hS hB hat
  | false =>
    have h : delS S (bl f) = S := by unfold delS; rw [hat]; rfl
    rw [h]
    exact drop_none B g v S f w hL hS hat

theorem infoStr : (Tryd.prog.info? 9).map (fun i => (i.zero, i.size, i.bytes)) = some (some (.string ByteArray.empty), 1, 16) := by kernel_rfl

theorem subs_New (w : World) : Calls Tryd.prog 11 #[] w fun e w' => e = .returned (.pointer (some ⟨w.heap.size, 0, none⟩)) ∧ LAt w' w.heap.size w.heap.size (.slice none 0 0) [] ∧ Below w.heap.size w w' := by
  go_enter Tryd.func11, Tryd.ntmps11
  go_wp2_with fail
  go_ret
  exact ⟨rfl, ⟨OneAt.new _ _ _, RowAt.of_own (World.ownsRow_nil _ _ _ _), Nat.le_refl _⟩, by go_grown⟩

theorem own_ne_own {w : World} {B B' n m size size' : Nat} {e e' : TypeId} {x y : Value} {xs ys : List Value} (h : w.ownsRow B e size x n xs) (k : w.ownsRow B' e' size' y m ys) (hne : e ≠ e') (r : Nat) (hr : x.ownBlock = some r) : y.ownBlock ≠ some r := by
  rcases h.2 with ⟨rfl, _⟩ | ⟨g, cap, cur, rfl, _, hh, _⟩
  · simp [Value.ownBlock] at hr
  · rcases k.2 with ⟨rfl, _⟩ | ⟨g', cap', cur', rfl, _, hh', _⟩
    · simp [Value.ownBlock]
    · simp only [Value.ownBlock, Option.some.injEq] at hr ⊢
      subst hr
      intro he
      injection he with he
      subst he
      rw [hh] at hh'
      injection hh' with hh'
      injection hh' with _ ht
      exact hne ht
theorem own_grown {w w' : World} {B n size : Nat} {e : TypeId} {x : Value} {xs : List Value} (h : w.ownsRow B e size x n xs) {row : Option Nat} (k : w.grownBy w' row) (hne : ∀ r, row = some r → x.ownBlock ≠ some r) : w'.ownsRow B e size x n xs :=
  own_only h (F := fun j => row = some j) ⟨k.os, k.tape, k.output, k.size, fun i hi hF => k.block i hi (fun e => hF e.symm)⟩ (fun g hg hr => hne g hr hg)
theorem news1 (w : World) (T : TypeId) (x : Value) (B : Nat) (hB : w.heap.size = B) (j : Nat) (u : Value) (h : [x][j]? = some u) : (w.alloc (.cells #[x] T)).cell? ((⟨B, 0, none⟩ : Addr).add j) = some u := by
  subst hB
  rw [Addr.add_lit, Nat.zero_add, cell_of_row _ _ _ _ _ _ (heap_alloc_new w _)]
  simpa using h
def strsOf (S : List Sb) : List Value := S.map fun x => Value.string x.1
/-- What Clear leaves: the filters' texts in new memory; an empty list. -/
def RetClear (B g : Nat) (v : Value) (S : List Sb) (w : World) (e : Ending) (w' : World) : Prop :=
  ∃ r, e = .returned r ∧ w'.ownsRow w.heap.size 9 1 r S.length (strsOf S) ∧ LAt w' B g (.slice none 0 0) [] ∧ Only (Foot g v) w w'

set_option maxRecDepth 100000 in
theorem subs_Clear (B g : Nat) (v : Value) (S : List Sb) (w : World) (hL : LAt w B g v S) (hfew : S.length ≤ 16) :
    Calls Tryd.prog 22 #[.pointer (some ⟨g, 0, none⟩)] w (RetClear B g v S w) := by
  obtain ⟨i0, hi, hz0, hz1, hz2⟩ := info_parts infoStr
  have hS := Lib.hid (subs_Subs B g v S w hL hfew)
  have HL := Lib.hid (fun w1 (hb : Below w.heap.size w w1) => hL.below hb)
  have FIN := Lib.hid (show ∀ w1 r, Below w.heap.size w w1 → w1.ownsRow w.heap.size 9 1 r S.length (strsOf S) → RetClear B g v S w (.returned r) (w1.setCell ⟨g, 0, none⟩ (.slice none 0 0)) from fun w1 r hb h => by
    have hl := hL.below hb
    have hlt := hL.blk.lt
    refine ⟨r, rfl, own_only h ((Only.refl (fun k => k = g) _).setCell (Or.inl rfl) _) ?_, ⟨hl.blk.set _, RowAt.of_own (World.ownsRow_nil _ _ _ _), hL.lo⟩, (Only.of_below hb _).setCell (Or.inl (Or.inl rfl)) _⟩
    rintro k hk rfl
    have := (own_lt h hk).2
    omega)
  clear hL
  go_enter Tryd.func22, Tryd.ntmps22
  go_wp2_with (go_at_call 14; refine Calls.mono hS.out ?_; rintro e w1 ⟨r, rfl, hown, hb⟩; obtain ⟨a, c, hr, hc, hcells⟩ := own_form hown; rw [hr])
  subst hr
  clear hcells
  have HOWN := Lib.hid hown
  clear hown
  go_loopw [3, 9] (fun p i wr => ∃ k : Nat, k ≤ S.length ∧ i = .int .i64 k ∧ Hid (wr.ownsRow w.heap.size 9 1 p k (strsOf (S.take k))) ∧ Below w.heap.size w wr ∧ Hid (wr.ownsRow w.heap.size 33 2 (.slice a S.length c) S.length (subCells S))) (fun _ i _ => S.length - (intOf i).toNat)
  case atStart => exact ⟨0, by omega, rfl, World.ownsRow_nil _ _ _ _, hb, HOWN.out⟩
  case round =>
    obtain ⟨k, hk, rfl, HROW, hbr, HOW⟩ := hrel
    by_cases hlt : k < S.length
    · obtain ⟨x, hx⟩ : ∃ x, S[k]? = some x := ⟨_, List.getElem?_eq_getElem hlt⟩
      obtain ⟨a', c', hv, _, hcells⟩ := own_form HOW.out
      injection hv with e1 _ e2
      subst e1 e2
      obtain ⟨bb, o, rfl, c1, c2⟩ := hcells.sub hx
      have HST := Lib.hid (show strsOf (S.take (k + 1)) = strsOf (S.take k) ++ [.string x.1] by unfold strsOf; rw [List.take_add_one, hx]; simp)
      have hsz := hbr.size
      obtain ⟨f, q⟩ := x
      dsimp only at *
      clear hx hcells
      go_wp2_with (first
        | (at_builtin; refine wpList_append_own _ rfl (.tmp 13) (.tmp 16) 46 rfl w.heap.size 9 i0 _ 1 16 Tryd.underlying46 hi hz0 hz1 hz2 rfl (by decide) _ k (strsOf (S.take k)) rfl ((HROW.out.alloc _).alloc _) ⟨wr.heap.size + 1, 0, none⟩ 1 1 [.string f] rfl rfl (news1 _ _ _ _ (by simp)) (by simp [Value.oneCell']) (by unfold maxLen; omega) (by omega) (by simp; omega) ?_; intro v2 w2 hown2 hg2 _; have hb2 := Below.grown' ((hbr.alloc hsz _).alloc (by simp; omega) _) hg2 (by simp; omega) (fun r hr => (own_lt HROW.out hr).2); have HOW2 := Lib.hid (own_grown ((HOW.out.alloc _).alloc _) hg2 (fun r hr => own_ne_own HROW.out HOW.out (by decide) r hr)); have HROW2 := Lib.hid hown2; clear hown2 hg2))
      go_roundw
      case rel => exact ⟨k + 1, by omega, by first | rfl | go_num, by rw [Hid, HST.out]; exact HROW2.out, hb2, HOW2.out⟩
      case measure => simp [intOf]; omega
    · have : k = S.length := by omega
      subst this
      have hcell := (HL.out _ hbr).blk.cell
      have hfr := (HL.out _ hbr).blk.frozen 0
      have hrow := HROW.out
      rw [List.take_length] at hrow
      go_wp2_with fail
      go_ret
      exact FIN.out _ _ hbr hrow
end Go.Proofs.YtbhmflkhcadaeaaDoor
