import Derived.Test.YtmppkgonkkffhaaDoorSubsSetNew
namespace Go.Proofs.YtmppkgonkkffhaaDoor
open Go.RowKit
theorem subs_Set (B g : Nat) (v : Value) (S : List Sb) (f : ByteArray) (q : Nat) (w : World) (hE : Env w) (hL : LAt w B g v S) (hS : Fine S) (hB : B ≤ w.heap.size) (hf : f.size ≤ 300) (hq : q < 256) :
    Calls Tryd.prog 44 #[.pointer (some ⟨g, 0, none⟩), .string f, .int .u8 (q : Int)] w (RetSet B g v (setS S f q).1 (setS S f q).2 w) := by
  unfold setS; cases hok : okQ (bl f) q with
  | false =>
    simp only [Bool.false_and, Bool.false_eq_true, if_false]; exact set_refused B g v S f q w hE hL hf hq hok
  | true =>
    cases hat : atS S (bl f) with
    | true =>
      simp only [Bool.true_and, Bool.true_or, if_true]; exact set_there B g v S f q w hE hL hS hf hq hok hat
    | false =>
      by_cases hroom : S.length < 16
      · simp only [Bool.true_and, Bool.false_or, hroom, decide_true, if_true]
        exact set_new B g v S f q w hE hL hS hB hf hq hok hat hroom
      · simp only [Bool.true_and, Bool.false_or, hroom, decide_false, Bool.false_eq_true, if_false]
        exact set_full B g v S f q w hE hL hS hf hq hok hat hroom
theorem setS_fine {S : List Sb} (hS : Fine S) (f : ByteArray) (q : Nat) (hf : f.size ≤ 300) : Fine (setS S f q).2 := by
  unfold setS; split
  · rename_i h
    rw [Bool.and_eq_true, Bool.or_eq_true, decide_eq_true_eq] at h; unfold okQ at h; rw [Bool.and_eq_true, decide_eq_true_eq] at h; refine ⟨ins_sort S f q hS.sort, ?_, fun x hx => ?_⟩
    · have hl := ins_len S f q
      have hfw := hS.few; dsimp only
      rw [hl]; cases hat : atS S (bl f) with
      | false =>
        rw [hat] at h; have : S.length < 16 := by simpa using h.2
        simp only [Bool.false_eq_true, if_false]; omega
      | true => simp only [if_true]; exact hfw
    · rcases ins_mem S f q x hx with rfl | hx
      · exact ⟨h.1.2, h.1.1, hf⟩
      · exact hS.good x hx
  · exact hS
theorem delS_mem {S : List Sb} {f : Bs} {x : Sb} (h : x ∈ delS S f) : x ∈ S := by
  unfold delS at h; split at h
  · rcases List.mem_append.1 h with h | h
    · exact List.mem_of_mem_take h
    · exact List.mem_of_mem_drop h
  · exact h
theorem delS_fine {S : List Sb} (hS : Fine S) (f : Bs) : Fine (delS S f) := by
  refine ⟨del_sort S f hS.sort, ?_, fun x hx => hS.good x (delS_mem hx)⟩; have h := hS.few; have e := del_filter S f hS.sort; rw [← e]; exact Nat.le_trans (List.length_filter_le _ _) h
def RetDrop (B g : Nat) (v : Value) (there : Bool) (S' : List Sb) (w : World) (e : Ending) (w' : World) : Prop :=
  ∃ v', e = .returned (.bool there) ∧ LAt w' B g v' S' ∧ Only (Foot g v) w w' ∧ (∀ r, v'.ownBlock = some r → v.ownBlock = some r ∨ w.heap.size ≤ r)
theorem drop_none (B g : Nat) (v : Value) (S : List Sb) (f : ByteArray) (w : World) (hL : LAt w B g v S) (hS : Fine S) (hat : atS S (bl f) = false) :
    Calls Tryd.prog 45 #[.pointer (some ⟨g, 0, none⟩), .string f] w (RetDrop B g v false S w) := by
  have FIN := Lib.hid (show ∀ w', Below w.heap.size w w' → RetDrop B g v false S w (.returned (.bool false)) w' from fun w' hb => ⟨v, rfl, hL.below hb, Only.of_below hb _, fun r h => Or.inl h⟩); have HFI := subs_find B g v S f w hL hS; rw [hat] at HFI; have HFI := Lib.hid HFI; clear hL hS hat; go_enter Tryd.func45, Tryd.ntmps45
  go_wp2_with (first
    | (go_at_call 63; refine Calls.mono HFI.out ?_; rintro e w2 ⟨rfl, hb⟩))
  go_ret
  exact FIN.out _ hb
theorem run_append_nothing {P : Program} (w : World) (t ty e : TypeId) (i : TypeInfo) (ht : P.underlying t = some (.slice e)) (hi : P.info? e = some i) (A X : Option Addr) (n c m cx : Nat) (hm : m = 0) (hnc : n ≤ c) :
    (Builtin.append_ #[t, t] ty #[.slice A n c, .slice X m cx]).run P w = .ok (.slice A n c) w := by
  subst hm; cases X with
  | none => cases A with
    | none => simp [Builtin.append_, run_underlying ht, sizeOf, typeInfo, hi, Builtin.lenOf, Builtin.firstCells, hnc, storeCells]
    | some a => simp [Builtin.append_, run_underlying ht, sizeOf, typeInfo, hi, Builtin.lenOf, Builtin.firstCells, hnc, storeCells]
  | some x => cases A with
    | none => simp [Builtin.append_, run_underlying ht, sizeOf, typeInfo, hi, Builtin.lenOf, Builtin.firstCells, hnc, storeCells, loadCells, loadCellsFrom]
    | some a => simp [Builtin.append_, run_underlying ht, sizeOf, typeInfo, hi, Builtin.lenOf, Builtin.firstCells, hnc, storeCells, loadCells, loadCellsFrom]
theorem step_append_nothing {P : Program} {ops : Array Oper} {o : Oper} {a : Act} {w : World} {K : Act → World → Prop} {Q : Exit → Act → World → Prop} {E : Prop} (hgd : o.guard = none) (s x : Operand) (t : TypeId)
    (ho : o.op = .call { callee := .builtin .append, args := #[s, x], argTypes := #[t, t] }) (e : TypeId) (i : TypeInfo) (ht : P.underlying t = some (.slice e)) (hi : P.info? e = some i)
    (A X : Option Addr) (n c m cx : Nat) (hs : a.eval s = .slice A n c) (hx : a.eval x = .slice X m cx) (hm : m = 0) (hnc : n ≤ c)
    (h : K (a.put o.dst (.slice A n c)) w) : if Region.wanted o (yielded ops a.tmps) = true then Oper.wp P o a w K Q else E := by
  have hw : Region.wanted o (yielded ops a.tmps) = true := by simp [Region.wanted, hgd]
  rw [if_pos hw]; have hrun := run_append_nothing (P := P) w t o.type e i ht hi A X n c m cx hm hnc; unfold Oper.wp execOp; simp only [ho, resolve, invoke, builtin, Sem.run_bind, Sem.run_pure, Result.andThen_ok, List.map_toArray, List.map_cons, List.map_nil, hs, hx, hrun]; exact h
theorem del_cells (S : List Sb) (f : Bs) (h : atS S f = true) : subCells (S.take (posS S f)) ++ subCells (S.drop (posS S f + 1)) = subCells (delS S f) ∧ (delS S f).length + 1 = S.length ∧ posS S f < S.length := by
  have hp := posS_le S f; have hat := atS_at S f; rw [h] at hat; have hlt : posS S f < S.length := by
    rcases Nat.lt_or_ge (posS S f) S.length with h | h
    · exact h
    · rw [List.getElem?_eq_none h] at hat; cases hat
  unfold delS; rw [if_pos h, subCells_append]; refine ⟨rfl, ?_, hlt⟩; rw [List.length_append, List.length_take, List.length_drop]; omega
theorem stored_drop {w w4 : World} {B g base n c : Nat} {v : Value} {S S' : List Sb} {a : Option Addr} (hL : LAt w B g v S) (hB : B ≤ w.heap.size) (hb : Below w.heap.size w w4) (hbase : w.heap.size ≤ base)
    (hown : w4.ownsRow base 77 2 (.slice a n c) n (subCells S')) (hn : n = S'.length) : RetDrop B g v true S' w (.returned (.bool true)) (w4.setCell ⟨g, 0, none⟩ (.slice a n c)) := by
  obtain ⟨v', _, h2, h3, h4⟩ := stored_list (code := 0) hL hB hb hbase hown hn; subst hn; have hl := hL.below hb; refine ⟨_, rfl, ⟨hl.blk.set _, ?_, hL.lo⟩, h3, fun r hr => Or.inr (Nat.le_trans hbase (own_lt hown hr).2)⟩; refine RowAt.base (B := base) ?_ (by omega); refine (RowAt.of_own hown).only ((Only.refl (fun k => k = g) _).setCell (Or.inl rfl) _) ?_; rintro r hr rfl; have := (own_lt hown hr).2; have := hL.blk.lt; omega
set_option maxHeartbeats 2000000 in
set_option maxRecDepth 100000 in
theorem drop_there (B g : Nat) (v : Value) (S : List Sb) (f : ByteArray) (w : World) (hL : LAt w B g v S) (hS : Fine S) (hB : B ≤ w.heap.size) (hat : atS S (bl f) = true) :
    Calls Tryd.prog 45 #[.pointer (some ⟨g, 0, none⟩), .string f] w (RetDrop B g v true (delS S (bl f)) w) := by
  obtain ⟨i0, hi, hz0, hz1, hz2⟩ := info_parts infoSub; have HFI := subs_find B g v S f w hL hS; rw [hat] at HFI; have HFI := Lib.hid HFI; obtain ⟨hdc, hdl, hp⟩ := del_cells S (bl f) hat; have hfew := hS.few; obtain ⟨rb, c, cur, hv, hBr, hh, hnc, hcm, hsz, hxs⟩ : ∃ rb cap cur, v = .slice (some ⟨rb, 0, none⟩) S.length cap ∧ B ≤ rb ∧ w.heap[rb]? = some (.cells cur 77 (0, 0)) ∧ S.length ≤ cap ∧ cap ≤ maxLen ∧ cap * 2 ≤ cur.size ∧ cur.toList.take (S.length * 2) = subCells S := by
    rcases hL.own.2 with ⟨_, h0⟩ | h
    · omega
    · exact h
  subst hv; have HL := Lib.hid (fun w1 (hb : Below w.heap.size w w1) => hL.below hb); have hgr : g ≠ rb := fun e => RowAt.ne hL.blk hL.own (by decide) (by rw [e]; rfl)
  generalize posS S (bl f) = p at *; have g1 : (0 : Int) ≤ (p : Int) := by omega
  have g2 : (p : Int) ≤ (S.length : Int) := by omega
  have g3 : (p : Int) ≤ (c : Int) := by omega
  have g4 : (p : Int) + 1 ≤ (S.length : Int) := by omega
  have g5 : ((p : Int) + 1).toNat = p + 1 := by omega
  have g6 : (0 : Int) ≤ (p : Int) + 1 := by omega
  have g7 : IntKind.i64.wrap ((p : Int) + 1) = (p : Int) + 1 := by rw [IntKind.wrap_i64]; omega
  by_cases hlast : S.length = p + 1
  · have FIN := Lib.hid (show ∀ w1, Below w.heap.size w w1 → RetDrop B g (.slice (some ⟨rb, 0, none⟩) S.length c) true (delS S (bl f)) w (.returned (.bool true)) (w1.setCell ⟨g, 0, none⟩ (.slice (some ⟨rb, 0, none⟩) p p)) from fun w1 hb => by
      have hl := hL.below hb; have hn : (delS S (bl f)).length = p := by omega
      refine ⟨_, rfl, ⟨hl.blk.set _, ?_, hL.lo⟩, (Only.of_below hb _).setCell (Or.inl (Or.inl rfl)) _, fun r hr => Or.inl hr⟩; have h1 := hl.own.cut p (by omega); have h2 : (subCells S).take (p * 2) = subCells (delS S (bl f)) := by
        rw [← hdc, List.drop_eq_nil_of_le (by omega)]; show _ = _ ++ []
        rw [List.append_nil]; have hl : (subCells (S.take p)).length = p * 2 := by rw [subCells_len, List.length_take, Nat.min_eq_left (by omega)]
        conv => lhs; rw [← List.take_append_drop p S, subCells_append]
        rw [← hl, List.take_left']; rfl
      rw [h2] at h1; rw [hn]; exact h1.only ((Only.refl (fun k => k = g) _).setCell (Or.inl rfl) _) (by
        rintro r hr rfl; injection hr with hr
        exact hgr hr.symm))
    have hm0 : S.length - (p + 1) = 0 := by omega
    clear hdc hdl hh hxs hsz hL hS hat; go_enter Tryd.func45, Tryd.ntmps45
    go_wp2_with (first
      | (go_at_call 63; refine Calls.mono HFI.out ?_; rintro e w2 ⟨rfl, hb⟩; have hcell := (HL.out _ hb).blk.cell; have hfr := (HL.out _ hb).blk.frozen 0))
    go_region_law (first
      | (refine step_append_nothing rfl (.tmp 23) (.tmp 30) 31 rfl 77 i0 Tryd.underlying31 hi _ _ p p _ _ (by rfl) (by rfl) (by omega) (Nat.le_refl _) ?_))
    all_goals go_wp2_with fail
    all_goals go_ret
    all_goals first | exact FIN.out _ hb | exact FIN.out _ (below_add hb 1)
  · have hmore : p + 1 < S.length := by omega
    have hcp : ¬ c = p + 1 := by omega
    have FIN := Lib.hid (show ∀ (w4 : World) (base : Nat) (a2 : Option Addr) (c2 : Nat), Below w.heap.size w w4 → w.heap.size ≤ base → w4.ownsRow base 77 2 (.slice a2 (p + (S.length - (p + 1))) c2) (p + (S.length - (p + 1))) (subCells (S.take p) ++ subCells (S.drop (p + 1))) →
        RetDrop B g (.slice (some ⟨rb, 0, none⟩) S.length c) true (delS S (bl f)) w (.returned (.bool true)) (w4.setCell ⟨g, 0, none⟩ (.slice a2 (p + (S.length - (p + 1))) c2)) from fun w4 base a2 c2 hb hbase hown => by
      rw [hdc] at hown; exact stored_drop hL hB hb hbase hown (by omega))
    have HT := Lib.hid (show (subCells (S.take p)).length = p * 2 by rw [subCells_len, List.length_take, Nat.min_eq_left (by omega)]); have HDL := Lib.hid (show (subCells (S.drop (p + 1))).length = (S.length - (p + 1)) * 2 by rw [subCells_len, List.length_drop]); have HDO := Lib.hid (subCells_one (S.drop (p + 1))); have hcl : ∀ w1, Below w.heap.size w w1 → ∀ j u, (subCells S)[j]? = some u → w1.cell? ((⟨rb, 0, none⟩ : Addr).add j) = some u := fun w1 hb j u hu => by
      have hl := (hL.below hb).own; rw [Addr.add_lit, Nat.zero_add, hl.cellAt j (by have := (List.getElem?_eq_some_iff.1 hu).1; rw [subCells_len] at this; exact this)]; exact hu
    have HOLD := Lib.hid (fun w1 (hb : Below w.heap.size w w1) => (show ∀ b, some (⟨rb, 0, none⟩ : Addr) = some b → ∀ j u, (subCells (S.take p))[j]? = some u → w1.cell? (b.add j) = some u from by
      intro b hab j u hu; injection hab with hab
      subst hab; refine hcl w1 hb j u ?_; rw [← List.take_append_drop p S, subCells_append, List.getElem?_append_left (List.getElem?_eq_some_iff.1 hu).1]; exact hu))
    have HSRC := Lib.hid (fun w1 (hb : Below w.heap.size w w1) => (show ∀ j u, (subCells (S.drop (p + 1)))[j]? = some u → w1.cell? ((⟨rb, (p + 1) * 2, none⟩ : Addr).add j) = some u from by
      intro j u hu; have hl : (subCells (S.take (p + 1))).length = (p + 1) * 2 := by rw [subCells_len, List.length_take, Nat.min_eq_left (by omega)]
      have h1 := hcl w1 hb ((p + 1) * 2 + j) u (by
        conv => lhs; rw [← List.take_append_drop (p + 1) S, subCells_append]
        rw [List.getElem?_append_right (by omega), hl, Nat.add_sub_cancel_left]; exact hu)
      rw [Addr.add_lit] at h1 ⊢; rw [Nat.zero_add] at h1; exact h1))
    clear hdc hdl hh hxs hsz hL hS hat hcl; go_enter Tryd.func45, Tryd.ntmps45
    go_wp2_with (first
      | (go_at_call 63; refine Calls.mono HFI.out ?_; rintro e w2 ⟨rfl, hb⟩; have hcell := (HL.out _ hb).blk.cell))
    go_region_law (first
      | (refine step_append_grows rfl (.tmp 23) (.tmp 30) 31 rfl 77 i0 _ 2 24 Tryd.underlying31 hi hz0 hz1 hz2 rfl (by decide) (some ⟨rb, 0, none⟩) p p (subCells (S.take p)) (by rfl) (fun h => by cases h) HT.out (HOLD.out _ (below_add hb 1)) ⟨rb, (p + 1) * 2, none⟩ (S.length - (p + 1)) (c - (p + 1)) (subCells (S.drop (p + 1))) (by rfl) HDL.out (HSRC.out _ (below_add hb 1)) HDO.out (by omega) (by unfold maxLen; omega) (by omega) ?_; intro v1 w3 hown1 hg1; have hb3 := Below.then (below_add hb 1) (below_none hg1); have hcell3 := (HL.out _ hb3).blk.cell; have hfr3 := (HL.out _ hb3).blk.frozen 0; obtain ⟨a2, c2', rfl, _, _⟩ := own_form hown1))
    all_goals go_wp2_with fail
    all_goals go_ret
    all_goals exact FIN.out _ _ _ _ hb3 (below_add hb 1).size hown1
end Go.Proofs.YtmppkgonkkffhaaDoor
