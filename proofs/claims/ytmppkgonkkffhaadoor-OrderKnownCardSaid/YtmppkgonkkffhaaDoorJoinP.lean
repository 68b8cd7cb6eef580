/- The walks of order.by, reason, done. Conditions: notes lie where the pointers are. -/
import Derived.Test.YtmppkgonkkffhaaDoorJoinO
import Derived.Test.YtmppkgonkkffhaaDoorFrameT
import Derived.Test.YtmppkgonkkffhaaDoorJoinC
namespace Go.Proofs.YtmppkgonkkffhaaDoor
open Go.RowKit
/-- A note lies there. -/
def NtAt (w : World) (N o : Nat) (n : Nt) (a : Option Addr) (c : Nat) : Prop := w.rangeAt N o (ntV n a c).toList
theorem NtAt.cell {w : World} {N o : Nat} {n : Nt} {a : Option Addr} {c : Nat} (h : NtAt w N o n a c) (j : Nat) (v : Value) (hv : (ntV n a c).toList[j]? = some v) : w.cell? ⟨N, o + j, none⟩ = some v := h j v hv
theorem NtAt.below {w w' : World} {N o : Nat} {n : Nt} {a : Option Addr} {c : Nat} (h : NtAt w N o n a c) (k : Below w.heap.size w w') : NtAt w' N o n a c := fun j v hv => (k.cell (p := ⟨N, o + j, none⟩) (World.block_lt_of_cell? _ _ (h j v hv))).trans (h j v hv)
theorem op_eqS {P : Program} {w : World} {o : Oper} {ρ : Operand → Value} {x y : Operand} {T : TypeId} {a b : ByteArray} {v : Bool} (hx : ρ x = .string a) (hy : ρ y = .string b) (ho : o.op = .binOp .eql T x y T) (hT : P.underlying T = some .string) (hu : True = True) (hv : decide (a = b) = v) : (execOp ρ o).run P w = .ok (.value (.bool v)) w := by
  subst hv
  have he : (a == b) = decide (a = b) := by
    rw [Bool.eq_iff_iff, ba_beq, decide_eq_true_iff]
  unfold execOp
  simp only [ho, hx, hy]
  go_simp
  rw [Bool.eq_iff_iff, beq_iff_eq, decide_eq_true_iff]
  constructor
  · intro h
    rw [Lib.toList_data, Lib.toList_data] at h
    cases a with
    | mk a => cases b with
      | mk b => exact congrArg ByteArray.mk (Array.toList_inj.1 h)
  · intro h
    rw [h]
def reasonN (row same : Bool) : Nat := if row then (if same then 0 else 3) else 2
/-- What there is of an op: the places of its notes. -/
structure Pa where
  asks : Option Nat
  does : Option Nat
  routes : Option Nat
  keeps : Option Nat
  tells : Option Nat
def ptrN (N : Nat) : Option Nat → Value
  | some q => .pointer (some ⟨N, q, none⟩)
  | none => .pointer none
def paV (N : Nat) (x : Pa) : Array Value := #[ptrN N x.asks, ptrN N x.does, ptrN N x.routes, ptrN N x.keeps, ptrN N x.tells]
def doneP (x : Pa) : Bool := x.does.isSome || x.routes.isSome || x.tells.isSome
set_option maxRecDepth 100000 in
set_option maxHeartbeats 4000000 in
theorem order_by {w : World} (hE : Env w) {N1 o1 N2 o2 : Nat} {n1 n2 : Nt} {a1 a2 : Option Addr} {c1 c2 : Nat} (h1 : NtAt w N1 o1 n1 a1 c1) (h2 : NtAt w N2 o2 n2 a2 c2) : Calls Tryd.prog 48 #[.pointer (some ⟨N1, o1, none⟩), .pointer (some ⟨N2, o2, none⟩)] w fun e w' => e = .returned (.bool (decide (n1.conn = n2.conn) && decide (n1.client = n2.client))) ∧ Below w.heap.size w w' := by
  obtain ⟨RR, hRR⟩ : ∃ RR : Ending → World → Prop, RR = fun e w' => e = .returned (.bool (decide (n1.conn = n2.conn) && decide (n1.client = n2.client))) ∧ Below w.heap.size w w' := ⟨_, rfl⟩
  have FIN := Lib.hid (show ∀ b w', b = (decide (n1.conn = n2.conn) && decide (n1.client = n2.client)) → Below w.heap.size w w' → RR (.returned (.bool b)) w' from fun b w' h1 hb => by rw [hRR, h1]; exact ⟨rfl, hb⟩)
  rw [← hRR]
  obtain ⟨w9, hw9⟩ : ∃ w9, w9 = w := ⟨_, rfl⟩
  have HK : Keep w [] [] w9 := by rw [hw9]; exact Keep.begin hE _ (by intro r hr; cases hr)
  rw [← hw9] at h1 h2
  suffices hgo : Calls Tryd.prog 48 #[.pointer (some ⟨N1, o1, none⟩), .pointer (some ⟨N2, o2, none⟩)] w9 RR by rw [hw9] at hgo; exact hgo
  clear hw9 hRR hE
  go_enter Tryd.func48, Tryd.ntmps48
  refine wp_forget (n := 25) (L := [(1, .pointer (some ⟨N2, o2, none⟩)), (0, .pointer (some ⟨N1, o1, none⟩))]) (FrL.add (FrL.add (FrL.nil ?_ ?_) _ _ ?_) _ _ ?_) ?_
  iterate 4 rfl
  intro a9 F
  refine wp_seq ?_
  refine wp_region_lit ?_
  refine fr_ch F 1 [(4, .bool false)] (by kernel_rfl) ?_
  clear F a9
  intro a9 F
  refine wpList_nil ?_
  show Code.wp _ _ _ _ _
  by_cases ha : n1.conn = n2.conn
  rotate_left
  · skip
    refine wp_seq ?_
    refine wp_region_noPanic ?_
    have hb8 : Below w9.heap.size w9 w9.drew := below_draws (n := 1) rfl
    replace HK := HK.below hb8
    replace h1 := h1.below hb8
    replace h2 := h2.below hb8
    clear hb8
    refine AnyT.begin (S := fun w' => NtAt w' N1 o1 n1 a1 c1 ∧ NtAt w' N2 o2 n2 a2 c2) (z := 1000) (by kernel_rfl) ⟨h1, h2⟩ (fun hS0 => ?_)
    clear hS0
    generalize w9.drew = w8 at *
    clear w9
    rename World => w9
    refine fr_chT F [0, 1, 2] [(7, .pointer (some ⟨N1, o1 + 2, none⟩)), (6, .pointer (some ⟨N1, o1, none⟩)), (5, .pointer (some ⟨N1, o1, none⟩))] ⟨h1, h2⟩ (by kernel_rfl) ?_
    clear F a9
    intro a9 F
    refine fr_takeG (i := 3) (o := ⟨some 8, _, _, _, _, _⟩) F ⟨h1, h2⟩ rfl (wanted_free rfl) 8 rfl (by decide) (.int .i64 n1.conn) (fun w9 hS => (by intro a' F'; have h7 := F'.at' 7 _ rfl; have hc : w9.cell? ⟨N1, o1 + 2, none⟩ = some (.int .i64 n1.conn) := (hS.1).cell 2 _ rfl; go_simp)) ?_
    clear F a9
    intro a9 F
    refine fr_chT F [4, 5, 6] [(11, .pointer (some ⟨N2, o2 + 2, none⟩)), (10, .pointer (some ⟨N2, o2, none⟩)), (9, .pointer (some ⟨N2, o2, none⟩))] ⟨h1, h2⟩ (by kernel_rfl) ?_
    clear F a9
    intro a9 F
    refine fr_takeG (i := 7) (o := ⟨some 12, _, _, _, _, _⟩) F ⟨h1, h2⟩ rfl (wanted_free rfl) 12 rfl (by decide) (.int .i64 n2.conn) (fun w9 hS => (by intro a' F'; have h11 := F'.at' 11 _ rfl; have hc : w9.cell? ⟨N2, o2 + 2, none⟩ = some (.int .i64 n2.conn) := (hS.2).cell 2 _ rfl; go_simp)) ?_
    clear F a9
    intro a9 F
    refine fr_takeG (i := 8) (o := ⟨some 13, _, _, _, _, _⟩) F ⟨h1, h2⟩ rfl (wanted_free rfl) 13 rfl (by decide) (.bool false) (fun w9 hS => (by intro a' F'; have h8 := F'.at' 8 _ rfl; have h12 := F'.at' 12 _ rfl; go_simp)) ?_
    clear F a9
    intro a9 F
    refine fr_chT F [9, 10, 11, 12, 13, 14, 15, 16, 17, 18, 19, 20] [(4, .bool false), (24, .bool false), (23, undef), (22, undef), (21, undef), (20, undef), (19, undef), (18, undef), (17, undef), (16, undef), (15, undef), (14, .bool false)] ⟨h1, h2⟩ (by kernel_rfl) ?_
    clear F a9
    intro a9 F
    refine AnyT.done (by kernel_rfl) ?_ _
    refine NoPanic.normal ?_
    show Code.wp _ _ _ _ _
    refine wp_ret ?_
    exact fr_ret1 F rfl _ rfl (FIN.out _ _ (by simp [*]) HK.low)
  by_cases hb : n1.client = n2.client
  rotate_left
  · skip
    refine wp_seq ?_
    refine wp_region_noPanic ?_
    have hb8 : Below w9.heap.size w9 w9.drew := below_draws (n := 1) rfl
    replace HK := HK.below hb8
    replace h1 := h1.below hb8
    replace h2 := h2.below hb8
    clear hb8
    refine AnyT.begin (S := fun w' => NtAt w' N1 o1 n1 a1 c1 ∧ NtAt w' N2 o2 n2 a2 c2) (z := 1000) (by kernel_rfl) ⟨h1, h2⟩ (fun hS0 => ?_)
    clear hS0
    generalize w9.drew = w8 at *
    clear w9
    rename World => w9
    refine fr_chT F [0, 1, 2] [(7, .pointer (some ⟨N1, o1 + 2, none⟩)), (6, .pointer (some ⟨N1, o1, none⟩)), (5, .pointer (some ⟨N1, o1, none⟩))] ⟨h1, h2⟩ (by kernel_rfl) ?_
    clear F a9
    intro a9 F
    refine fr_takeG (i := 3) (o := ⟨some 8, _, _, _, _, _⟩) F ⟨h1, h2⟩ rfl (wanted_free rfl) 8 rfl (by decide) (.int .i64 n1.conn) (fun w9 hS => (by intro a' F'; have h7 := F'.at' 7 _ rfl; have hc : w9.cell? ⟨N1, o1 + 2, none⟩ = some (.int .i64 n1.conn) := (hS.1).cell 2 _ rfl; go_simp)) ?_
    clear F a9
    intro a9 F
    refine fr_chT F [4, 5, 6] [(11, .pointer (some ⟨N2, o2 + 2, none⟩)), (10, .pointer (some ⟨N2, o2, none⟩)), (9, .pointer (some ⟨N2, o2, none⟩))] ⟨h1, h2⟩ (by kernel_rfl) ?_
    clear F a9
    intro a9 F
    refine fr_takeG (i := 7) (o := ⟨some 12, _, _, _, _, _⟩) F ⟨h1, h2⟩ rfl (wanted_free rfl) 12 rfl (by decide) (.int .i64 n2.conn) (fun w9 hS => (by intro a' F'; have h11 := F'.at' 11 _ rfl; have hc : w9.cell? ⟨N2, o2 + 2, none⟩ = some (.int .i64 n2.conn) := (hS.2).cell 2 _ rfl; go_simp)) ?_
    clear F a9
    intro a9 F
    refine fr_takeG (i := 8) (o := ⟨some 13, _, _, _, _, _⟩) F ⟨h1, h2⟩ rfl (wanted_free rfl) 13 rfl (by decide) (.bool true) (fun w9 hS => (by intro a' F'; have h8 := F'.at' 8 _ rfl; have h12 := F'.at' 12 _ rfl; go_simp)) ?_
    clear F a9
    intro a9 F
    refine fr_chT F [9, 10, 11, 12] [(17, .pointer (some ⟨N1, o1 + 3, none⟩)), (16, .pointer (some ⟨N1, o1, none⟩)), (15, .pointer (some ⟨N1, o1, none⟩)), (14, .bool true)] ⟨h1, h2⟩ (by kernel_rfl) ?_
    clear F a9
    intro a9 F
    refine fr_takeG (i := 13) (o := ⟨some 18, _, _, _, _, _⟩) F ⟨h1, h2⟩ rfl (by rw [wanted_at F rfl (t := 14) (b := true) (by kernel_rfl) rfl]; rfl) 18 rfl (by decide) (.string n1.client) (fun w9 hS => (by intro a' F'; have h17 := F'.at' 17 _ rfl; have hc : w9.cell? ⟨N1, o1 + 3, none⟩ = some (.string n1.client) := (hS.1).cell 3 _ rfl; go_simp)) ?_
    clear F a9
    intro a9 F
    refine fr_chT F [14, 15, 16] [(21, .pointer (some ⟨N2, o2 + 3, none⟩)), (20, .pointer (some ⟨N2, o2, none⟩)), (19, .pointer (some ⟨N2, o2, none⟩))] ⟨h1, h2⟩ (by kernel_rfl) ?_
    clear F a9
    intro a9 F
    refine fr_takeG (i := 17) (o := ⟨some 22, _, _, _, _, _⟩) F ⟨h1, h2⟩ rfl (by rw [wanted_at F rfl (t := 14) (b := true) (by kernel_rfl) rfl]; rfl) 22 rfl (by decide) (.string n2.client) (fun w9 hS => (by intro a' F'; have h21 := F'.at' 21 _ rfl; have hc : w9.cell? ⟨N2, o2 + 3, none⟩ = some (.string n2.client) := (hS.2).cell 3 _ rfl; go_simp)) ?_
    clear F a9
    intro a9 F
    refine fr_takeG (i := 18) (o := ⟨some 23, _, _, _, _, _⟩) F ⟨h1, h2⟩ rfl (by rw [wanted_at F rfl (t := 14) (b := true) (by kernel_rfl) rfl]; rfl) 23 rfl (by decide) (.bool false) (fun w9 hS => (fun a' F' => op_eqS (F'.ev 18 rfl) (F'.ev 22 rfl) rfl Tryd.underlying9 rfl (decide_eq_false hb))) ?_
    clear F a9
    intro a9 F
    refine fr_chT F [19, 20] [(4, .bool false), (24, .bool false)] ⟨h1, h2⟩ (by kernel_rfl) ?_
    clear F a9
    intro a9 F
    refine AnyT.done (by kernel_rfl) ?_ _
    refine NoPanic.normal ?_
    show Code.wp _ _ _ _ _
    refine wp_ret ?_
    exact fr_ret1 F rfl _ rfl (FIN.out _ _ (by simp [*]) HK.low)
  refine wp_seq ?_
  refine wp_region_noPanic ?_
  have hb8 : Below w9.heap.size w9 w9.drew := below_draws (n := 1) rfl
  replace HK := HK.below hb8
  replace h1 := h1.below hb8
  replace h2 := h2.below hb8
  clear hb8
  refine AnyT.begin (S := fun w' => NtAt w' N1 o1 n1 a1 c1 ∧ NtAt w' N2 o2 n2 a2 c2) (z := 1000) (by kernel_rfl) ⟨h1, h2⟩ (fun hS0 => ?_)
  clear hS0
  generalize w9.drew = w8 at *
  clear w9
  rename World => w9
  refine fr_chT F [0, 1, 2] [(7, .pointer (some ⟨N1, o1 + 2, none⟩)), (6, .pointer (some ⟨N1, o1, none⟩)), (5, .pointer (some ⟨N1, o1, none⟩))] ⟨h1, h2⟩ (by kernel_rfl) ?_
  clear F a9
  intro a9 F
  refine fr_takeG (i := 3) (o := ⟨some 8, _, _, _, _, _⟩) F ⟨h1, h2⟩ rfl (wanted_free rfl) 8 rfl (by decide) (.int .i64 n1.conn) (fun w9 hS => (by intro a' F'; have h7 := F'.at' 7 _ rfl; have hc : w9.cell? ⟨N1, o1 + 2, none⟩ = some (.int .i64 n1.conn) := (hS.1).cell 2 _ rfl; go_simp)) ?_
  clear F a9
  intro a9 F
  refine fr_chT F [4, 5, 6] [(11, .pointer (some ⟨N2, o2 + 2, none⟩)), (10, .pointer (some ⟨N2, o2, none⟩)), (9, .pointer (some ⟨N2, o2, none⟩))] ⟨h1, h2⟩ (by kernel_rfl) ?_
  clear F a9
  intro a9 F
  refine fr_takeG (i := 7) (o := ⟨some 12, _, _, _, _, _⟩) F ⟨h1, h2⟩ rfl (wanted_free rfl) 12 rfl (by decide) (.int .i64 n2.conn) (fun w9 hS => (by intro a' F'; have h11 := F'.at' 11 _ rfl; have hc : w9.cell? ⟨N2, o2 + 2, none⟩ = some (.int .i64 n2.conn) := (hS.2).cell 2 _ rfl; go_simp)) ?_
  clear F a9
  intro a9 F
  refine fr_takeG (i := 8) (o := ⟨some 13, _, _, _, _, _⟩) F ⟨h1, h2⟩ rfl (wanted_free rfl) 13 rfl (by decide) (.bool true) (fun w9 hS => (by intro a' F'; have h8 := F'.at' 8 _ rfl; have h12 := F'.at' 12 _ rfl; go_simp)) ?_
  clear F a9
  intro a9 F
  refine fr_chT F [9, 10, 11, 12] [(17, .pointer (some ⟨N1, o1 + 3, none⟩)), (16, .pointer (some ⟨N1, o1, none⟩)), (15, .pointer (some ⟨N1, o1, none⟩)), (14, .bool true)] ⟨h1, h2⟩ (by kernel_rfl) ?_
  clear F a9
  intro a9 F
  refine fr_takeG (i := 13) (o := ⟨some 18, _, _, _, _, _⟩) F ⟨h1, h2⟩ rfl (by rw [wanted_at F rfl (t := 14) (b := true) (by kernel_rfl) rfl]; rfl) 18 rfl (by decide) (.string n1.client) (fun w9 hS => (by intro a' F'; have h17 := F'.at' 17 _ rfl; have hc : w9.cell? ⟨N1, o1 + 3, none⟩ = some (.string n1.client) := (hS.1).cell 3 _ rfl; go_simp)) ?_
  clear F a9
  intro a9 F
  refine fr_chT F [14, 15, 16] [(21, .pointer (some ⟨N2, o2 + 3, none⟩)), (20, .pointer (some ⟨N2, o2, none⟩)), (19, .pointer (some ⟨N2, o2, none⟩))] ⟨h1, h2⟩ (by kernel_rfl) ?_
  clear F a9
  intro a9 F
  refine fr_takeG (i := 17) (o := ⟨some 22, _, _, _, _, _⟩) F ⟨h1, h2⟩ rfl (by rw [wanted_at F rfl (t := 14) (b := true) (by kernel_rfl) rfl]; rfl) 22 rfl (by decide) (.string n2.client) (fun w9 hS => (by intro a' F'; have h21 := F'.at' 21 _ rfl; have hc : w9.cell? ⟨N2, o2 + 3, none⟩ = some (.string n2.client) := (hS.2).cell 3 _ rfl; go_simp)) ?_
  clear F a9
  intro a9 F
  refine fr_takeG (i := 18) (o := ⟨some 23, _, _, _, _, _⟩) F ⟨h1, h2⟩ rfl (by rw [wanted_at F rfl (t := 14) (b := true) (by kernel_rfl) rfl]; rfl) 23 rfl (by decide) (.bool true) (fun w9 hS => (fun a' F' => op_eqS (F'.ev 18 rfl) (F'.ev 22 rfl) rfl Tryd.underlying9 rfl (decide_eq_true hb))) ?_
  clear F a9
  intro a9 F
  refine fr_chT F [19, 20] [(4, .bool true), (24, .bool true)] ⟨h1, h2⟩ (by kernel_rfl) ?_
  clear F a9
  intro a9 F
  refine AnyT.done (by kernel_rfl) ?_ _
  refine NoPanic.normal ?_
  show Code.wp _ _ _ _ _
  refine wp_ret ?_
  exact fr_ret1 F rfl _ rfl (FIN.out _ _ (by simp [*]) HK.low)
set_option maxRecDepth 100000 in
set_option maxHeartbeats 4000000 in
theorem order_reason (row same : Bool) (w : World) : Calls Tryd.prog 46 #[.bool row, .bool same] w fun e w' => e = .returned (.int .u8 (reasonN row same : Int)) ∧ Below w.heap.size w w' := by
  obtain ⟨RR, hRR⟩ : ∃ RR : Ending → World → Prop, RR = fun e w' => e = .returned (.int .u8 (reasonN row same : Int)) ∧ Below w.heap.size w w' := ⟨_, rfl⟩
  have FIN := Lib.hid (show ∀ k, k = reasonN row same → RR (.returned (.int .u8 (k : Int))) w from fun k h1 => by rw [hRR, h1]; exact ⟨rfl, Below.refl _ _⟩)
  rw [← hRR]
  clear hRR
  rename World => w9
  cases row
  · skip
    go_enter Tryd.func46, Tryd.ntmps46
    refine wp_forget (n := 11) (L := [(1, .bool same), (0, .bool false)]) (FrL.add (FrL.add (FrL.nil ?_ ?_) _ _ ?_) _ _ ?_) ?_
    iterate 4 rfl
    intro a9 F
    refine wp_seq ?_
    refine wp_region_lit ?_
    refine fr_ch F 1 [(4, .int .u8 0)] (by kernel_rfl) ?_
    clear F a9
    intro a9 F
    refine wpList_nil ?_
    show Code.wp _ _ _ _ _
    refine wp_seq ?_
    refine wp_block ?_
    refine wp_seq ?_
    refine wp_region_lit ?_
    refine fr_ch F 3 [(5, .bool true), (7, .bool true), (6, .bool false)] (by kernel_rfl) ?_
    clear F a9
    intro a9 F
    refine wpList_nil ?_
    show Code.wp _ _ _ _ _
    refine wp_cond_true (F.ev 5 rfl) ?_
    refine wp_seq ?_
    refine wp_region_lit ?_
    refine fr_ch F 1 [(4, .int .u8 2)] (by kernel_rfl) ?_
    clear F a9
    intro a9 F
    refine wpList_nil ?_
    show Code.wp _ _ _ _ _
    refine wp_ret ?_
    exact fr_ret1 F rfl _ rfl (FIN.out 2 rfl)
  cases same
  · skip
    go_enter Tryd.func46, Tryd.ntmps46
    refine wp_forget (n := 11) (L := [(1, .bool false), (0, .bool true)]) (FrL.add (FrL.add (FrL.nil ?_ ?_) _ _ ?_) _ _ ?_) ?_
    iterate 4 rfl
    intro a9 F
    refine wp_seq ?_
    refine wp_region_lit ?_
    refine fr_ch F 1 [(4, .int .u8 0)] (by kernel_rfl) ?_
    clear F a9
    intro a9 F
    refine wpList_nil ?_
    show Code.wp _ _ _ _ _
    refine wp_seq ?_
    refine wp_block ?_
    refine wp_seq ?_
    refine wp_region_lit ?_
    refine fr_ch F 3 [(5, .bool false), (7, .bool false), (6, .bool true)] (by kernel_rfl) ?_
    clear F a9
    intro a9 F
    refine wpList_nil ?_
    show Code.wp _ _ _ _ _
    refine wp_cond_false (F.ev 5 rfl) ?_
    refine wp_seq ?_
    refine wp_region_lit ?_
    refine fr_ch F 3 [(8, .bool true), (10, .bool true), (9, .bool false)] (by kernel_rfl) ?_
    clear F a9
    intro a9 F
    refine wpList_nil ?_
    show Code.wp _ _ _ _ _
    refine wp_cond_true (F.ev 8 rfl) ?_
    refine wp_seq ?_
    refine wp_region_lit ?_
    refine fr_ch F 1 [(4, .int .u8 3)] (by kernel_rfl) ?_
    clear F a9
    intro a9 F
    refine wpList_nil ?_
    show Code.wp _ _ _ _ _
    refine wp_ret ?_
    exact fr_ret1 F rfl _ rfl (FIN.out 3 rfl)
  · skip
    go_enter Tryd.func46, Tryd.ntmps46
    refine wp_forget (n := 11) (L := [(1, .bool true), (0, .bool true)]) (FrL.add (FrL.add (FrL.nil ?_ ?_) _ _ ?_) _ _ ?_) ?_
    iterate 4 rfl
    intro a9 F
    refine wp_seq ?_
    refine wp_region_lit ?_
    refine fr_ch F 1 [(4, .int .u8 0)] (by kernel_rfl) ?_
    clear F a9
    intro a9 F
    refine wpList_nil ?_
    show Code.wp _ _ _ _ _
    refine wp_seq ?_
    refine wp_block ?_
    refine wp_seq ?_
    refine wp_region_lit ?_
    refine fr_ch F 3 [(5, .bool false)] (by kernel_rfl) ?_
    clear F a9
    intro a9 F
    refine wpList_nil ?_
    show Code.wp _ _ _ _ _
    refine wp_cond_false (F.ev 5 rfl) ?_
    refine wp_seq ?_
    refine wp_region_lit ?_
    refine fr_ch F 3 [(8, .bool false)] (by kernel_rfl) ?_
    clear F a9
    intro a9 F
    refine wpList_nil ?_
    show Code.wp _ _ _ _ _
    refine wp_cond_false (F.ev 8 rfl) ?_
    refine wp_skip ?_
    show Code.wp _ _ _ _ _
    refine wp_seq ?_
    refine wp_region_lit ?_
    refine fr_ch F 1 [(4, .int .u8 0)] (by kernel_rfl) ?_
    clear F a9
    intro a9 F
    refine wpList_nil ?_
    show Code.wp _ _ _ _ _
    refine wp_ret ?_
    exact fr_ret1 F rfl _ rfl (FIN.out 0 rfl)
set_option maxRecDepth 100000 in
set_option maxHeartbeats 4000000 in
theorem order_done {w : World} {p N : Nat} {x : Pa} (HP : BoxAt w p (paV N x) 83) : Calls Tryd.prog 47 #[.pointer (some ⟨p, 0, none⟩)] w fun e w' => e = .returned (.bool (doneP x)) ∧ Below w.heap.size w w' := by
  obtain ⟨RR, hRR⟩ : ∃ RR : Ending → World → Prop, RR = fun e w' => e = .returned (.bool (doneP x)) ∧ Below w.heap.size w w' := ⟨_, rfl⟩
  have FIN := Lib.hid (show ∀ k, k = doneP x → RR (.returned (.bool k)) w from fun k h1 => by rw [hRR, h1]; exact ⟨rfl, Below.refl _ _⟩)
  rw [← hRR]
  clear hRR
  rename World => w9
  obtain ⟨qs, ds, rs, ks, ts⟩ := x
  cases ds
  rotate_left
  · rename_i q
    go_enter Tryd.func47, Tryd.ntmps47
    refine wp_forget (n := 22) (L := [(0, .pointer (some ⟨p, 0, none⟩))]) (FrL.add (FrL.nil ?_ ?_) _ _ ?_) ?_
    iterate 3 rfl
    intro a9 F
    refine wp_seq ?_
    refine wp_region_lit ?_
    refine fr_ch F 1 [(2, .bool false)] (by kernel_rfl) ?_
    clear F a9
    intro a9 F
    refine wpList_nil ?_
    show Code.wp _ _ _ _ _
    refine wp_seq ?_
    refine wp_region_lit ?_
    refine fr_ch F 3 [(5, .pointer (some ⟨p, 1, none⟩)), (4, .pointer (some ⟨p, 0, none⟩)), (3, .pointer (some ⟨p, 0, none⟩))] (by kernel_rfl) ?_
    clear F a9
    intro a9 F
    refine fr_do F (wanted_free rfl) 6 rfl (by decide) (.pointer (some ⟨N, q, none⟩)) (by intro a' F'; have h5 := F'.at' 5 _ rfl; have hc : w9.cell? ⟨p, 1, none⟩ = some (.pointer (some ⟨N, q, none⟩)) := HP.cells 1; go_simp) ?_
    clear F a9
    intro a9 F
    refine fr_ch F 16 [(2, .bool true), (21, .bool true), (20, undef), (19, undef), (18, undef), (17, undef), (16, undef), (15, .bool true), (14, .bool true), (13, undef), (12, undef), (11, undef), (10, undef), (9, undef), (8, .bool true), (7, .bool true)] (by kernel_rfl) ?_
    clear F a9
    intro a9 F
    refine wpList_nil ?_
    show Code.wp _ _ _ _ _
    refine wp_ret ?_
    exact fr_ret1 F rfl _ rfl (FIN.out _ rfl)
  cases rs
  rotate_left
  · rename_i q
    go_enter Tryd.func47, Tryd.ntmps47
    refine wp_forget (n := 22) (L := [(0, .pointer (some ⟨p, 0, none⟩))]) (FrL.add (FrL.nil ?_ ?_) _ _ ?_) ?_
    iterate 3 rfl
    intro a9 F
    refine wp_seq ?_
    refine wp_region_lit ?_
    refine fr_ch F 1 [(2, .bool false)] (by kernel_rfl) ?_
    clear F a9
    intro a9 F
    refine wpList_nil ?_
    show Code.wp _ _ _ _ _
    refine wp_seq ?_
    refine wp_region_lit ?_
    refine fr_ch F 3 [(5, .pointer (some ⟨p, 1, none⟩)), (4, .pointer (some ⟨p, 0, none⟩)), (3, .pointer (some ⟨p, 0, none⟩))] (by kernel_rfl) ?_
    clear F a9
    intro a9 F
    refine fr_do F (wanted_free rfl) 6 rfl (by decide) (.pointer none) (by intro a' F'; have h5 := F'.at' 5 _ rfl; have hc : w9.cell? ⟨p, 1, none⟩ = some (.pointer none) := HP.cells 1; go_simp) ?_
    clear F a9
    intro a9 F
    refine fr_ch F 2 [(8, .bool false), (7, .bool false)] (by kernel_rfl) ?_
    clear F a9
    intro a9 F
    refine fr_mv F (by rw [wanted_at F rfl (t := 8) (b := false) (by kernel_rfl) rfl]; rfl) 9 rfl (by decide) 0 rfl rfl ?_
    clear F a9
    intro a9 F
    refine fr_nc F (by rw [wanted_at F rfl (t := 8) (b := false) (by kernel_rfl) rfl]; rfl) 10 rfl (by decide) 9 rfl rfl ?_
    clear F a9
    intro a9 F
    refine fr_ch F 1 [(11, .pointer (some ⟨p, 2, none⟩))] (by kernel_rfl) ?_
    clear F a9
    intro a9 F
    refine fr_do F (by rw [wanted_at F rfl (t := 8) (b := false) (by kernel_rfl) rfl]; rfl) 12 rfl (by decide) (.pointer (some ⟨N, q, none⟩)) (by intro a' F'; have h11 := F'.at' 11 _ rfl; have hc : w9.cell? ⟨p, 2, none⟩ = some (.pointer (some ⟨N, q, none⟩)) := HP.cells 2; go_simp) ?_
    clear F a9
    intro a9 F
    refine fr_ch F 10 [(2, .bool true), (21, .bool true), (20, undef), (19, undef), (18, undef), (17, undef), (16, undef), (15, .bool true), (14, .bool true), (13, .bool true)] (by kernel_rfl) ?_
    clear F a9
    intro a9 F
    refine wpList_nil ?_
    show Code.wp _ _ _ _ _
    refine wp_ret ?_
    exact fr_ret1 F rfl _ rfl (FIN.out _ rfl)
  cases ts
  rotate_left
  · rename_i q
    go_enter Tryd.func47, Tryd.ntmps47
    refine wp_forget (n := 22) (L := [(0, .pointer (some ⟨p, 0, none⟩))]) (FrL.add (FrL.nil ?_ ?_) _ _ ?_) ?_
    iterate 3 rfl
    intro a9 F
    refine wp_seq ?_
    refine wp_region_lit ?_
    refine fr_ch F 1 [(2, .bool false)] (by kernel_rfl) ?_
    clear F a9
    intro a9 F
    refine wpList_nil ?_
    show Code.wp _ _ _ _ _
    refine wp_seq ?_
    refine wp_region_lit ?_
    refine fr_ch F 3 [(5, .pointer (some ⟨p, 1, none⟩)), (4, .pointer (some ⟨p, 0, none⟩)), (3, .pointer (some ⟨p, 0, none⟩))] (by kernel_rfl) ?_
    clear F a9
    intro a9 F
    refine fr_do F (wanted_free rfl) 6 rfl (by decide) (.pointer none) (by intro a' F'; have h5 := F'.at' 5 _ rfl; have hc : w9.cell? ⟨p, 1, none⟩ = some (.pointer none) := HP.cells 1; go_simp) ?_
    clear F a9
    intro a9 F
    refine fr_ch F 2 [(8, .bool false), (7, .bool false)] (by kernel_rfl) ?_
    clear F a9
    intro a9 F
    refine fr_mv F (by rw [wanted_at F rfl (t := 8) (b := false) (by kernel_rfl) rfl]; rfl) 9 rfl (by decide) 0 rfl rfl ?_
    clear F a9
    intro a9 F
    refine fr_nc F (by rw [wanted_at F rfl (t := 8) (b := false) (by kernel_rfl) rfl]; rfl) 10 rfl (by decide) 9 rfl rfl ?_
    clear F a9
    intro a9 F
    refine fr_ch F 1 [(11, .pointer (some ⟨p, 2, none⟩))] (by kernel_rfl) ?_
    clear F a9
    intro a9 F
    refine fr_do F (by rw [wanted_at F rfl (t := 8) (b := false) (by kernel_rfl) rfl]; rfl) 12 rfl (by decide) (.pointer none) (by intro a' F'; have h11 := F'.at' 11 _ rfl; have hc : w9.cell? ⟨p, 2, none⟩ = some (.pointer none) := HP.cells 2; go_simp) ?_
    clear F a9
    intro a9 F
    refine fr_ch F 3 [(15, .bool false), (14, .bool false), (13, .bool false)] (by kernel_rfl) ?_
    clear F a9
    intro a9 F
    refine fr_mv F (by rw [wanted_at F rfl (t := 15) (b := false) (by kernel_rfl) rfl]; rfl) 16 rfl (by decide) 0 rfl rfl ?_
    clear F a9
    intro a9 F
    refine fr_nc F (by rw [wanted_at F rfl (t := 15) (b := false) (by kernel_rfl) rfl]; rfl) 17 rfl (by decide) 16 rfl rfl ?_
    clear F a9
    intro a9 F
    refine fr_ch F 1 [(18, .pointer (some ⟨p, 4, none⟩))] (by kernel_rfl) ?_
    clear F a9
    intro a9 F
    refine fr_do F (by rw [wanted_at F rfl (t := 15) (b := false) (by kernel_rfl) rfl]; rfl) 19 rfl (by decide) (.pointer (some ⟨N, q, none⟩)) (by intro a' F'; have h18 := F'.at' 18 _ rfl; have hc : w9.cell? ⟨p, 4, none⟩ = some (.pointer (some ⟨N, q, none⟩)) := HP.cells 4; go_simp) ?_
    clear F a9
    intro a9 F
    refine fr_ch F 3 [(2, .bool true), (21, .bool true), (20, .bool true)] (by kernel_rfl) ?_
    clear F a9
    intro a9 F
    refine wpList_nil ?_
    show Code.wp _ _ _ _ _
    refine wp_ret ?_
    exact fr_ret1 F rfl _ rfl (FIN.out _ rfl)
  go_enter Tryd.func47, Tryd.ntmps47
  refine wp_forget (n := 22) (L := [(0, .pointer (some ⟨p, 0, none⟩))]) (FrL.add (FrL.nil ?_ ?_) _ _ ?_) ?_
  iterate 3 rfl
  intro a9 F
  refine wp_seq ?_
  refine wp_region_lit ?_
  refine fr_ch F 1 [(2, .bool false)] (by kernel_rfl) ?_
  clear F a9
  intro a9 F
  refine wpList_nil ?_
  show Code.wp _ _ _ _ _
  refine wp_seq ?_
  refine wp_region_lit ?_
  refine fr_ch F 3 [(5, .pointer (some ⟨p, 1, none⟩)), (4, .pointer (some ⟨p, 0, none⟩))] (by kernel_rfl) ?_
  clear F a9
  intro a9 F
  refine fr_do F (wanted_free rfl) 6 rfl (by decide) (.pointer none) (by intro a' F'; have h5 := F'.at' 5 _ rfl; have hc : w9.cell? ⟨p, 1, none⟩ = some (.pointer none) := HP.cells 1; go_simp) ?_
  clear F a9
  intro a9 F
  refine fr_ch F 2 [(8, .bool false), (7, .bool false)] (by kernel_rfl) ?_
  clear F a9
  intro a9 F
  refine fr_mv F (by rw [wanted_at F rfl (t := 8) (b := false) (by kernel_rfl) rfl]; rfl) 9 rfl (by decide) 0 rfl rfl ?_
  clear F a9
  intro a9 F
  refine fr_nc F (by rw [wanted_at F rfl (t := 8) (b := false) (by kernel_rfl) rfl]; rfl) 10 rfl (by decide) 9 rfl rfl ?_
  clear F a9
  intro a9 F
  refine fr_ch F 1 [(11, .pointer (some ⟨p, 2, none⟩))] (by kernel_rfl) ?_
  clear F a9
  intro a9 F
  refine fr_do F (by rw [wanted_at F rfl (t := 8) (b := false) (by kernel_rfl) rfl]; rfl) 12 rfl (by decide) (.pointer none) (by intro a' F'; have h11 := F'.at' 11 _ rfl; have hc : w9.cell? ⟨p, 2, none⟩ = some (.pointer none) := HP.cells 2; go_simp) ?_
  clear F a9
  intro a9 F
  refine fr_ch F 3 [(15, .bool false), (14, .bool false), (13, .bool false)] (by kernel_rfl) ?_
  clear F a9
  intro a9 F
  refine fr_mv F (by rw [wanted_at F rfl (t := 15) (b := false) (by kernel_rfl) rfl]; rfl) 16 rfl (by decide) 0 rfl rfl ?_
  clear F a9
  intro a9 F
  refine fr_nc F (by rw [wanted_at F rfl (t := 15) (b := false) (by kernel_rfl) rfl]; rfl) 17 rfl (by decide) 16 rfl rfl ?_
  clear F a9
  intro a9 F
  refine fr_ch F 1 [(18, .pointer (some ⟨p, 4, none⟩))] (by kernel_rfl) ?_
  clear F a9
  intro a9 F
  refine fr_do F (by rw [wanted_at F rfl (t := 15) (b := false) (by kernel_rfl) rfl]; rfl) 19 rfl (by decide) (.pointer none) (by intro a' F'; have h18 := F'.at' 18 _ rfl; have hc : w9.cell? ⟨p, 4, none⟩ = some (.pointer none) := HP.cells 4; go_simp) ?_
  clear F a9
  intro a9 F
  refine fr_ch F 3 [(2, .bool false), (21, .bool false), (20, .bool false)] (by kernel_rfl) ?_
  clear F a9
  intro a9 F
  refine wpList_nil ?_
  show Code.wp _ _ _ _ _
  refine wp_ret ?_
  exact fr_ret1 F rfl _ rfl (FIN.out _ rfl)
end Go.Proofs.YtmppkgonkkffhaaDoor

/- The walks of order.published, queued, kept. Conditions: notes lie where the pointers are; bounds on their texts. -/
namespace Go.Proofs.YtmppkgonkkffhaaDoor
open Go.RowKit
structure MsOk (m : Ms) : Prop where
  qos : m.qos < 256
  topic : m.topic.size ≤ 300000000
  payload : m.payload.size ≤ 300000000
theorem op_eqM {w : World} {o : Oper} {ρ : Operand → Value} {x y : Operand} {m q : Ms} {v : Bool} (hx : ρ x = .agg (msV m)) (hy : ρ y = .agg (msV q)) (ho : o.op = .binOp .eql 30 x y 30) (k1 : MsOk m) (k2 : MsOk q) (hv : decide (m = q) = v) : (execOp ρ o).run Tryd.prog w = .ok (.value (.bool v)) w := by
  subst hv
  have h := (msg_eq m.topic m.payload q.topic q.payload m.qos q.qos m.ret q.ret k1.qos k2.qos (le_max k1.topic) (le_max k1.payload) (le_max k2.topic) (le_max k2.payload) w).1
  have he : decide (m.topic = q.topic ∧ m.payload = q.payload ∧ m.qos = q.qos ∧ m.ret = q.ret) = decide (m = q) := by
    rw [decide_eq_decide]
    constructor
    · rintro ⟨h1, h2, h3, h4⟩
      cases m; cases q
      simp only at h1 h2 h3 h4
      rw [h1, h2, h3, h4]
    · rintro rfl; exact ⟨rfl, rfl, rfl, rfl⟩
  rw [he] at h
  have h2 : (eqGuard .eql 30 x y (.agg (msV m)) (.agg (msV q))).run Tryd.prog w = .ok () w := by first | kernel_rfl | (go_simp; done)
  have h3 : (binOp .eql 30 (.agg (msV m)) (.agg (msV q))).run Tryd.prog w = .ok (.bool (decide (m = q))) w := h
  unfold execOp
  simp only [ho, hx, hy, Sem.run_bind, h2, h3, Result.andThen_ok, Sem.run_pure]
theorem NtAt.msg {w : World} {N o : Nat} {n : Nt} {a : Option Addr} {c : Nat} (h : NtAt w N o n a c) : w.rangeAt N (o + 28) (msV n.msg).toList := fun j v hv => by
  have h2 := h (28 + j) v (by
    match j, hv with
    | 0, hv => exact hv
    | 1, hv => exact hv
    | 2, hv => exact hv
    | 3, hv => exact hv
    | k + 4, hv => simp [msV] at hv)
  rw [Nat.add_assoc]
  exact h2
def publishedP (p : Pk) (m : Ms) : Bool := decide (p.ty = 3) && decide (m = ⟨p.topic, p.payload, p.qos, p.ret⟩)
def queuedP (n : Nt) (m : Ms) : Bool := decide (n.msg.topic = m.topic) && (decide (n.msg.payload = m.payload) && (decide (n.qos = n.msg.qos) && (decide (n.qos ≤ m.qos) && decide (n.msg.ret = false))))
def keptP (n d : Nt) : Bool := decide (n.client = d.client) && (decide (d.p.ty = 8) && (decide (n.qos = n.msg.qos) && decide (n.msg.ret = true)))
set_option maxRecDepth 100000 in
set_option maxHeartbeats 4000000 in
theorem order_published {w : World} (hE : Env w) {p : Pk} {m : Ms} {a : Option Addr} {c : Nat} (hp : PkOk p) (hm : MsOk m) : Calls Tryd.prog 51 #[.agg (pkV p a c), .agg (msV m)] w fun e w' => e = .returned (.bool (publishedP p m)) ∧ Below w.heap.size w w' := by
  obtain ⟨RR, hRR⟩ : ∃ RR : Ending → World → Prop, RR = fun e w' => e = .returned (.bool (publishedP p m)) ∧ Below w.heap.size w w' := ⟨_, rfl⟩
  have FIN := Lib.hid (show ∀ b w', b = publishedP p m → Below w.heap.size w w' → RR (.returned (.bool b)) w' from fun b w' h1 hb => by rw [hRR, h1]; exact ⟨rfl, hb⟩)
  rw [← hRR]
  obtain ⟨w9, hw9⟩ : ∃ w9, w9 = w := ⟨_, rfl⟩
  have HK : Keep w [] [] w9 := by rw [hw9]; exact Keep.begin hE _ (by intro r hr; cases hr)
  suffices hgo : Calls Tryd.prog 51 #[.agg (pkV p a c), .agg (msV m)] w9 RR by rw [hw9] at hgo; exact hgo
  clear hw9 hRR hE
  go_enter Tryd.func51, Tryd.ntmps51
  refine wp_forget (n := 21) (L := [(1, .agg (msV m)), (0, .agg (pkV p a c))]) (FrL.add (FrL.add (FrL.nil ?_ ?_) _ _ ?_) _ _ ?_) ?_
  iterate 4 rfl
  intro a9 F
  refine wp_seq ?_
  refine wp_region_lit ?_
  refine fr_box F HK 2 (by decide) rfl 33 _ rfl rfl (pkV p a c) (fun a' F' => F'.ev 0 rfl) ?_
  rintro X a10 w10 hX F' HK' hb
  clear HK F hb hX
  clear a9 w9
  rename World => w9
  rename Act => a9
  have HK := HK'
  have F := F'
  clear HK' F'
  replace HK : Keep w [(X, (pkV p a c), 33)] [] w9 := HK
  refine fr_box F HK 3 (by decide) rfl 30 _ rfl rfl (msV m) (fun a' F' => F'.ev 1 rfl) ?_
  rintro Y a10 w10 hX F' HK' hb
  clear HK F hb hX
  clear a9 w9
  rename World => w9
  rename Act => a9
  have HK := HK'
  have F := F'
  clear HK' F'
  replace HK : Keep w [(Y, (msV m), 30), (X, (pkV p a c), 33)] [] w9 := HK
  refine fr_ch F 1 [(4, .bool false)] (by kernel_rfl) ?_
  clear F a9
  intro a9 F
  refine wpList_nil ?_
  show Code.wp _ _ _ _ _
  by_cases ha : p.ty = 3
  rotate_left
  · skip
    refine wp_seq ?_
    refine wp_region_lit ?_
    refine fr_ch F 1 [(5, .pointer (some ⟨X, 0, none⟩))] (by kernel_rfl) ?_
    clear F a9
    intro a9 F
    refine fr_do F (wanted_free rfl) 6 rfl (by decide) (.int .u8 (p.ty : Int)) (by intro a' F'; have hc : w9.cell? ⟨X, 0, none⟩ = some (.int .u8 (p.ty : Int)) := (HK.at 1 rfl).cells 0; have h5 := F'.at' 5 _ rfl; go_simp) ?_
    clear F a9
    intro a9 F
    refine fr_do F (wanted_free rfl) 7 rfl (by decide) (.bool false) (by intro a' F'; have h6 := F'.at' 6 _ rfl; go_simp <;> omega) ?_
    clear F a9
    intro a9 F
    refine fr_ch F 14 [(4, .bool false), (20, .bool false), (19, undef), (18, undef), (17, undef), (16, undef), (15, undef), (14, undef), (13, undef), (12, undef), (11, undef), (10, undef), (9, undef), (8, .bool false)] (by kernel_rfl) ?_
    clear F a9
    intro a9 F
    refine wpList_nil ?_
    show Code.wp _ _ _ _ _
    refine wp_ret ?_
    exact fr_ret1 F rfl _ rfl (FIN.out _ _ (by unfold publishedP; simp only [decide_eq_false ha, Bool.true_and, Bool.and_true, Bool.false_and, Bool.and_false]) HK.low)
  by_cases hb : m = ⟨p.topic, p.payload, p.qos, p.ret⟩
  rotate_left
  · skip
    refine wp_seq ?_
    refine wp_region_lit ?_
    refine fr_ch F 1 [(5, .pointer (some ⟨X, 0, none⟩))] (by kernel_rfl) ?_
    clear F a9
    intro a9 F
    refine fr_do F (wanted_free rfl) 6 rfl (by decide) (.int .u8 (p.ty : Int)) (by intro a' F'; have hc : w9.cell? ⟨X, 0, none⟩ = some (.int .u8 (p.ty : Int)) := (HK.at 1 rfl).cells 0; have h5 := F'.at' 5 _ rfl; go_simp) ?_
    clear F a9
    intro a9 F
    refine fr_do F (wanted_free rfl) 7 rfl (by decide) (.bool true) (by intro a' F'; have h6 := F'.at' 6 _ rfl; go_simp) ?_
    clear F a9
    intro a9 F
    refine fr_ch F 1 [(8, .bool true)] (by kernel_rfl) ?_
    clear F a9
    intro a9 F
    refine fr_do F (by rw [wanted_at F rfl (t := 8) (b := true) (by kernel_rfl) rfl]; rfl) 9 rfl (by decide) (.agg ((msV m))) (by intro a' F'; exact run_load_box rfl (F'.ev 3 rfl) (HK.at 0 rfl) Tryd.underlying30 rfl infoMs) ?_
    clear F a9
    intro a9 F
    refine fr_ch F 1 [(10, .pointer (some ⟨X, 5, none⟩))] (by kernel_rfl) ?_
    clear F a9
    intro a9 F
    refine fr_do F (by rw [wanted_at F rfl (t := 8) (b := true) (by kernel_rfl) rfl]; rfl) 11 rfl (by decide) (.string p.topic) (by intro a' F'; have hc : w9.cell? ⟨X, 5, none⟩ = some (.string p.topic) := (HK.at 1 rfl).cells 5; have h10 := F'.at' 10 _ rfl; go_simp) ?_
    clear F a9
    intro a9 F
    refine fr_ch F 1 [(12, .pointer (some ⟨X, 6, none⟩))] (by kernel_rfl) ?_
    clear F a9
    intro a9 F
    refine fr_do F (by rw [wanted_at F rfl (t := 8) (b := true) (by kernel_rfl) rfl]; rfl) 13 rfl (by decide) (.string p.payload) (by intro a' F'; have hc : w9.cell? ⟨X, 6, none⟩ = some (.string p.payload) := (HK.at 1 rfl).cells 6; have h12 := F'.at' 12 _ rfl; go_simp) ?_
    clear F a9
    intro a9 F
    refine fr_ch F 1 [(14, .pointer (some ⟨X, 2, none⟩))] (by kernel_rfl) ?_
    clear F a9
    intro a9 F
    refine fr_do F (by rw [wanted_at F rfl (t := 8) (b := true) (by kernel_rfl) rfl]; rfl) 15 rfl (by decide) (.int .u8 (p.qos : Int)) (by intro a' F'; have hc : w9.cell? ⟨X, 2, none⟩ = some (.int .u8 (p.qos : Int)) := (HK.at 1 rfl).cells 2; have h14 := F'.at' 14 _ rfl; go_simp) ?_
    clear F a9
    intro a9 F
    refine fr_ch F 1 [(16, .pointer (some ⟨X, 3, none⟩))] (by kernel_rfl) ?_
    clear F a9
    intro a9 F
    refine fr_do F (by rw [wanted_at F rfl (t := 8) (b := true) (by kernel_rfl) rfl]; rfl) 17 rfl (by decide) (.bool p.ret) (by intro a' F'; have hc : w9.cell? ⟨X, 3, none⟩ = some (.bool p.ret) := (HK.at 1 rfl).cells 3; have h16 := F'.at' 16 _ rfl; go_simp) ?_
    clear F a9
    intro a9 F
    refine fr_ch F 1 [(18, .agg (msV ⟨p.topic, p.payload, p.qos, p.ret⟩))] (by kernel_rfl) ?_
    clear F a9
    intro a9 F
    refine fr_do F (by rw [wanted_at F rfl (t := 8) (b := true) (by kernel_rfl) rfl]; rfl) 19 rfl (by decide) (.bool false) (fun a' F' => op_eqM (F'.ev 9 rfl) (F'.ev 18 rfl) rfl hm ⟨hp.qos, hp.topic, hp.payload⟩ (decide_eq_false hb)) ?_
    clear F a9
    intro a9 F
    refine fr_ch F 2 [(4, .bool false), (20, .bool false)] (by kernel_rfl) ?_
    clear F a9
    intro a9 F
    refine wpList_nil ?_
    show Code.wp _ _ _ _ _
    refine wp_ret ?_
    exact fr_ret1 F rfl _ rfl (FIN.out _ _ (by unfold publishedP; simp only [decide_eq_true ha, decide_eq_false hb, Bool.true_and, Bool.and_true, Bool.false_and, Bool.and_false]) HK.low)
  refine wp_seq ?_
  refine wp_region_lit ?_
  refine fr_ch F 1 [(5, .pointer (some ⟨X, 0, none⟩))] (by kernel_rfl) ?_
  clear F a9
  intro a9 F
  refine fr_do F (wanted_free rfl) 6 rfl (by decide) (.int .u8 (p.ty : Int)) (by intro a' F'; have hc : w9.cell? ⟨X, 0, none⟩ = some (.int .u8 (p.ty : Int)) := (HK.at 1 rfl).cells 0; have h5 := F'.at' 5 _ rfl; go_simp) ?_
  clear F a9
  intro a9 F
  refine fr_do F (wanted_free rfl) 7 rfl (by decide) (.bool true) (by intro a' F'; have h6 := F'.at' 6 _ rfl; go_simp) ?_
  clear F a9
  intro a9 F
  refine fr_ch F 1 [(8, .bool true)] (by kernel_rfl) ?_
  clear F a9
  intro a9 F
  refine fr_do F (by rw [wanted_at F rfl (t := 8) (b := true) (by kernel_rfl) rfl]; rfl) 9 rfl (by decide) (.agg ((msV m))) (by intro a' F'; exact run_load_box rfl (F'.ev 3 rfl) (HK.at 0 rfl) Tryd.underlying30 rfl infoMs) ?_
  clear F a9
  intro a9 F
  refine fr_ch F 1 [(10, .pointer (some ⟨X, 5, none⟩))] (by kernel_rfl) ?_
  clear F a9
  intro a9 F
  refine fr_do F (by rw [wanted_at F rfl (t := 8) (b := true) (by kernel_rfl) rfl]; rfl) 11 rfl (by decide) (.string p.topic) (by intro a' F'; have hc : w9.cell? ⟨X, 5, none⟩ = some (.string p.topic) := (HK.at 1 rfl).cells 5; have h10 := F'.at' 10 _ rfl; go_simp) ?_
  clear F a9
  intro a9 F
  refine fr_ch F 1 [(12, .pointer (some ⟨X, 6, none⟩))] (by kernel_rfl) ?_
  clear F a9
  intro a9 F
  refine fr_do F (by rw [wanted_at F rfl (t := 8) (b := true) (by kernel_rfl) rfl]; rfl) 13 rfl (by decide) (.string p.payload) (by intro a' F'; have hc : w9.cell? ⟨X, 6, none⟩ = some (.string p.payload) := (HK.at 1 rfl).cells 6; have h12 := F'.at' 12 _ rfl; go_simp) ?_
  clear F a9
  intro a9 F
  refine fr_ch F 1 [(14, .pointer (some ⟨X, 2, none⟩))] (by kernel_rfl) ?_
  clear F a9
  intro a9 F
  refine fr_do F (by rw [wanted_at F rfl (t := 8) (b := true) (by kernel_rfl) rfl]; rfl) 15 rfl (by decide) (.int .u8 (p.qos : Int)) (by intro a' F'; have hc : w9.cell? ⟨X, 2, none⟩ = some (.int .u8 (p.qos : Int)) := (HK.at 1 rfl).cells 2; have h14 := F'.at' 14 _ rfl; go_simp) ?_
  clear F a9
  intro a9 F
  refine fr_ch F 1 [(16, .pointer (some ⟨X, 3, none⟩))] (by kernel_rfl) ?_
  clear F a9
  intro a9 F
  refine fr_do F (by rw [wanted_at F rfl (t := 8) (b := true) (by kernel_rfl) rfl]; rfl) 17 rfl (by decide) (.bool p.ret) (by intro a' F'; have hc : w9.cell? ⟨X, 3, none⟩ = some (.bool p.ret) := (HK.at 1 rfl).cells 3; have h16 := F'.at' 16 _ rfl; go_simp) ?_
  clear F a9
  intro a9 F
  refine fr_ch F 1 [(18, .agg (msV ⟨p.topic, p.payload, p.qos, p.ret⟩))] (by kernel_rfl) ?_
  clear F a9
  intro a9 F
  refine fr_do F (by rw [wanted_at F rfl (t := 8) (b := true) (by kernel_rfl) rfl]; rfl) 19 rfl (by decide) (.bool true) (fun a' F' => op_eqM (F'.ev 9 rfl) (F'.ev 18 rfl) rfl hm ⟨hp.qos, hp.topic, hp.payload⟩ (decide_eq_true hb)) ?_
  clear F a9
  intro a9 F
  refine fr_ch F 2 [(4, .bool true), (20, .bool true)] (by kernel_rfl) ?_
  clear F a9
  intro a9 F
  refine wpList_nil ?_
  show Code.wp _ _ _ _ _
  refine wp_ret ?_
  exact fr_ret1 F rfl _ rfl (FIN.out _ _ (by unfold publishedP; simp only [decide_eq_true ha, decide_eq_true hb, Bool.true_and, Bool.and_true, Bool.false_and, Bool.and_false]) HK.low)
set_option maxRecDepth 100000 in
set_option maxHeartbeats 4000000 in
theorem order_queued {w : World} (hE : Env w) {p N q r : Nat} {x : Pa} {n nr : Nt} {a ar : Option Addr} {c cr : Nat} (HP : BoxAt w p (paV N x) 83) (hr : x.routes = some r) (h1 : NtAt w N q n a c) (h2 : NtAt w N r nr ar cr) : Calls Tryd.prog 52 #[.pointer (some ⟨p, 0, none⟩), .pointer (some ⟨N, q, none⟩)] w fun e w' => e = .returned (.bool (queuedP n nr.msg)) ∧ Below w.heap.size w w' := by
  obtain ⟨RR, hRR⟩ : ∃ RR : Ending → World → Prop, RR = fun e w' => e = .returned (.bool (queuedP n nr.msg)) ∧ Below w.heap.size w w' := ⟨_, rfl⟩
  have FIN := Lib.hid (show ∀ b w', b = queuedP n nr.msg → Below w.heap.size w w' → RR (.returned (.bool b)) w' from fun b w' h1 hb => by rw [hRR, h1]; exact ⟨rfl, hb⟩)
  rw [← hRR]
  obtain ⟨w9, hw9⟩ : ∃ w9, w9 = w := ⟨_, rfl⟩
  have HK : Keep w [] [] w9 := by rw [hw9]; exact Keep.begin hE _ (by intro r hr; cases hr)
  rw [← hw9] at HP h1 h2
  suffices hgo : Calls Tryd.prog 52 #[.pointer (some ⟨p, 0, none⟩), .pointer (some ⟨N, q, none⟩)] w9 RR by rw [hw9] at hgo; exact hgo
  clear hw9 hRR hE
  go_enter Tryd.func52, Tryd.ntmps52
  refine wp_forget (n := 60) (L := [(1, .pointer (some ⟨N, q, none⟩)), (0, .pointer (some ⟨p, 0, none⟩))]) (FrL.add (FrL.add (FrL.nil ?_ ?_) _ _ ?_) _ _ ?_) ?_
  iterate 4 rfl
  intro a9 F
  refine wp_seq ?_
  refine wp_region_lit ?_
  refine fr_ch F 1 [(4, .bool false)] (by kernel_rfl) ?_
  clear F a9
  intro a9 F
  refine wpList_nil ?_
  show Code.wp _ _ _ _ _
  refine wp_seq ?_
  refine wp_region_lit ?_
  refine fr_ch F 3 [(8, .pointer (some ⟨p, 2, none⟩)), (7, .pointer (some ⟨p, 0, none⟩)), (6, .pointer (some ⟨p, 0, none⟩))] (by kernel_rfl) ?_
  clear F a9
  intro a9 F
  refine fr_do F (wanted_free rfl) 9 rfl (by decide) (.pointer (some ⟨N, r, none⟩)) (by intro a' F'; have h8 := F'.at' 8 _ rfl; have hc : w9.cell? ⟨p, 2, none⟩ = some (.pointer (some ⟨N, r, none⟩)) := (HP.cells 2).trans (congrArg (fun z => some (ptrN N z)) hr); go_simp) ?_
  clear F a9
  intro a9 F
  refine fr_ch F 2 [(11, .pointer (some ⟨N, r + 28, none⟩)), (10, .pointer (some ⟨N, r, none⟩))] (by kernel_rfl) ?_
  clear F a9
  intro a9 F
  refine fr_do F (wanted_free rfl) 12 rfl (by decide) (.agg (msV nr.msg)) (fun a' F' => run_load_midF 30 _ rfl N (r + 28) (F'.ev 11 rfl) (msV nr.msg).toList _ h2.msg Tryd.underlying30 rfl infoMs) ?_
  clear F a9
  intro a9 F
  clear HP h2
  obtain ⟨i0, hi, hz0, hz1, hz2⟩ := info_parts infoMsR
  refine fr_new F HK 5 (by decide) rfl 30 rfl rfl rfl (.tmp 12) rfl rfl i0 _ hi hz0 (cells := (msV nr.msg)) hz1 rfl (ms_one _) (fun a' Y F' => F'.ev 12 rfl) ?_
  rintro Q a10 w10 hX F' HK' hb
  replace h1 := h1.below hb
  clear HK F hb hX hi hz0 hz1 hz2 i0
  clear a9 w9
  rename World => w9
  rename Act => a9
  have HK := HK'
  have F := F'
  clear HK' F'
  replace HK : Keep w [(Q, (msV nr.msg), 30)] [] w9 := HK
  refine wpList_nil ?_
  show Code.wp _ _ _ _ _
  replace F := F.cut [(5, .pointer (some ⟨Q, 0, none⟩)), (4, .bool false), (1, .pointer (some ⟨N, q, none⟩))] (by kernel_rfl)
  by_cases ha : n.msg.topic = nr.msg.topic
  rotate_left
  · skip
    refine wp_seq ?_
    refine wp_region_noPanic ?_
    have hb8 : Below w9.heap.size w9 w9.drew := below_draws (n := 1) rfl
    replace HK := HK.below hb8
    replace h1 := h1.below hb8
    clear hb8
    refine AnyT.begin (S := fun w' => NtAt w' N q n a c ∧ BoxAt w' Q (msV nr.msg) 30) (z := 1000) (by kernel_rfl) ⟨h1, HK.at 0 rfl⟩ (fun hS0 => ?_)
    clear hS0
    generalize w9.drew = w8 at *
    clear w9
    rename World => w9
    refine fr_chT F [0, 1, 2, 3] [(16, .pointer (some ⟨N, q + 28, none⟩)), (15, .pointer (some ⟨N, q + 28, none⟩)), (14, .pointer (some ⟨N, q, none⟩)), (13, .pointer (some ⟨N, q, none⟩))] ⟨h1, HK.at 0 rfl⟩ (by kernel_rfl) ?_
    clear F a9
    intro a9 F
    refine fr_takeG (i := 4) (o := ⟨some 17, _, _, _, _, _⟩) F ⟨h1, HK.at 0 rfl⟩ rfl (wanted_free rfl) 17 rfl (by decide) (.string n.msg.topic) (fun w9 hS => (by intro a' F'; have h16 := F'.at' 16 _ rfl; have hc : w9.cell? ⟨N, q + 28, none⟩ = some (.string n.msg.topic) := (hS.1).cell 28 _ rfl; go_simp)) ?_
    clear F a9
    intro a9 F
    refine fr_chT F [5] [(18, .pointer (some ⟨Q, 0, none⟩))] ⟨h1, HK.at 0 rfl⟩ (by kernel_rfl) ?_
    clear F a9
    intro a9 F
    refine fr_takeG (i := 6) (o := ⟨some 19, _, _, _, _, _⟩) F ⟨h1, HK.at 0 rfl⟩ rfl (wanted_free rfl) 19 rfl (by decide) (.string nr.msg.topic) (fun w9 hS => (by intro a' F'; have h18 := F'.at' 18 _ rfl; have hc : w9.cell? ⟨Q, 0, none⟩ = some (.string nr.msg.topic) := hS.2.cells 0; go_simp)) ?_
    clear F a9
    intro a9 F
    refine fr_takeG (i := 7) (o := ⟨some 20, _, _, _, _, _⟩) F ⟨h1, HK.at 0 rfl⟩ rfl (wanted_free rfl) 20 rfl (by decide) (.bool false) (fun w9 hS => (fun a' F' => op_eqS (F'.ev 17 rfl) (F'.ev 19 rfl) rfl Tryd.underlying9 rfl (decide_eq_false ha))) ?_
    clear F a9
    intro a9 F
    refine fr_chT F [8, 9, 10, 11, 12, 13, 14, 15, 16, 17, 18, 19, 20, 21, 22, 23, 24, 25, 26, 27, 28, 29, 30, 31, 32, 33, 34, 35, 36, 37, 38, 39, 40, 41, 42, 43, 44, 45, 46, 47] [(4, .bool false), (59, .bool false), (58, undef), (57, undef), (56, undef), (55, undef), (54, undef), (53, undef), (52, .bool false), (51, .bool false), (50, undef), (49, undef), (48, undef), (47, undef), (46, undef), (45, undef), (44, undef), (43, .bool false), (42, .bool false), (41, undef), (40, undef), (39, undef), (38, undef), (37, undef), (36, undef), (35, undef), (34, undef), (33, undef), (32, undef), (31, .bool false), (30, .bool false), (29, undef), (28, undef), (27, undef), (26, undef), (25, undef), (24, undef), (23, undef), (22, undef), (21, .bool false)] ⟨h1, HK.at 0 rfl⟩ (by kernel_rfl) ?_
    clear F a9
    intro a9 F
    refine AnyT.done (by kernel_rfl) ?_ _
    refine NoPanic.normal ?_
    show Code.wp _ _ _ _ _
    refine wp_ret ?_
    exact fr_ret1 F rfl _ rfl (FIN.out _ _ (by unfold queuedP; simp only [decide_eq_false ha, Bool.true_and, Bool.and_true, Bool.false_and, Bool.and_false]) HK.low)
  by_cases hb : n.msg.payload = nr.msg.payload
  rotate_left
  · skip
    refine wp_seq ?_
    refine wp_region_noPanic ?_
    have hb8 : Below w9.heap.size w9 w9.drew := below_draws (n := 1) rfl
    replace HK := HK.below hb8
    replace h1 := h1.below hb8
    clear hb8
    refine AnyT.begin (S := fun w' => NtAt w' N q n a c ∧ BoxAt w' Q (msV nr.msg) 30) (z := 1000) (by kernel_rfl) ⟨h1, HK.at 0 rfl⟩ (fun hS0 => ?_)
    clear hS0
    generalize w9.drew = w8 at *
    clear w9
    rename World => w9
    refine fr_chT F [0, 1, 2, 3] [(16, .pointer (some ⟨N, q + 28, none⟩)), (15, .pointer (some ⟨N, q + 28, none⟩)), (14, .pointer (some ⟨N, q, none⟩)), (13, .pointer (some ⟨N, q, none⟩))] ⟨h1, HK.at 0 rfl⟩ (by kernel_rfl) ?_
    clear F a9
    intro a9 F
    refine fr_takeG (i := 4) (o := ⟨some 17, _, _, _, _, _⟩) F ⟨h1, HK.at 0 rfl⟩ rfl (wanted_free rfl) 17 rfl (by decide) (.string n.msg.topic) (fun w9 hS => (by intro a' F'; have h16 := F'.at' 16 _ rfl; have hc : w9.cell? ⟨N, q + 28, none⟩ = some (.string n.msg.topic) := (hS.1).cell 28 _ rfl; go_simp)) ?_
    clear F a9
    intro a9 F
    refine fr_chT F [5] [(18, .pointer (some ⟨Q, 0, none⟩))] ⟨h1, HK.at 0 rfl⟩ (by kernel_rfl) ?_
    clear F a9
    intro a9 F
    refine fr_takeG (i := 6) (o := ⟨some 19, _, _, _, _, _⟩) F ⟨h1, HK.at 0 rfl⟩ rfl (wanted_free rfl) 19 rfl (by decide) (.string nr.msg.topic) (fun w9 hS => (by intro a' F'; have h18 := F'.at' 18 _ rfl; have hc : w9.cell? ⟨Q, 0, none⟩ = some (.string nr.msg.topic) := hS.2.cells 0; go_simp)) ?_
    clear F a9
    intro a9 F
    refine fr_takeG (i := 7) (o := ⟨some 20, _, _, _, _, _⟩) F ⟨h1, HK.at 0 rfl⟩ rfl (wanted_free rfl) 20 rfl (by decide) (.bool true) (fun w9 hS => (fun a' F' => op_eqS (F'.ev 17 rfl) (F'.ev 19 rfl) rfl Tryd.underlying9 rfl (decide_eq_true ha))) ?_
    clear F a9
    intro a9 F
    refine fr_chT F [8, 9, 10, 11, 12] [(25, .pointer (some ⟨N, q + 29, none⟩)), (24, .pointer (some ⟨N, q + 28, none⟩)), (23, .pointer (some ⟨N, q, none⟩)), (22, .pointer (some ⟨N, q, none⟩)), (21, .bool true)] ⟨h1, HK.at 0 rfl⟩ (by kernel_rfl) ?_
    clear F a9
    intro a9 F
    refine fr_takeG (i := 13) (o := ⟨some 26, _, _, _, _, _⟩) F ⟨h1, HK.at 0 rfl⟩ rfl (by rw [wanted_at F rfl (t := 21) (b := true) (by kernel_rfl) rfl]; rfl) 26 rfl (by decide) (.string n.msg.payload) (fun w9 hS => (by intro a' F'; have h25 := F'.at' 25 _ rfl; have hc : w9.cell? ⟨N, q + 29, none⟩ = some (.string n.msg.payload) := (hS.1).cell 29 _ rfl; go_simp)) ?_
    clear F a9
    intro a9 F
    refine fr_chT F [14] [(27, .pointer (some ⟨Q, 1, none⟩))] ⟨h1, HK.at 0 rfl⟩ (by kernel_rfl) ?_
    clear F a9
    intro a9 F
    refine fr_takeG (i := 15) (o := ⟨some 28, _, _, _, _, _⟩) F ⟨h1, HK.at 0 rfl⟩ rfl (by rw [wanted_at F rfl (t := 21) (b := true) (by kernel_rfl) rfl]; rfl) 28 rfl (by decide) (.string nr.msg.payload) (fun w9 hS => (by intro a' F'; have h27 := F'.at' 27 _ rfl; have hc : w9.cell? ⟨Q, 1, none⟩ = some (.string nr.msg.payload) := hS.2.cells 1; go_simp)) ?_
    clear F a9
    intro a9 F
    refine fr_takeG (i := 16) (o := ⟨some 29, _, _, _, _, _⟩) F ⟨h1, HK.at 0 rfl⟩ rfl (by rw [wanted_at F rfl (t := 21) (b := true) (by kernel_rfl) rfl]; rfl) 29 rfl (by decide) (.bool false) (fun w9 hS => (fun a' F' => op_eqS (F'.ev 26 rfl) (F'.ev 28 rfl) rfl Tryd.underlying9 rfl (decide_eq_false hb))) ?_
    clear F a9
    intro a9 F
    refine fr_chT F [17, 18, 19, 20, 21, 22, 23, 24, 25, 26, 27, 28, 29, 30, 31, 32, 33, 34, 35, 36, 37, 38, 39, 40, 41, 42, 43, 44, 45, 46, 47] [(4, .bool false), (59, .bool false), (58, undef), (57, undef), (56, undef), (55, undef), (54, undef), (53, undef), (52, .bool false), (51, .bool false), (50, undef), (49, undef), (48, undef), (47, undef), (46, undef), (45, undef), (44, undef), (43, .bool false), (42, .bool false), (41, undef), (40, undef), (39, undef), (38, undef), (37, undef), (36, undef), (35, undef), (34, undef), (33, undef), (32, undef), (31, .bool false), (30, .bool false)] ⟨h1, HK.at 0 rfl⟩ (by kernel_rfl) ?_
    clear F a9
    intro a9 F
    refine AnyT.done (by kernel_rfl) ?_ _
    refine NoPanic.normal ?_
    show Code.wp _ _ _ _ _
    refine wp_ret ?_
    exact fr_ret1 F rfl _ rfl (FIN.out _ _ (by unfold queuedP; simp only [decide_eq_true ha, decide_eq_false hb, Bool.true_and, Bool.and_true, Bool.false_and, Bool.and_false]) HK.low)
  by_cases hd : n.qos = n.msg.qos
  rotate_left
  · skip
    refine wp_seq ?_
    refine wp_region_noPanic ?_
    have hb8 : Below w9.heap.size w9 w9.drew := below_draws (n := 1) rfl
    replace HK := HK.below hb8
    replace h1 := h1.below hb8
    clear hb8
    refine AnyT.begin (S := fun w' => NtAt w' N q n a c ∧ BoxAt w' Q (msV nr.msg) 30) (z := 1000) (by kernel_rfl) ⟨h1, HK.at 0 rfl⟩ (fun hS0 => ?_)
    clear hS0
    generalize w9.drew = w8 at *
    clear w9
    rename World => w9
    refine fr_chT F [0, 1, 2, 3] [(16, .pointer (some ⟨N, q + 28, none⟩)), (15, .pointer (some ⟨N, q + 28, none⟩)), (14, .pointer (some ⟨N, q, none⟩)), (13, .pointer (some ⟨N, q, none⟩))] ⟨h1, HK.at 0 rfl⟩ (by kernel_rfl) ?_
    clear F a9
    intro a9 F
    refine fr_takeG (i := 4) (o := ⟨some 17, _, _, _, _, _⟩) F ⟨h1, HK.at 0 rfl⟩ rfl (wanted_free rfl) 17 rfl (by decide) (.string n.msg.topic) (fun w9 hS => (by intro a' F'; have h16 := F'.at' 16 _ rfl; have hc : w9.cell? ⟨N, q + 28, none⟩ = some (.string n.msg.topic) := (hS.1).cell 28 _ rfl; go_simp)) ?_
    clear F a9
    intro a9 F
    refine fr_chT F [5] [(18, .pointer (some ⟨Q, 0, none⟩))] ⟨h1, HK.at 0 rfl⟩ (by kernel_rfl) ?_
    clear F a9
    intro a9 F
    refine fr_takeG (i := 6) (o := ⟨some 19, _, _, _, _, _⟩) F ⟨h1, HK.at 0 rfl⟩ rfl (wanted_free rfl) 19 rfl (by decide) (.string nr.msg.topic) (fun w9 hS => (by intro a' F'; have h18 := F'.at' 18 _ rfl; have hc : w9.cell? ⟨Q, 0, none⟩ = some (.string nr.msg.topic) := hS.2.cells 0; go_simp)) ?_
    clear F a9
    intro a9 F
    refine fr_takeG (i := 7) (o := ⟨some 20, _, _, _, _, _⟩) F ⟨h1, HK.at 0 rfl⟩ rfl (wanted_free rfl) 20 rfl (by decide) (.bool true) (fun w9 hS => (fun a' F' => op_eqS (F'.ev 17 rfl) (F'.ev 19 rfl) rfl Tryd.underlying9 rfl (decide_eq_true ha))) ?_
    clear F a9
    intro a9 F
    refine fr_chT F [8, 9, 10, 11, 12] [(25, .pointer (some ⟨N, q + 29, none⟩)), (24, .pointer (some ⟨N, q + 28, none⟩)), (23, .pointer (some ⟨N, q, none⟩)), (22, .pointer (some ⟨N, q, none⟩)), (21, .bool true)] ⟨h1, HK.at 0 rfl⟩ (by kernel_rfl) ?_
    clear F a9
    intro a9 F
    refine fr_takeG (i := 13) (o := ⟨some 26, _, _, _, _, _⟩) F ⟨h1, HK.at 0 rfl⟩ rfl (by rw [wanted_at F rfl (t := 21) (b := true) (by kernel_rfl) rfl]; rfl) 26 rfl (by decide) (.string n.msg.payload) (fun w9 hS => (by intro a' F'; have h25 := F'.at' 25 _ rfl; have hc : w9.cell? ⟨N, q + 29, none⟩ = some (.string n.msg.payload) := (hS.1).cell 29 _ rfl; go_simp)) ?_
    clear F a9
    intro a9 F
    refine fr_chT F [14] [(27, .pointer (some ⟨Q, 1, none⟩))] ⟨h1, HK.at 0 rfl⟩ (by kernel_rfl) ?_
    clear F a9
    intro a9 F
    refine fr_takeG (i := 15) (o := ⟨some 28, _, _, _, _, _⟩) F ⟨h1, HK.at 0 rfl⟩ rfl (by rw [wanted_at F rfl (t := 21) (b := true) (by kernel_rfl) rfl]; rfl) 28 rfl (by decide) (.string nr.msg.payload) (fun w9 hS => (by intro a' F'; have h27 := F'.at' 27 _ rfl; have hc : w9.cell? ⟨Q, 1, none⟩ = some (.string nr.msg.payload) := hS.2.cells 1; go_simp)) ?_
    clear F a9
    intro a9 F
    refine fr_takeG (i := 16) (o := ⟨some 29, _, _, _, _, _⟩) F ⟨h1, HK.at 0 rfl⟩ rfl (by rw [wanted_at F rfl (t := 21) (b := true) (by kernel_rfl) rfl]; rfl) 29 rfl (by decide) (.bool true) (fun w9 hS => (fun a' F' => op_eqS (F'.ev 26 rfl) (F'.ev 28 rfl) rfl Tryd.underlying9 rfl (decide_eq_true hb))) ?_
    clear F a9
    intro a9 F
    refine fr_chT F [17, 18, 19, 20, 21] [(34, .pointer (some ⟨N, q + 34, none⟩)), (33, .pointer (some ⟨N, q, none⟩)), (32, .pointer (some ⟨N, q, none⟩)), (31, .bool true), (30, .bool true)] ⟨h1, HK.at 0 rfl⟩ (by kernel_rfl) ?_
    clear F a9
    intro a9 F
    refine fr_takeG (i := 22) (o := ⟨some 35, _, _, _, _, _⟩) F ⟨h1, HK.at 0 rfl⟩ rfl (by rw [wanted_at F rfl (t := 31) (b := true) (by kernel_rfl) rfl]; rfl) 35 rfl (by decide) (.int .u8 (n.qos : Int)) (fun w9 hS => (by intro a' F'; have h34 := F'.at' 34 _ rfl; have hc : w9.cell? ⟨N, q + 34, none⟩ = some (.int .u8 (n.qos : Int)) := (hS.1).cell 34 _ rfl; go_simp)) ?_
    clear F a9
    intro a9 F
    refine fr_chT F [23, 24, 25, 26] [(39, .pointer (some ⟨N, q + 30, none⟩)), (38, .pointer (some ⟨N, q + 28, none⟩)), (37, .pointer (some ⟨N, q, none⟩)), (36, .pointer (some ⟨N, q, none⟩))] ⟨h1, HK.at 0 rfl⟩ (by kernel_rfl) ?_
    clear F a9
    intro a9 F
    refine fr_takeG (i := 27) (o := ⟨some 40, _, _, _, _, _⟩) F ⟨h1, HK.at 0 rfl⟩ rfl (by rw [wanted_at F rfl (t := 31) (b := true) (by kernel_rfl) rfl]; rfl) 40 rfl (by decide) (.int .u8 (n.msg.qos : Int)) (fun w9 hS => (by intro a' F'; have h39 := F'.at' 39 _ rfl; have hc : w9.cell? ⟨N, q + 30, none⟩ = some (.int .u8 (n.msg.qos : Int)) := (hS.1).cell 30 _ rfl; go_simp)) ?_
    clear F a9
    intro a9 F
    refine fr_takeG (i := 28) (o := ⟨some 41, _, _, _, _, _⟩) F ⟨h1, HK.at 0 rfl⟩ rfl (by rw [wanted_at F rfl (t := 31) (b := true) (by kernel_rfl) rfl]; rfl) 41 rfl (by decide) (.bool false) (fun w9 hS => (by intro a' F'; have h35 := F'.at' 35 _ rfl; have h40 := F'.at' 40 _ rfl; go_simp <;> omega)) ?_
    clear F a9
    intro a9 F
    refine fr_chT F [29, 30, 31, 32, 33, 34, 35, 36, 37, 38, 39, 40, 41, 42, 43, 44, 45, 46, 47] [(4, .bool false), (59, .bool false), (58, undef), (57, undef), (56, undef), (55, undef), (54, undef), (53, undef), (52, .bool false), (51, .bool false), (50, undef), (49, undef), (48, undef), (47, undef), (46, undef), (45, undef), (44, undef), (43, .bool false), (42, .bool false)] ⟨h1, HK.at 0 rfl⟩ (by kernel_rfl) ?_
    clear F a9
    intro a9 F
    refine AnyT.done (by kernel_rfl) ?_ _
    refine NoPanic.normal ?_
    show Code.wp _ _ _ _ _
    refine wp_ret ?_
    exact fr_ret1 F rfl _ rfl (FIN.out _ _ (by unfold queuedP; simp only [decide_eq_true ha, decide_eq_true hb, decide_eq_false hd, Bool.true_and, Bool.and_true, Bool.false_and, Bool.and_false]) HK.low)
  by_cases hl : n.qos ≤ nr.msg.qos
  rotate_left
  · skip
    refine wp_seq ?_
    refine wp_region_noPanic ?_
    have hb8 : Below w9.heap.size w9 w9.drew := below_draws (n := 1) rfl
    replace HK := HK.below hb8
    replace h1 := h1.below hb8
    clear hb8
    refine AnyT.begin (S := fun w' => NtAt w' N q n a c ∧ BoxAt w' Q (msV nr.msg) 30) (z := 1000) (by kernel_rfl) ⟨h1, HK.at 0 rfl⟩ (fun hS0 => ?_)
    clear hS0
    generalize w9.drew = w8 at *
    clear w9
    rename World => w9
    refine fr_chT F [0, 1, 2, 3] [(16, .pointer (some ⟨N, q + 28, none⟩)), (15, .pointer (some ⟨N, q + 28, none⟩)), (14, .pointer (some ⟨N, q, none⟩)), (13, .pointer (some ⟨N, q, none⟩))] ⟨h1, HK.at 0 rfl⟩ (by kernel_rfl) ?_
    clear F a9
    intro a9 F
    refine fr_takeG (i := 4) (o := ⟨some 17, _, _, _, _, _⟩) F ⟨h1, HK.at 0 rfl⟩ rfl (wanted_free rfl) 17 rfl (by decide) (.string n.msg.topic) (fun w9 hS => (by intro a' F'; have h16 := F'.at' 16 _ rfl; have hc : w9.cell? ⟨N, q + 28, none⟩ = some (.string n.msg.topic) := (hS.1).cell 28 _ rfl; go_simp)) ?_
    clear F a9
    intro a9 F
    refine fr_chT F [5] [(18, .pointer (some ⟨Q, 0, none⟩))] ⟨h1, HK.at 0 rfl⟩ (by kernel_rfl) ?_
    clear F a9
    intro a9 F
    refine fr_takeG (i := 6) (o := ⟨some 19, _, _, _, _, _⟩) F ⟨h1, HK.at 0 rfl⟩ rfl (wanted_free rfl) 19 rfl (by decide) (.string nr.msg.topic) (fun w9 hS => (by intro a' F'; have h18 := F'.at' 18 _ rfl; have hc : w9.cell? ⟨Q, 0, none⟩ = some (.string nr.msg.topic) := hS.2.cells 0; go_simp)) ?_
    clear F a9
    intro a9 F
    refine fr_takeG (i := 7) (o := ⟨some 20, _, _, _, _, _⟩) F ⟨h1, HK.at 0 rfl⟩ rfl (wanted_free rfl) 20 rfl (by decide) (.bool true) (fun w9 hS => (fun a' F' => op_eqS (F'.ev 17 rfl) (F'.ev 19 rfl) rfl Tryd.underlying9 rfl (decide_eq_true ha))) ?_
    clear F a9
    intro a9 F
    refine fr_chT F [8, 9, 10, 11, 12] [(25, .pointer (some ⟨N, q + 29, none⟩)), (24, .pointer (some ⟨N, q + 28, none⟩)), (23, .pointer (some ⟨N, q, none⟩)), (22, .pointer (some ⟨N, q, none⟩)), (21, .bool true)] ⟨h1, HK.at 0 rfl⟩ (by kernel_rfl) ?_
    clear F a9
    intro a9 F
    refine fr_takeG (i := 13) (o := ⟨some 26, _, _, _, _, _⟩) F ⟨h1, HK.at 0 rfl⟩ rfl (by rw [wanted_at F rfl (t := 21) (b := true) (by kernel_rfl) rfl]; rfl) 26 rfl (by decide) (.string n.msg.payload) (fun w9 hS => (by intro a' F'; have h25 := F'.at' 25 _ rfl; have hc : w9.cell? ⟨N, q + 29, none⟩ = some (.string n.msg.payload) := (hS.1).cell 29 _ rfl; go_simp)) ?_
    clear F a9
    intro a9 F
    refine fr_chT F [14] [(27, .pointer (some ⟨Q, 1, none⟩))] ⟨h1, HK.at 0 rfl⟩ (by kernel_rfl) ?_
    clear F a9
    intro a9 F
    refine fr_takeG (i := 15) (o := ⟨some 28, _, _, _, _, _⟩) F ⟨h1, HK.at 0 rfl⟩ rfl (by rw [wanted_at F rfl (t := 21) (b := true) (by kernel_rfl) rfl]; rfl) 28 rfl (by decide) (.string nr.msg.payload) (fun w9 hS => (by intro a' F'; have h27 := F'.at' 27 _ rfl; have hc : w9.cell? ⟨Q, 1, none⟩ = some (.string nr.msg.payload) := hS.2.cells 1; go_simp)) ?_
    clear F a9
    intro a9 F
    refine fr_takeG (i := 16) (o := ⟨some 29, _, _, _, _, _⟩) F ⟨h1, HK.at 0 rfl⟩ rfl (by rw [wanted_at F rfl (t := 21) (b := true) (by kernel_rfl) rfl]; rfl) 29 rfl (by decide) (.bool true) (fun w9 hS => (fun a' F' => op_eqS (F'.ev 26 rfl) (F'.ev 28 rfl) rfl Tryd.underlying9 rfl (decide_eq_true hb))) ?_
    clear F a9
    intro a9 F
    refine fr_chT F [17, 18, 19, 20, 21] [(34, .pointer (some ⟨N, q + 34, none⟩)), (33, .pointer (some ⟨N, q, none⟩)), (32, .pointer (some ⟨N, q, none⟩)), (31, .bool true), (30, .bool true)] ⟨h1, HK.at 0 rfl⟩ (by kernel_rfl) ?_
    clear F a9
    intro a9 F
    refine fr_takeG (i := 22) (o := ⟨some 35, _, _, _, _, _⟩) F ⟨h1, HK.at 0 rfl⟩ rfl (by rw [wanted_at F rfl (t := 31) (b := true) (by kernel_rfl) rfl]; rfl) 35 rfl (by decide) (.int .u8 (n.qos : Int)) (fun w9 hS => (by intro a' F'; have h34 := F'.at' 34 _ rfl; have hc : w9.cell? ⟨N, q + 34, none⟩ = some (.int .u8 (n.qos : Int)) := (hS.1).cell 34 _ rfl; go_simp)) ?_
    clear F a9
    intro a9 F
    refine fr_chT F [23, 24, 25, 26] [(39, .pointer (some ⟨N, q + 30, none⟩)), (38, .pointer (some ⟨N, q + 28, none⟩)), (37, .pointer (some ⟨N, q, none⟩)), (36, .pointer (some ⟨N, q, none⟩))] ⟨h1, HK.at 0 rfl⟩ (by kernel_rfl) ?_
    clear F a9
    intro a9 F
    refine fr_takeG (i := 27) (o := ⟨some 40, _, _, _, _, _⟩) F ⟨h1, HK.at 0 rfl⟩ rfl (by rw [wanted_at F rfl (t := 31) (b := true) (by kernel_rfl) rfl]; rfl) 40 rfl (by decide) (.int .u8 (n.msg.qos : Int)) (fun w9 hS => (by intro a' F'; have h39 := F'.at' 39 _ rfl; have hc : w9.cell? ⟨N, q + 30, none⟩ = some (.int .u8 (n.msg.qos : Int)) := (hS.1).cell 30 _ rfl; go_simp)) ?_
    clear F a9
    intro a9 F
    refine fr_takeG (i := 28) (o := ⟨some 41, _, _, _, _, _⟩) F ⟨h1, HK.at 0 rfl⟩ rfl (by rw [wanted_at F rfl (t := 31) (b := true) (by kernel_rfl) rfl]; rfl) 41 rfl (by decide) (.bool true) (fun w9 hS => (by intro a' F'; have h35 := F'.at' 35 _ rfl; have h40 := F'.at' 40 _ rfl; go_simp)) ?_
    clear F a9
    intro a9 F
    refine fr_chT F [29, 30, 31, 32, 33] [(46, .pointer (some ⟨N, q + 34, none⟩)), (45, .pointer (some ⟨N, q, none⟩)), (44, .pointer (some ⟨N, q, none⟩)), (43, .bool true), (42, .bool true)] ⟨h1, HK.at 0 rfl⟩ (by kernel_rfl) ?_
    clear F a9
    intro a9 F
    refine fr_takeG (i := 34) (o := ⟨some 47, _, _, _, _, _⟩) F ⟨h1, HK.at 0 rfl⟩ rfl (by rw [wanted_at F rfl (t := 43) (b := true) (by kernel_rfl) rfl]; rfl) 47 rfl (by decide) (.int .u8 (n.qos : Int)) (fun w9 hS => (by intro a' F'; have h46 := F'.at' 46 _ rfl; have hc : w9.cell? ⟨N, q + 34, none⟩ = some (.int .u8 (n.qos : Int)) := (hS.1).cell 34 _ rfl; go_simp)) ?_
    clear F a9
    intro a9 F
    refine fr_chT F [35] [(48, .pointer (some ⟨Q, 2, none⟩))] ⟨h1, HK.at 0 rfl⟩ (by kernel_rfl) ?_
    clear F a9
    intro a9 F
    refine fr_takeG (i := 36) (o := ⟨some 49, _, _, _, _, _⟩) F ⟨h1, HK.at 0 rfl⟩ rfl (by rw [wanted_at F rfl (t := 43) (b := true) (by kernel_rfl) rfl]; rfl) 49 rfl (by decide) (.int .u8 (nr.msg.qos : Int)) (fun w9 hS => (by intro a' F'; have h48 := F'.at' 48 _ rfl; have hc : w9.cell? ⟨Q, 2, none⟩ = some (.int .u8 (nr.msg.qos : Int)) := hS.2.cells 2; go_simp)) ?_
    clear F a9
    intro a9 F
    refine fr_takeG (i := 37) (o := ⟨some 50, _, _, _, _, _⟩) F ⟨h1, HK.at 0 rfl⟩ rfl (by rw [wanted_at F rfl (t := 43) (b := true) (by kernel_rfl) rfl]; rfl) 50 rfl (by decide) (.bool false) (fun w9 hS => (by intro a' F'; have h47 := F'.at' 47 _ rfl; have h49 := F'.at' 49 _ rfl; go_simp <;> omega)) ?_
    clear F a9
    intro a9 F
    refine fr_chT F [38, 39, 40, 41, 42, 43, 44, 45, 46, 47] [(4, .bool false), (59, .bool false), (58, undef), (57, undef), (56, undef), (55, undef), (54, undef), (53, undef), (52, .bool false), (51, .bool false)] ⟨h1, HK.at 0 rfl⟩ (by kernel_rfl) ?_
    clear F a9
    intro a9 F
    refine AnyT.done (by kernel_rfl) ?_ _
    refine NoPanic.normal ?_
    show Code.wp _ _ _ _ _
    refine wp_ret ?_
    exact fr_ret1 F rfl _ rfl (FIN.out _ _ (by unfold queuedP; simp only [decide_eq_true ha, decide_eq_true hb, decide_eq_true hd, decide_eq_false hl, Bool.true_and, Bool.and_true, Bool.false_and, Bool.and_false]) HK.low)
  by_cases he : n.msg.ret = false
  rotate_left
  · skip
    have he2 : n.msg.ret = true := by cases h : n.msg.ret; exact absurd h he; rfl
    refine wp_seq ?_
    refine wp_region_noPanic ?_
    have hb8 : Below w9.heap.size w9 w9.drew := below_draws (n := 1) rfl
    replace HK := HK.below hb8
    replace h1 := h1.below hb8
    clear hb8
    refine AnyT.begin (S := fun w' => NtAt w' N q n a c ∧ BoxAt w' Q (msV nr.msg) 30) (z := 1000) (by kernel_rfl) ⟨h1, HK.at 0 rfl⟩ (fun hS0 => ?_)
    clear hS0
    generalize w9.drew = w8 at *
    clear w9
    rename World => w9
    refine fr_chT F [0, 1, 2, 3] [(16, .pointer (some ⟨N, q + 28, none⟩)), (15, .pointer (some ⟨N, q + 28, none⟩)), (14, .pointer (some ⟨N, q, none⟩)), (13, .pointer (some ⟨N, q, none⟩))] ⟨h1, HK.at 0 rfl⟩ (by kernel_rfl) ?_
    clear F a9
    intro a9 F
    refine fr_takeG (i := 4) (o := ⟨some 17, _, _, _, _, _⟩) F ⟨h1, HK.at 0 rfl⟩ rfl (wanted_free rfl) 17 rfl (by decide) (.string n.msg.topic) (fun w9 hS => (by intro a' F'; have h16 := F'.at' 16 _ rfl; have hc : w9.cell? ⟨N, q + 28, none⟩ = some (.string n.msg.topic) := (hS.1).cell 28 _ rfl; go_simp)) ?_
    clear F a9
    intro a9 F
    refine fr_chT F [5] [(18, .pointer (some ⟨Q, 0, none⟩))] ⟨h1, HK.at 0 rfl⟩ (by kernel_rfl) ?_
    clear F a9
    intro a9 F
    refine fr_takeG (i := 6) (o := ⟨some 19, _, _, _, _, _⟩) F ⟨h1, HK.at 0 rfl⟩ rfl (wanted_free rfl) 19 rfl (by decide) (.string nr.msg.topic) (fun w9 hS => (by intro a' F'; have h18 := F'.at' 18 _ rfl; have hc : w9.cell? ⟨Q, 0, none⟩ = some (.string nr.msg.topic) := hS.2.cells 0; go_simp)) ?_
    clear F a9
    intro a9 F
    refine fr_takeG (i := 7) (o := ⟨some 20, _, _, _, _, _⟩) F ⟨h1, HK.at 0 rfl⟩ rfl (wanted_free rfl) 20 rfl (by decide) (.bool true) (fun w9 hS => (fun a' F' => op_eqS (F'.ev 17 rfl) (F'.ev 19 rfl) rfl Tryd.underlying9 rfl (decide_eq_true ha))) ?_
    clear F a9
    intro a9 F
    refine fr_chT F [8, 9, 10, 11, 12] [(25, .pointer (some ⟨N, q + 29, none⟩)), (24, .pointer (some ⟨N, q + 28, none⟩)), (23, .pointer (some ⟨N, q, none⟩)), (22, .pointer (some ⟨N, q, none⟩)), (21, .bool true)] ⟨h1, HK.at 0 rfl⟩ (by kernel_rfl) ?_
    clear F a9
    intro a9 F
    refine fr_takeG (i := 13) (o := ⟨some 26, _, _, _, _, _⟩) F ⟨h1, HK.at 0 rfl⟩ rfl (by rw [wanted_at F rfl (t := 21) (b := true) (by kernel_rfl) rfl]; rfl) 26 rfl (by decide) (.string n.msg.payload) (fun w9 hS => (by intro a' F'; have h25 := F'.at' 25 _ rfl; have hc : w9.cell? ⟨N, q + 29, none⟩ = some (.string n.msg.payload) := (hS.1).cell 29 _ rfl; go_simp)) ?_
    clear F a9
    intro a9 F
    refine fr_chT F [14] [(27, .pointer (some ⟨Q, 1, none⟩))] ⟨h1, HK.at 0 rfl⟩ (by kernel_rfl) ?_
    clear F a9
    intro a9 F
    refine fr_takeG (i := 15) (o := ⟨some 28, _, _, _, _, _⟩) F ⟨h1, HK.at 0 rfl⟩ rfl (by rw [wanted_at F rfl (t := 21) (b := true) (by kernel_rfl) rfl]; rfl) 28 rfl (by decide) (.string nr.msg.payload) (fun w9 hS => (by intro a' F'; have h27 := F'.at' 27 _ rfl; have hc : w9.cell? ⟨Q, 1, none⟩ = some (.string nr.msg.payload) := hS.2.cells 1; go_simp)) ?_
    clear F a9
    intro a9 F
    refine fr_takeG (i := 16) (o := ⟨some 29, _, _, _, _, _⟩) F ⟨h1, HK.at 0 rfl⟩ rfl (by rw [wanted_at F rfl (t := 21) (b := true) (by kernel_rfl) rfl]; rfl) 29 rfl (by decide) (.bool true) (fun w9 hS => (fun a' F' => op_eqS (F'.ev 26 rfl) (F'.ev 28 rfl) rfl Tryd.underlying9 rfl (decide_eq_true hb))) ?_
    clear F a9
    intro a9 F
    refine fr_chT F [17, 18, 19, 20, 21] [(34, .pointer (some ⟨N, q + 34, none⟩)), (33, .pointer (some ⟨N, q, none⟩)), (32, .pointer (some ⟨N, q, none⟩)), (31, .bool true), (30, .bool true)] ⟨h1, HK.at 0 rfl⟩ (by kernel_rfl) ?_
    clear F a9
    intro a9 F
    refine fr_takeG (i := 22) (o := ⟨some 35, _, _, _, _, _⟩) F ⟨h1, HK.at 0 rfl⟩ rfl (by rw [wanted_at F rfl (t := 31) (b := true) (by kernel_rfl) rfl]; rfl) 35 rfl (by decide) (.int .u8 (n.qos : Int)) (fun w9 hS => (by intro a' F'; have h34 := F'.at' 34 _ rfl; have hc : w9.cell? ⟨N, q + 34, none⟩ = some (.int .u8 (n.qos : Int)) := (hS.1).cell 34 _ rfl; go_simp)) ?_
    clear F a9
    intro a9 F
    refine fr_chT F [23, 24, 25, 26] [(39, .pointer (some ⟨N, q + 30, none⟩)), (38, .pointer (some ⟨N, q + 28, none⟩)), (37, .pointer (some ⟨N, q, none⟩)), (36, .pointer (some ⟨N, q, none⟩))] ⟨h1, HK.at 0 rfl⟩ (by kernel_rfl) ?_
    clear F a9
    intro a9 F
    refine fr_takeG (i := 27) (o := ⟨some 40, _, _, _, _, _⟩) F ⟨h1, HK.at 0 rfl⟩ rfl (by rw [wanted_at F rfl (t := 31) (b := true) (by kernel_rfl) rfl]; rfl) 40 rfl (by decide) (.int .u8 (n.msg.qos : Int)) (fun w9 hS => (by intro a' F'; have h39 := F'.at' 39 _ rfl; have hc : w9.cell? ⟨N, q + 30, none⟩ = some (.int .u8 (n.msg.qos : Int)) := (hS.1).cell 30 _ rfl; go_simp)) ?_
    clear F a9
    intro a9 F
    refine fr_takeG (i := 28) (o := ⟨some 41, _, _, _, _, _⟩) F ⟨h1, HK.at 0 rfl⟩ rfl (by rw [wanted_at F rfl (t := 31) (b := true) (by kernel_rfl) rfl]; rfl) 41 rfl (by decide) (.bool true) (fun w9 hS => (by intro a' F'; have h35 := F'.at' 35 _ rfl; have h40 := F'.at' 40 _ rfl; go_simp)) ?_
    clear F a9
    intro a9 F
    refine fr_chT F [29, 30, 31, 32, 33] [(46, .pointer (some ⟨N, q + 34, none⟩)), (45, .pointer (some ⟨N, q, none⟩)), (44, .pointer (some ⟨N, q, none⟩)), (43, .bool true), (42, .bool true)] ⟨h1, HK.at 0 rfl⟩ (by kernel_rfl) ?_
    clear F a9
    intro a9 F
    refine fr_takeG (i := 34) (o := ⟨some 47, _, _, _, _, _⟩) F ⟨h1, HK.at 0 rfl⟩ rfl (by rw [wanted_at F rfl (t := 43) (b := true) (by kernel_rfl) rfl]; rfl) 47 rfl (by decide) (.int .u8 (n.qos : Int)) (fun w9 hS => (by intro a' F'; have h46 := F'.at' 46 _ rfl; have hc : w9.cell? ⟨N, q + 34, none⟩ = some (.int .u8 (n.qos : Int)) := (hS.1).cell 34 _ rfl; go_simp)) ?_
    clear F a9
    intro a9 F
    refine fr_chT F [35] [(48, .pointer (some ⟨Q, 2, none⟩))] ⟨h1, HK.at 0 rfl⟩ (by kernel_rfl) ?_
    clear F a9
    intro a9 F
    refine fr_takeG (i := 36) (o := ⟨some 49, _, _, _, _, _⟩) F ⟨h1, HK.at 0 rfl⟩ rfl (by rw [wanted_at F rfl (t := 43) (b := true) (by kernel_rfl) rfl]; rfl) 49 rfl (by decide) (.int .u8 (nr.msg.qos : Int)) (fun w9 hS => (by intro a' F'; have h48 := F'.at' 48 _ rfl; have hc : w9.cell? ⟨Q, 2, none⟩ = some (.int .u8 (nr.msg.qos : Int)) := hS.2.cells 2; go_simp)) ?_
    clear F a9
    intro a9 F
    refine fr_takeG (i := 37) (o := ⟨some 50, _, _, _, _, _⟩) F ⟨h1, HK.at 0 rfl⟩ rfl (by rw [wanted_at F rfl (t := 43) (b := true) (by kernel_rfl) rfl]; rfl) 50 rfl (by decide) (.bool true) (fun w9 hS => (by intro a' F'; have h47 := F'.at' 47 _ rfl; have h49 := F'.at' 49 _ rfl; go_simp <;> omega)) ?_
    clear F a9
    intro a9 F
    refine fr_chT F [38, 39, 40, 41, 42, 43] [(56, .pointer (some ⟨N, q + 31, none⟩)), (55, .pointer (some ⟨N, q + 28, none⟩)), (54, .pointer (some ⟨N, q, none⟩)), (53, .pointer (some ⟨N, q, none⟩)), (52, .bool true), (51, .bool true)] ⟨h1, HK.at 0 rfl⟩ (by kernel_rfl) ?_
    clear F a9
    intro a9 F
    refine fr_takeG (i := 44) (o := ⟨some 57, _, _, _, _, _⟩) F ⟨h1, HK.at 0 rfl⟩ rfl (by rw [wanted_at F rfl (t := 52) (b := true) (by kernel_rfl) rfl]; rfl) 57 rfl (by decide) (.bool true) (fun w9 hS => (by intro a' F'; have h56 := F'.at' 56 _ rfl; have hc : w9.cell? ⟨N, q + 31, none⟩ = some (.bool true) := ((hS.1).cell 31 _ rfl).trans (congrArg (fun b => some (Value.bool b)) he2); go_simp)) ?_
    clear F a9
    intro a9 F
    refine fr_chT F [45, 46, 47] [(4, .bool false), (59, .bool false), (58, .bool false)] ⟨h1, HK.at 0 rfl⟩ (by kernel_rfl) ?_
    clear F a9
    intro a9 F
    refine AnyT.done (by kernel_rfl) ?_ _
    refine NoPanic.normal ?_
    show Code.wp _ _ _ _ _
    refine wp_ret ?_
    exact fr_ret1 F rfl _ rfl (FIN.out _ _ (by unfold queuedP; simp only [decide_eq_true ha, decide_eq_true hb, decide_eq_true hd, decide_eq_true hl, decide_eq_false he, Bool.true_and, Bool.and_true, Bool.false_and, Bool.and_false]) HK.low)
  have he2 := he
  refine wp_seq ?_
  refine wp_region_noPanic ?_
  have hb8 : Below w9.heap.size w9 w9.drew := below_draws (n := 1) rfl
  replace HK := HK.below hb8
  replace h1 := h1.below hb8
  clear hb8
  refine AnyT.begin (S := fun w' => NtAt w' N q n a c ∧ BoxAt w' Q (msV nr.msg) 30) (z := 1000) (by kernel_rfl) ⟨h1, HK.at 0 rfl⟩ (fun hS0 => ?_)
  clear hS0
  generalize w9.drew = w8 at *
  clear w9
  rename World => w9
  refine fr_chT F [0, 1, 2, 3] [(16, .pointer (some ⟨N, q + 28, none⟩)), (15, .pointer (some ⟨N, q + 28, none⟩)), (14, .pointer (some ⟨N, q, none⟩)), (13, .pointer (some ⟨N, q, none⟩))] ⟨h1, HK.at 0 rfl⟩ (by kernel_rfl) ?_
  clear F a9
  intro a9 F
  refine fr_takeG (i := 4) (o := ⟨some 17, _, _, _, _, _⟩) F ⟨h1, HK.at 0 rfl⟩ rfl (wanted_free rfl) 17 rfl (by decide) (.string n.msg.topic) (fun w9 hS => (by intro a' F'; have h16 := F'.at' 16 _ rfl; have hc : w9.cell? ⟨N, q + 28, none⟩ = some (.string n.msg.topic) := (hS.1).cell 28 _ rfl; go_simp)) ?_
  clear F a9
  intro a9 F
  refine fr_chT F [5] [(18, .pointer (some ⟨Q, 0, none⟩))] ⟨h1, HK.at 0 rfl⟩ (by kernel_rfl) ?_
  clear F a9
  intro a9 F
  refine fr_takeG (i := 6) (o := ⟨some 19, _, _, _, _, _⟩) F ⟨h1, HK.at 0 rfl⟩ rfl (wanted_free rfl) 19 rfl (by decide) (.string nr.msg.topic) (fun w9 hS => (by intro a' F'; have h18 := F'.at' 18 _ rfl; have hc : w9.cell? ⟨Q, 0, none⟩ = some (.string nr.msg.topic) := hS.2.cells 0; go_simp)) ?_
  clear F a9
  intro a9 F
  refine fr_takeG (i := 7) (o := ⟨some 20, _, _, _, _, _⟩) F ⟨h1, HK.at 0 rfl⟩ rfl (wanted_free rfl) 20 rfl (by decide) (.bool true) (fun w9 hS => (fun a' F' => op_eqS (F'.ev 17 rfl) (F'.ev 19 rfl) rfl Tryd.underlying9 rfl (decide_eq_true ha))) ?_
  clear F a9
  intro a9 F
  refine fr_chT F [8, 9, 10, 11, 12] [(25, .pointer (some ⟨N, q + 29, none⟩)), (24, .pointer (some ⟨N, q + 28, none⟩)), (23, .pointer (some ⟨N, q, none⟩)), (22, .pointer (some ⟨N, q, none⟩)), (21, .bool true)] ⟨h1, HK.at 0 rfl⟩ (by kernel_rfl) ?_
  clear F a9
  intro a9 F
  refine fr_takeG (i := 13) (o := ⟨some 26, _, _, _, _, _⟩) F ⟨h1, HK.at 0 rfl⟩ rfl (by rw [wanted_at F rfl (t := 21) (b := true) (by kernel_rfl) rfl]; rfl) 26 rfl (by decide) (.string n.msg.payload) (fun w9 hS => (by intro a' F'; have h25 := F'.at' 25 _ rfl; have hc : w9.cell? ⟨N, q + 29, none⟩ = some (.string n.msg.payload) := (hS.1).cell 29 _ rfl; go_simp)) ?_
  clear F a9
  intro a9 F
  refine fr_chT F [14] [(27, .pointer (some ⟨Q, 1, none⟩))] ⟨h1, HK.at 0 rfl⟩ (by kernel_rfl) ?_
  clear F a9
  intro a9 F
  refine fr_takeG (i := 15) (o := ⟨some 28, _, _, _, _, _⟩) F ⟨h1, HK.at 0 rfl⟩ rfl (by rw [wanted_at F rfl (t := 21) (b := true) (by kernel_rfl) rfl]; rfl) 28 rfl (by decide) (.string nr.msg.payload) (fun w9 hS => (by intro a' F'; have h27 := F'.at' 27 _ rfl; have hc : w9.cell? ⟨Q, 1, none⟩ = some (.string nr.msg.payload) := hS.2.cells 1; go_simp)) ?_
  clear F a9
  intro a9 F
  refine fr_takeG (i := 16) (o := ⟨some 29, _, _, _, _, _⟩) F ⟨h1, HK.at 0 rfl⟩ rfl (by rw [wanted_at F rfl (t := 21) (b := true) (by kernel_rfl) rfl]; rfl) 29 rfl (by decide) (.bool true) (fun w9 hS => (fun a' F' => op_eqS (F'.ev 26 rfl) (F'.ev 28 rfl) rfl Tryd.underlying9 rfl (decide_eq_true hb))) ?_
  clear F a9
  intro a9 F
  refine fr_chT F [17, 18, 19, 20, 21] [(34, .pointer (some ⟨N, q + 34, none⟩)), (33, .pointer (some ⟨N, q, none⟩)), (32, .pointer (some ⟨N, q, none⟩)), (31, .bool true), (30, .bool true)] ⟨h1, HK.at 0 rfl⟩ (by kernel_rfl) ?_
  clear F a9
  intro a9 F
  refine fr_takeG (i := 22) (o := ⟨some 35, _, _, _, _, _⟩) F ⟨h1, HK.at 0 rfl⟩ rfl (by rw [wanted_at F rfl (t := 31) (b := true) (by kernel_rfl) rfl]; rfl) 35 rfl (by decide) (.int .u8 (n.qos : Int)) (fun w9 hS => (by intro a' F'; have h34 := F'.at' 34 _ rfl; have hc : w9.cell? ⟨N, q + 34, none⟩ = some (.int .u8 (n.qos : Int)) := (hS.1).cell 34 _ rfl; go_simp)) ?_
  clear F a9
  intro a9 F
  refine fr_chT F [23, 24, 25, 26] [(39, .pointer (some ⟨N, q + 30, none⟩)), (38, .pointer (some ⟨N, q + 28, none⟩)), (37, .pointer (some ⟨N, q, none⟩)), (36, .pointer (some ⟨N, q, none⟩))] ⟨h1, HK.at 0 rfl⟩ (by kernel_rfl) ?_
  clear F a9
  intro a9 F
  refine fr_takeG (i := 27) (o := ⟨some 40, _, _, _, _, _⟩) F ⟨h1, HK.at 0 rfl⟩ rfl (by rw [wanted_at F rfl (t := 31) (b := true) (by kernel_rfl) rfl]; rfl) 40 rfl (by decide) (.int .u8 (n.msg.qos : Int)) (fun w9 hS => (by intro a' F'; have h39 := F'.at' 39 _ rfl; have hc : w9.cell? ⟨N, q + 30, none⟩ = some (.int .u8 (n.msg.qos : Int)) := (hS.1).cell 30 _ rfl; go_simp)) ?_
  clear F a9
  intro a9 F
  refine fr_takeG (i := 28) (o := ⟨some 41, _, _, _, _, _⟩) F ⟨h1, HK.at 0 rfl⟩ rfl (by rw [wanted_at F rfl (t := 31) (b := true) (by kernel_rfl) rfl]; rfl) 41 rfl (by decide) (.bool true) (fun w9 hS => (by intro a' F'; have h35 := F'.at' 35 _ rfl; have h40 := F'.at' 40 _ rfl; go_simp)) ?_
  clear F a9
  intro a9 F
  refine fr_chT F [29, 30, 31, 32, 33] [(46, .pointer (some ⟨N, q + 34, none⟩)), (45, .pointer (some ⟨N, q, none⟩)), (44, .pointer (some ⟨N, q, none⟩)), (43, .bool true), (42, .bool true)] ⟨h1, HK.at 0 rfl⟩ (by kernel_rfl) ?_
  clear F a9
  intro a9 F
  refine fr_takeG (i := 34) (o := ⟨some 47, _, _, _, _, _⟩) F ⟨h1, HK.at 0 rfl⟩ rfl (by rw [wanted_at F rfl (t := 43) (b := true) (by kernel_rfl) rfl]; rfl) 47 rfl (by decide) (.int .u8 (n.qos : Int)) (fun w9 hS => (by intro a' F'; have h46 := F'.at' 46 _ rfl; have hc : w9.cell? ⟨N, q + 34, none⟩ = some (.int .u8 (n.qos : Int)) := (hS.1).cell 34 _ rfl; go_simp)) ?_
  clear F a9
  intro a9 F
  refine fr_chT F [35] [(48, .pointer (some ⟨Q, 2, none⟩))] ⟨h1, HK.at 0 rfl⟩ (by kernel_rfl) ?_
  clear F a9
  intro a9 F
  refine fr_takeG (i := 36) (o := ⟨some 49, _, _, _, _, _⟩) F ⟨h1, HK.at 0 rfl⟩ rfl (by rw [wanted_at F rfl (t := 43) (b := true) (by kernel_rfl) rfl]; rfl) 49 rfl (by decide) (.int .u8 (nr.msg.qos : Int)) (fun w9 hS => (by intro a' F'; have h48 := F'.at' 48 _ rfl; have hc : w9.cell? ⟨Q, 2, none⟩ = some (.int .u8 (nr.msg.qos : Int)) := hS.2.cells 2; go_simp)) ?_
  clear F a9
  intro a9 F
  refine fr_takeG (i := 37) (o := ⟨some 50, _, _, _, _, _⟩) F ⟨h1, HK.at 0 rfl⟩ rfl (by rw [wanted_at F rfl (t := 43) (b := true) (by kernel_rfl) rfl]; rfl) 50 rfl (by decide) (.bool true) (fun w9 hS => (by intro a' F'; have h47 := F'.at' 47 _ rfl; have h49 := F'.at' 49 _ rfl; go_simp <;> omega)) ?_
  clear F a9
  intro a9 F
  refine fr_chT F [38, 39, 40, 41, 42, 43] [(56, .pointer (some ⟨N, q + 31, none⟩)), (55, .pointer (some ⟨N, q + 28, none⟩)), (54, .pointer (some ⟨N, q, none⟩)), (53, .pointer (some ⟨N, q, none⟩)), (52, .bool true), (51, .bool true)] ⟨h1, HK.at 0 rfl⟩ (by kernel_rfl) ?_
  clear F a9
  intro a9 F
  refine fr_takeG (i := 44) (o := ⟨some 57, _, _, _, _, _⟩) F ⟨h1, HK.at 0 rfl⟩ rfl (by rw [wanted_at F rfl (t := 52) (b := true) (by kernel_rfl) rfl]; rfl) 57 rfl (by decide) (.bool false) (fun w9 hS => (by intro a' F'; have h56 := F'.at' 56 _ rfl; have hc : w9.cell? ⟨N, q + 31, none⟩ = some (.bool false) := ((hS.1).cell 31 _ rfl).trans (congrArg (fun b => some (Value.bool b)) he2); go_simp)) ?_
  clear F a9
  intro a9 F
  refine fr_chT F [45, 46, 47] [(4, .bool true), (59, .bool true), (58, .bool true)] ⟨h1, HK.at 0 rfl⟩ (by kernel_rfl) ?_
  clear F a9
  intro a9 F
  refine AnyT.done (by kernel_rfl) ?_ _
  refine NoPanic.normal ?_
  show Code.wp _ _ _ _ _
  refine wp_ret ?_
  exact fr_ret1 F rfl _ rfl (FIN.out _ _ (by unfold queuedP; simp only [decide_eq_true ha, decide_eq_true hb, decide_eq_true hd, decide_eq_true hl, decide_eq_true he, Bool.true_and, Bool.and_true, Bool.false_and, Bool.and_false]) HK.low)
set_option maxRecDepth 100000 in
set_option maxHeartbeats 4000000 in
theorem order_kept {w : World} (hE : Env w) {p N q d : Nat} {x : Pa} {n nd : Nt} {a ad : Option Addr} {c cd : Nat} (HP : BoxAt w p (paV N x) 83) (hd0 : x.does = some d) (h1 : NtAt w N q n a c) (h2 : NtAt w N d nd ad cd) : Calls Tryd.prog 53 #[.pointer (some ⟨p, 0, none⟩), .pointer (some ⟨N, q, none⟩)] w fun e w' => e = .returned (.bool (keptP n nd)) ∧ Below w.heap.size w w' := by
  obtain ⟨RR, hRR⟩ : ∃ RR : Ending → World → Prop, RR = fun e w' => e = .returned (.bool (keptP n nd)) ∧ Below w.heap.size w w' := ⟨_, rfl⟩
  have FIN := Lib.hid (show ∀ b w', b = keptP n nd → Below w.heap.size w w' → RR (.returned (.bool b)) w' from fun b w' h1 hb => by rw [hRR, h1]; exact ⟨rfl, hb⟩)
  rw [← hRR]
  obtain ⟨w9, hw9⟩ : ∃ w9, w9 = w := ⟨_, rfl⟩
  have HK : Keep w [] [] w9 := by rw [hw9]; exact Keep.begin hE _ (by intro r hr; cases hr)
  rw [← hw9] at HP h1 h2
  suffices hgo : Calls Tryd.prog 53 #[.pointer (some ⟨p, 0, none⟩), .pointer (some ⟨N, q, none⟩)] w9 RR by rw [hw9] at hgo; exact hgo
  clear hw9 hRR hE
  go_enter Tryd.func53, Tryd.ntmps53
  refine wp_forget (n := 47) (L := [(1, .pointer (some ⟨N, q, none⟩)), (0, .pointer (some ⟨p, 0, none⟩))]) (FrL.add (FrL.add (FrL.nil ?_ ?_) _ _ ?_) _ _ ?_) ?_
  iterate 4 rfl
  intro a9 F
  refine wp_seq ?_
  refine wp_region_lit ?_
  refine fr_ch F 1 [(4, .bool false)] (by kernel_rfl) ?_
  clear F a9
  intro a9 F
  refine wpList_nil ?_
  show Code.wp _ _ _ _ _
  by_cases ha : n.client = nd.client
  rotate_left
  · skip
    refine wp_seq ?_
    refine wp_region_noPanic ?_
    have hb8 : Below w9.heap.size w9 w9.drew := below_draws (n := 1) rfl
    replace HK := HK.below hb8
    replace h1 := h1.below hb8
    replace h2 := h2.below hb8
    replace HP := HP.below hb8
    clear hb8
    refine AnyT.begin (S := fun w' => NtAt w' N q n a c ∧ NtAt w' N d nd ad cd ∧ BoxAt w' p (paV N x) 83) (z := 1000) (by kernel_rfl) ⟨h1, h2, HP⟩ (fun hS0 => ?_)
    clear hS0
    generalize w9.drew = w8 at *
    clear w9
    rename World => w9
    refine fr_chT F [0, 1, 2] [(7, .pointer (some ⟨N, q + 3, none⟩)), (6, .pointer (some ⟨N, q, none⟩)), (5, .pointer (some ⟨N, q, none⟩))] ⟨h1, h2, HP⟩ (by kernel_rfl) ?_
    clear F a9
    intro a9 F
    refine fr_takeG (i := 3) (o := ⟨some 8, _, _, _, _, _⟩) F ⟨h1, h2, HP⟩ rfl (wanted_free rfl) 8 rfl (by decide) (.string n.client) (fun w9 hS => (by intro a' F'; have h7 := F'.at' 7 _ rfl; have hc : w9.cell? ⟨N, q + 3, none⟩ = some (.string n.client) := (hS.1).cell 3 _ rfl; go_simp)) ?_
    clear F a9
    intro a9 F
    refine fr_chT F [4, 5, 6] [(11, .pointer (some ⟨p, 1, none⟩)), (10, .pointer (some ⟨p, 0, none⟩)), (9, .pointer (some ⟨p, 0, none⟩))] ⟨h1, h2, HP⟩ (by kernel_rfl) ?_
    clear F a9
    intro a9 F
    refine fr_takeG (i := 7) (o := ⟨some 12, _, _, _, _, _⟩) F ⟨h1, h2, HP⟩ rfl (wanted_free rfl) 12 rfl (by decide) (.pointer (some ⟨N, d, none⟩)) (fun w9 hS => (by intro a' F'; have h11 := F'.at' 11 _ rfl; have hc : w9.cell? ⟨p, 1, none⟩ = some (.pointer (some ⟨N, d, none⟩)) := (hS.2.2.cells 1).trans (congrArg (fun z => some (ptrN N z)) hd0); go_simp)) ?_
    clear F a9
    intro a9 F
    refine fr_chT F [8, 9] [(14, .pointer (some ⟨N, d + 3, none⟩)), (13, .pointer (some ⟨N, d, none⟩))] ⟨h1, h2, HP⟩ (by kernel_rfl) ?_
    clear F a9
    intro a9 F
    refine fr_takeG (i := 10) (o := ⟨some 15, _, _, _, _, _⟩) F ⟨h1, h2, HP⟩ rfl (wanted_free rfl) 15 rfl (by decide) (.string nd.client) (fun w9 hS => (by intro a' F'; have h14 := F'.at' 14 _ rfl; have hc : w9.cell? ⟨N, d + 3, none⟩ = some (.string nd.client) := (hS.2.1).cell 3 _ rfl; go_simp)) ?_
    clear F a9
    intro a9 F
    refine fr_takeG (i := 11) (o := ⟨some 16, _, _, _, _, _⟩) F ⟨h1, h2, HP⟩ rfl (wanted_free rfl) 16 rfl (by decide) (.bool false) (fun w9 hS => (fun a' F' => op_eqS (F'.ev 8 rfl) (F'.ev 15 rfl) rfl Tryd.underlying9 rfl (decide_eq_false ha))) ?_
    clear F a9
    intro a9 F
    refine fr_chT F [12, 13, 14, 15, 16, 17, 18, 19, 20, 21, 22, 23, 24, 25, 26, 27, 28, 29, 30, 31, 32, 33, 34, 35, 36, 37, 38, 39, 40, 41, 42] [(4, .bool false), (46, .bool false), (45, undef), (44, undef), (43, undef), (42, undef), (41, undef), (40, .bool false), (39, .bool false), (38, undef), (37, undef), (36, undef), (35, undef), (34, undef), (33, undef), (32, undef), (31, undef), (30, undef), (29, undef), (28, .bool false), (27, .bool false), (26, undef), (25, undef), (24, undef), (23, undef), (22, undef), (21, undef), (20, undef), (19, undef), (18, undef), (17, .bool false)] ⟨h1, h2, HP⟩ (by kernel_rfl) ?_
    clear F a9
    intro a9 F
    refine AnyT.done (by kernel_rfl) ?_ _
    refine NoPanic.normal ?_
    show Code.wp _ _ _ _ _
    refine wp_ret ?_
    exact fr_ret1 F rfl _ rfl (FIN.out _ _ (by unfold keptP; simp only [decide_eq_false ha, Bool.true_and, Bool.and_true, Bool.false_and, Bool.and_false]) HK.low)
  by_cases hb : nd.p.ty = 8
  rotate_left
  · skip
    refine wp_seq ?_
    refine wp_region_noPanic ?_
    have hb8 : Below w9.heap.size w9 w9.drew := below_draws (n := 1) rfl
    replace HK := HK.below hb8
    replace h1 := h1.below hb8
    replace h2 := h2.below hb8
    replace HP := HP.below hb8
    clear hb8
    refine AnyT.begin (S := fun w' => NtAt w' N q n a c ∧ NtAt w' N d nd ad cd ∧ BoxAt w' p (paV N x) 83) (z := 1000) (by kernel_rfl) ⟨h1, h2, HP⟩ (fun hS0 => ?_)
    clear hS0
    generalize w9.drew = w8 at *
    clear w9
    rename World => w9
    refine fr_chT F [0, 1, 2] [(7, .pointer (some ⟨N, q + 3, none⟩)), (6, .pointer (some ⟨N, q, none⟩)), (5, .pointer (some ⟨N, q, none⟩))] ⟨h1, h2, HP⟩ (by kernel_rfl) ?_
    clear F a9
    intro a9 F
    refine fr_takeG (i := 3) (o := ⟨some 8, _, _, _, _, _⟩) F ⟨h1, h2, HP⟩ rfl (wanted_free rfl) 8 rfl (by decide) (.string n.client) (fun w9 hS => (by intro a' F'; have h7 := F'.at' 7 _ rfl; have hc : w9.cell? ⟨N, q + 3, none⟩ = some (.string n.client) := (hS.1).cell 3 _ rfl; go_simp)) ?_
    clear F a9
    intro a9 F
    refine fr_chT F [4, 5, 6] [(11, .pointer (some ⟨p, 1, none⟩)), (10, .pointer (some ⟨p, 0, none⟩)), (9, .pointer (some ⟨p, 0, none⟩))] ⟨h1, h2, HP⟩ (by kernel_rfl) ?_
    clear F a9
    intro a9 F
    refine fr_takeG (i := 7) (o := ⟨some 12, _, _, _, _, _⟩) F ⟨h1, h2, HP⟩ rfl (wanted_free rfl) 12 rfl (by decide) (.pointer (some ⟨N, d, none⟩)) (fun w9 hS => (by intro a' F'; have h11 := F'.at' 11 _ rfl; have hc : w9.cell? ⟨p, 1, none⟩ = some (.pointer (some ⟨N, d, none⟩)) := (hS.2.2.cells 1).trans (congrArg (fun z => some (ptrN N z)) hd0); go_simp)) ?_
    clear F a9
    intro a9 F
    refine fr_chT F [8, 9] [(14, .pointer (some ⟨N, d + 3, none⟩)), (13, .pointer (some ⟨N, d, none⟩))] ⟨h1, h2, HP⟩ (by kernel_rfl) ?_
    clear F a9
    intro a9 F
    refine fr_takeG (i := 10) (o := ⟨some 15, _, _, _, _, _⟩) F ⟨h1, h2, HP⟩ rfl (wanted_free rfl) 15 rfl (by decide) (.string nd.client) (fun w9 hS => (by intro a' F'; have h14 := F'.at' 14 _ rfl; have hc : w9.cell? ⟨N, d + 3, none⟩ = some (.string nd.client) := (hS.2.1).cell 3 _ rfl; go_simp)) ?_
    clear F a9
    intro a9 F
    refine fr_takeG (i := 11) (o := ⟨some 16, _, _, _, _, _⟩) F ⟨h1, h2, HP⟩ rfl (wanted_free rfl) 16 rfl (by decide) (.bool true) (fun w9 hS => (fun a' F' => op_eqS (F'.ev 8 rfl) (F'.ev 15 rfl) rfl Tryd.underlying9 rfl (decide_eq_true ha))) ?_
    clear F a9
    intro a9 F
    refine fr_chT F [12, 13, 14, 15] [(20, .pointer (some ⟨p, 1, none⟩)), (19, .pointer (some ⟨p, 0, none⟩)), (18, .pointer (some ⟨p, 0, none⟩)), (17, .bool true)] ⟨h1, h2, HP⟩ (by kernel_rfl) ?_
    clear F a9
    intro a9 F
    refine fr_takeG (i := 16) (o := ⟨some 21, _, _, _, _, _⟩) F ⟨h1, h2, HP⟩ rfl (by rw [wanted_at F rfl (t := 17) (b := true) (by kernel_rfl) rfl]; rfl) 21 rfl (by decide) (.pointer (some ⟨N, d, none⟩)) (fun w9 hS => (by intro a' F'; have h20 := F'.at' 20 _ rfl; have hc : w9.cell? ⟨p, 1, none⟩ = some (.pointer (some ⟨N, d, none⟩)) := (hS.2.2.cells 1).trans (congrArg (fun z => some (ptrN N z)) hd0); go_simp)) ?_
    clear F a9
    intro a9 F
    refine fr_chT F [17, 18, 19] [(24, .pointer (some ⟨N, d + 4, none⟩)), (23, .pointer (some ⟨N, d + 4, none⟩)), (22, .pointer (some ⟨N, d, none⟩))] ⟨h1, h2, HP⟩ (by kernel_rfl) ?_
    clear F a9
    intro a9 F
    refine fr_takeG (i := 20) (o := ⟨some 25, _, _, _, _, _⟩) F ⟨h1, h2, HP⟩ rfl (by rw [wanted_at F rfl (t := 17) (b := true) (by kernel_rfl) rfl]; rfl) 25 rfl (by decide) (.int .u8 (nd.p.ty : Int)) (fun w9 hS => (by intro a' F'; have h24 := F'.at' 24 _ rfl; have hc : w9.cell? ⟨N, d + 4, none⟩ = some (.int .u8 (nd.p.ty : Int)) := (hS.2.1).cell 4 _ rfl; go_simp)) ?_
    clear F a9
    intro a9 F
    refine fr_takeG (i := 21) (o := ⟨some 26, _, _, _, _, _⟩) F ⟨h1, h2, HP⟩ rfl (by rw [wanted_at F rfl (t := 17) (b := true) (by kernel_rfl) rfl]; rfl) 26 rfl (by decide) (.bool false) (fun w9 hS => (by intro a' F'; have h25 := F'.at' 25 _ rfl; go_simp <;> omega)) ?_
    clear F a9
    intro a9 F
    refine fr_chT F [22, 23, 24, 25, 26, 27, 28, 29, 30, 31, 32, 33, 34, 35, 36, 37, 38, 39, 40, 41, 42] [(4, .bool false), (46, .bool false), (45, undef), (44, undef), (43, undef), (42, undef), (41, undef), (40, .bool false), (39, .bool false), (38, undef), (37, undef), (36, undef), (35, undef), (34, undef), (33, undef), (32, undef), (31, undef), (30, undef), (29, undef), (28, .bool false), (27, .bool false)] ⟨h1, h2, HP⟩ (by kernel_rfl) ?_
    clear F a9
    intro a9 F
    refine AnyT.done (by kernel_rfl) ?_ _
    refine NoPanic.normal ?_
    show Code.wp _ _ _ _ _
    refine wp_ret ?_
    exact fr_ret1 F rfl _ rfl (FIN.out _ _ (by unfold keptP; simp only [decide_eq_true ha, decide_eq_false hb, Bool.true_and, Bool.and_true, Bool.false_and, Bool.and_false]) HK.low)
  by_cases hd : n.qos = n.msg.qos
  rotate_left
  · skip
    refine wp_seq ?_
    refine wp_region_noPanic ?_
    have hb8 : Below w9.heap.size w9 w9.drew := below_draws (n := 1) rfl
    replace HK := HK.below hb8
    replace h1 := h1.below hb8
    replace h2 := h2.below hb8
    replace HP := HP.below hb8
    clear hb8
    refine AnyT.begin (S := fun w' => NtAt w' N q n a c ∧ NtAt w' N d nd ad cd ∧ BoxAt w' p (paV N x) 83) (z := 1000) (by kernel_rfl) ⟨h1, h2, HP⟩ (fun hS0 => ?_)
    clear hS0
    generalize w9.drew = w8 at *
    clear w9
    rename World => w9
    refine fr_chT F [0, 1, 2] [(7, .pointer (some ⟨N, q + 3, none⟩)), (6, .pointer (some ⟨N, q, none⟩)), (5, .pointer (some ⟨N, q, none⟩))] ⟨h1, h2, HP⟩ (by kernel_rfl) ?_
    clear F a9
    intro a9 F
    refine fr_takeG (i := 3) (o := ⟨some 8, _, _, _, _, _⟩) F ⟨h1, h2, HP⟩ rfl (wanted_free rfl) 8 rfl (by decide) (.string n.client) (fun w9 hS => (by intro a' F'; have h7 := F'.at' 7 _ rfl; have hc : w9.cell? ⟨N, q + 3, none⟩ = some (.string n.client) := (hS.1).cell 3 _ rfl; go_simp)) ?_
    clear F a9
    intro a9 F
    refine fr_chT F [4, 5, 6] [(11, .pointer (some ⟨p, 1, none⟩)), (10, .pointer (some ⟨p, 0, none⟩)), (9, .pointer (some ⟨p, 0, none⟩))] ⟨h1, h2, HP⟩ (by kernel_rfl) ?_
    clear F a9
    intro a9 F
    refine fr_takeG (i := 7) (o := ⟨some 12, _, _, _, _, _⟩) F ⟨h1, h2, HP⟩ rfl (wanted_free rfl) 12 rfl (by decide) (.pointer (some ⟨N, d, none⟩)) (fun w9 hS => (by intro a' F'; have h11 := F'.at' 11 _ rfl; have hc : w9.cell? ⟨p, 1, none⟩ = some (.pointer (some ⟨N, d, none⟩)) := (hS.2.2.cells 1).trans (congrArg (fun z => some (ptrN N z)) hd0); go_simp)) ?_
    clear F a9
    intro a9 F
    refine fr_chT F [8, 9] [(14, .pointer (some ⟨N, d + 3, none⟩)), (13, .pointer (some ⟨N, d, none⟩))] ⟨h1, h2, HP⟩ (by kernel_rfl) ?_
    clear F a9
    intro a9 F
    refine fr_takeG (i := 10) (o := ⟨some 15, _, _, _, _, _⟩) F ⟨h1, h2, HP⟩ rfl (wanted_free rfl) 15 rfl (by decide) (.string nd.client) (fun w9 hS => (by intro a' F'; have h14 := F'.at' 14 _ rfl; have hc : w9.cell? ⟨N, d + 3, none⟩ = some (.string nd.client) := (hS.2.1).cell 3 _ rfl; go_simp)) ?_
    clear F a9
    intro a9 F
    refine fr_takeG (i := 11) (o := ⟨some 16, _, _, _, _, _⟩) F ⟨h1, h2, HP⟩ rfl (wanted_free rfl) 16 rfl (by decide) (.bool true) (fun w9 hS => (fun a' F' => op_eqS (F'.ev 8 rfl) (F'.ev 15 rfl) rfl Tryd.underlying9 rfl (decide_eq_true ha))) ?_
    clear F a9
    intro a9 F
    refine fr_chT F [12, 13, 14, 15] [(20, .pointer (some ⟨p, 1, none⟩)), (19, .pointer (some ⟨p, 0, none⟩)), (18, .pointer (some ⟨p, 0, none⟩)), (17, .bool true)] ⟨h1, h2, HP⟩ (by kernel_rfl) ?_
    clear F a9
    intro a9 F
    refine fr_takeG (i := 16) (o := ⟨some 21, _, _, _, _, _⟩) F ⟨h1, h2, HP⟩ rfl (by rw [wanted_at F rfl (t := 17) (b := true) (by kernel_rfl) rfl]; rfl) 21 rfl (by decide) (.pointer (some ⟨N, d, none⟩)) (fun w9 hS => (by intro a' F'; have h20 := F'.at' 20 _ rfl; have hc : w9.cell? ⟨p, 1, none⟩ = some (.pointer (some ⟨N, d, none⟩)) := (hS.2.2.cells 1).trans (congrArg (fun z => some (ptrN N z)) hd0); go_simp)) ?_
    clear F a9
    intro a9 F
    refine fr_chT F [17, 18, 19] [(24, .pointer (some ⟨N, d + 4, none⟩)), (23, .pointer (some ⟨N, d + 4, none⟩)), (22, .pointer (some ⟨N, d, none⟩))] ⟨h1, h2, HP⟩ (by kernel_rfl) ?_
    clear F a9
    intro a9 F
    refine fr_takeG (i := 20) (o := ⟨some 25, _, _, _, _, _⟩) F ⟨h1, h2, HP⟩ rfl (by rw [wanted_at F rfl (t := 17) (b := true) (by kernel_rfl) rfl]; rfl) 25 rfl (by decide) (.int .u8 (nd.p.ty : Int)) (fun w9 hS => (by intro a' F'; have h24 := F'.at' 24 _ rfl; have hc : w9.cell? ⟨N, d + 4, none⟩ = some (.int .u8 (nd.p.ty : Int)) := (hS.2.1).cell 4 _ rfl; go_simp)) ?_
    clear F a9
    intro a9 F
    refine fr_takeG (i := 21) (o := ⟨some 26, _, _, _, _, _⟩) F ⟨h1, h2, HP⟩ rfl (by rw [wanted_at F rfl (t := 17) (b := true) (by kernel_rfl) rfl]; rfl) 26 rfl (by decide) (.bool true) (fun w9 hS => (by intro a' F'; have h25 := F'.at' 25 _ rfl; go_simp)) ?_
    clear F a9
    intro a9 F
    refine fr_chT F [22, 23, 24, 25, 26] [(31, .pointer (some ⟨N, q + 34, none⟩)), (30, .pointer (some ⟨N, q, none⟩)), (29, .pointer (some ⟨N, q, none⟩)), (28, .bool true), (27, .bool true)] ⟨h1, h2, HP⟩ (by kernel_rfl) ?_
    clear F a9
    intro a9 F
    refine fr_takeG (i := 27) (o := ⟨some 32, _, _, _, _, _⟩) F ⟨h1, h2, HP⟩ rfl (by rw [wanted_at F rfl (t := 28) (b := true) (by kernel_rfl) rfl]; rfl) 32 rfl (by decide) (.int .u8 (n.qos : Int)) (fun w9 hS => (by intro a' F'; have h31 := F'.at' 31 _ rfl; have hc : w9.cell? ⟨N, q + 34, none⟩ = some (.int .u8 (n.qos : Int)) := (hS.1).cell 34 _ rfl; go_simp)) ?_
    clear F a9
    intro a9 F
    refine fr_chT F [28, 29, 30, 31] [(36, .pointer (some ⟨N, q + 30, none⟩)), (35, .pointer (some ⟨N, q + 28, none⟩)), (34, .pointer (some ⟨N, q, none⟩)), (33, .pointer (some ⟨N, q, none⟩))] ⟨h1, h2, HP⟩ (by kernel_rfl) ?_
    clear F a9
    intro a9 F
    refine fr_takeG (i := 32) (o := ⟨some 37, _, _, _, _, _⟩) F ⟨h1, h2, HP⟩ rfl (by rw [wanted_at F rfl (t := 28) (b := true) (by kernel_rfl) rfl]; rfl) 37 rfl (by decide) (.int .u8 (n.msg.qos : Int)) (fun w9 hS => (by intro a' F'; have h36 := F'.at' 36 _ rfl; have hc : w9.cell? ⟨N, q + 30, none⟩ = some (.int .u8 (n.msg.qos : Int)) := (hS.1).cell 30 _ rfl; go_simp)) ?_
    clear F a9
    intro a9 F
    refine fr_takeG (i := 33) (o := ⟨some 38, _, _, _, _, _⟩) F ⟨h1, h2, HP⟩ rfl (by rw [wanted_at F rfl (t := 28) (b := true) (by kernel_rfl) rfl]; rfl) 38 rfl (by decide) (.bool false) (fun w9 hS => (by intro a' F'; have h32 := F'.at' 32 _ rfl; have h37 := F'.at' 37 _ rfl; go_simp <;> omega)) ?_
    clear F a9
    intro a9 F
    refine fr_chT F [34, 35, 36, 37, 38, 39, 40, 41, 42] [(4, .bool false), (46, .bool false), (45, undef), (44, undef), (43, undef), (42, undef), (41, undef), (40, .bool false), (39, .bool false)] ⟨h1, h2, HP⟩ (by kernel_rfl) ?_
    clear F a9
    intro a9 F
    refine AnyT.done (by kernel_rfl) ?_ _
    refine NoPanic.normal ?_
    show Code.wp _ _ _ _ _
    refine wp_ret ?_
    exact fr_ret1 F rfl _ rfl (FIN.out _ _ (by unfold keptP; simp only [decide_eq_true ha, decide_eq_true hb, decide_eq_false hd, Bool.true_and, Bool.and_true, Bool.false_and, Bool.and_false]) HK.low)
  by_cases he : n.msg.ret = true
  rotate_left
  · skip
    have he2 : n.msg.ret = false := by cases h : n.msg.ret; rfl; exact absurd h he
    refine wp_seq ?_
    refine wp_region_noPanic ?_
    have hb8 : Below w9.heap.size w9 w9.drew := below_draws (n := 1) rfl
    replace HK := HK.below hb8
    replace h1 := h1.below hb8
    replace h2 := h2.below hb8
    replace HP := HP.below hb8
    clear hb8
    refine AnyT.begin (S := fun w' => NtAt w' N q n a c ∧ NtAt w' N d nd ad cd ∧ BoxAt w' p (paV N x) 83) (z := 1000) (by kernel_rfl) ⟨h1, h2, HP⟩ (fun hS0 => ?_)
    clear hS0
    generalize w9.drew = w8 at *
    clear w9
    rename World => w9
    refine fr_chT F [0, 1, 2] [(7, .pointer (some ⟨N, q + 3, none⟩)), (6, .pointer (some ⟨N, q, none⟩)), (5, .pointer (some ⟨N, q, none⟩))] ⟨h1, h2, HP⟩ (by kernel_rfl) ?_
    clear F a9
    intro a9 F
    refine fr_takeG (i := 3) (o := ⟨some 8, _, _, _, _, _⟩) F ⟨h1, h2, HP⟩ rfl (wanted_free rfl) 8 rfl (by decide) (.string n.client) (fun w9 hS => (by intro a' F'; have h7 := F'.at' 7 _ rfl; have hc : w9.cell? ⟨N, q + 3, none⟩ = some (.string n.client) := (hS.1).cell 3 _ rfl; go_simp)) ?_
    clear F a9
    intro a9 F
    refine fr_chT F [4, 5, 6] [(11, .pointer (some ⟨p, 1, none⟩)), (10, .pointer (some ⟨p, 0, none⟩)), (9, .pointer (some ⟨p, 0, none⟩))] ⟨h1, h2, HP⟩ (by kernel_rfl) ?_
    clear F a9
    intro a9 F
    refine fr_takeG (i := 7) (o := ⟨some 12, _, _, _, _, _⟩) F ⟨h1, h2, HP⟩ rfl (wanted_free rfl) 12 rfl (by decide) (.pointer (some ⟨N, d, none⟩)) (fun w9 hS => (by intro a' F'; have h11 := F'.at' 11 _ rfl; have hc : w9.cell? ⟨p, 1, none⟩ = some (.pointer (some ⟨N, d, none⟩)) := (hS.2.2.cells 1).trans (congrArg (fun z => some (ptrN N z)) hd0); go_simp)) ?_
    clear F a9
    intro a9 F
    refine fr_chT F [8, 9] [(14, .pointer (some ⟨N, d + 3, none⟩)), (13, .pointer (some ⟨N, d, none⟩))] ⟨h1, h2, HP⟩ (by kernel_rfl) ?_
    clear F a9
    intro a9 F
    refine fr_takeG (i := 10) (o := ⟨some 15, _, _, _, _, _⟩) F ⟨h1, h2, HP⟩ rfl (wanted_free rfl) 15 rfl (by decide) (.string nd.client) (fun w9 hS => (by intro a' F'; have h14 := F'.at' 14 _ rfl; have hc : w9.cell? ⟨N, d + 3, none⟩ = some (.string nd.client) := (hS.2.1).cell 3 _ rfl; go_simp)) ?_
    clear F a9
    intro a9 F
    refine fr_takeG (i := 11) (o := ⟨some 16, _, _, _, _, _⟩) F ⟨h1, h2, HP⟩ rfl (wanted_free rfl) 16 rfl (by decide) (.bool true) (fun w9 hS => (fun a' F' => op_eqS (F'.ev 8 rfl) (F'.ev 15 rfl) rfl Tryd.underlying9 rfl (decide_eq_true ha))) ?_
    clear F a9
    intro a9 F
    refine fr_chT F [12, 13, 14, 15] [(20, .pointer (some ⟨p, 1, none⟩)), (19, .pointer (some ⟨p, 0, none⟩)), (18, .pointer (some ⟨p, 0, none⟩)), (17, .bool true)] ⟨h1, h2, HP⟩ (by kernel_rfl) ?_
    clear F a9
    intro a9 F
    refine fr_takeG (i := 16) (o := ⟨some 21, _, _, _, _, _⟩) F ⟨h1, h2, HP⟩ rfl (by rw [wanted_at F rfl (t := 17) (b := true) (by kernel_rfl) rfl]; rfl) 21 rfl (by decide) (.pointer (some ⟨N, d, none⟩)) (fun w9 hS => (by intro a' F'; have h20 := F'.at' 20 _ rfl; have hc : w9.cell? ⟨p, 1, none⟩ = some (.pointer (some ⟨N, d, none⟩)) := (hS.2.2.cells 1).trans (congrArg (fun z => some (ptrN N z)) hd0); go_simp)) ?_
    clear F a9
    intro a9 F
    refine fr_chT F [17, 18, 19] [(24, .pointer (some ⟨N, d + 4, none⟩)), (23, .pointer (some ⟨N, d + 4, none⟩)), (22, .pointer (some ⟨N, d, none⟩))] ⟨h1, h2, HP⟩ (by kernel_rfl) ?_
    clear F a9
    intro a9 F
    refine fr_takeG (i := 20) (o := ⟨some 25, _, _, _, _, _⟩) F ⟨h1, h2, HP⟩ rfl (by rw [wanted_at F rfl (t := 17) (b := true) (by kernel_rfl) rfl]; rfl) 25 rfl (by decide) (.int .u8 (nd.p.ty : Int)) (fun w9 hS => (by intro a' F'; have h24 := F'.at' 24 _ rfl; have hc : w9.cell? ⟨N, d + 4, none⟩ = some (.int .u8 (nd.p.ty : Int)) := (hS.2.1).cell 4 _ rfl; go_simp)) ?_
    clear F a9
    intro a9 F
    refine fr_takeG (i := 21) (o := ⟨some 26, _, _, _, _, _⟩) F ⟨h1, h2, HP⟩ rfl (by rw [wanted_at F rfl (t := 17) (b := true) (by kernel_rfl) rfl]; rfl) 26 rfl (by decide) (.bool true) (fun w9 hS => (by intro a' F'; have h25 := F'.at' 25 _ rfl; go_simp)) ?_
    clear F a9
    intro a9 F
    refine fr_chT F [22, 23, 24, 25, 26] [(31, .pointer (some ⟨N, q + 34, none⟩)), (30, .pointer (some ⟨N, q, none⟩)), (29, .pointer (some ⟨N, q, none⟩)), (28, .bool true), (27, .bool true)] ⟨h1, h2, HP⟩ (by kernel_rfl) ?_
    clear F a9
    intro a9 F
    refine fr_takeG (i := 27) (o := ⟨some 32, _, _, _, _, _⟩) F ⟨h1, h2, HP⟩ rfl (by rw [wanted_at F rfl (t := 28) (b := true) (by kernel_rfl) rfl]; rfl) 32 rfl (by decide) (.int .u8 (n.qos : Int)) (fun w9 hS => (by intro a' F'; have h31 := F'.at' 31 _ rfl; have hc : w9.cell? ⟨N, q + 34, none⟩ = some (.int .u8 (n.qos : Int)) := (hS.1).cell 34 _ rfl; go_simp)) ?_
    clear F a9
    intro a9 F
    refine fr_chT F [28, 29, 30, 31] [(36, .pointer (some ⟨N, q + 30, none⟩)), (35, .pointer (some ⟨N, q + 28, none⟩)), (34, .pointer (some ⟨N, q, none⟩)), (33, .pointer (some ⟨N, q, none⟩))] ⟨h1, h2, HP⟩ (by kernel_rfl) ?_
    clear F a9
    intro a9 F
    refine fr_takeG (i := 32) (o := ⟨some 37, _, _, _, _, _⟩) F ⟨h1, h2, HP⟩ rfl (by rw [wanted_at F rfl (t := 28) (b := true) (by kernel_rfl) rfl]; rfl) 37 rfl (by decide) (.int .u8 (n.msg.qos : Int)) (fun w9 hS => (by intro a' F'; have h36 := F'.at' 36 _ rfl; have hc : w9.cell? ⟨N, q + 30, none⟩ = some (.int .u8 (n.msg.qos : Int)) := (hS.1).cell 30 _ rfl; go_simp)) ?_
    clear F a9
    intro a9 F
    refine fr_takeG (i := 33) (o := ⟨some 38, _, _, _, _, _⟩) F ⟨h1, h2, HP⟩ rfl (by rw [wanted_at F rfl (t := 28) (b := true) (by kernel_rfl) rfl]; rfl) 38 rfl (by decide) (.bool true) (fun w9 hS => (by intro a' F'; have h32 := F'.at' 32 _ rfl; have h37 := F'.at' 37 _ rfl; go_simp)) ?_
    clear F a9
    intro a9 F
    refine fr_chT F [34, 35, 36, 37, 38, 39] [(44, .pointer (some ⟨N, q + 31, none⟩)), (43, .pointer (some ⟨N, q + 28, none⟩)), (42, .pointer (some ⟨N, q, none⟩)), (41, .pointer (some ⟨N, q, none⟩)), (40, .bool true), (39, .bool true)] ⟨h1, h2, HP⟩ (by kernel_rfl) ?_
    clear F a9
    intro a9 F
    refine fr_takeG (i := 40) (o := ⟨some 45, _, _, _, _, _⟩) F ⟨h1, h2, HP⟩ rfl (by rw [wanted_at F rfl (t := 40) (b := true) (by kernel_rfl) rfl]; rfl) 45 rfl (by decide) (.bool false) (fun w9 hS => (by intro a' F'; have h44 := F'.at' 44 _ rfl; have hc : w9.cell? ⟨N, q + 31, none⟩ = some (.bool false) := ((hS.1).cell 31 _ rfl).trans (congrArg (fun b => some (Value.bool b)) he2); go_simp)) ?_
    clear F a9
    intro a9 F
    refine fr_chT F [41, 42] [(4, .bool false), (46, .bool false)] ⟨h1, h2, HP⟩ (by kernel_rfl) ?_
    clear F a9
    intro a9 F
    refine AnyT.done (by kernel_rfl) ?_ _
    refine NoPanic.normal ?_
    show Code.wp _ _ _ _ _
    refine wp_ret ?_
    exact fr_ret1 F rfl _ rfl (FIN.out _ _ (by unfold keptP; simp only [decide_eq_true ha, decide_eq_true hb, decide_eq_true hd, decide_eq_false he, Bool.true_and, Bool.and_true, Bool.false_and, Bool.and_false]) HK.low)
  have he2 := he
  refine wp_seq ?_
  refine wp_region_noPanic ?_
  have hb8 : Below w9.heap.size w9 w9.drew := below_draws (n := 1) rfl
  replace HK := HK.below hb8
  replace h1 := h1.below hb8
  replace h2 := h2.below hb8
  replace HP := HP.below hb8
  clear hb8
  refine AnyT.begin (S := fun w' => NtAt w' N q n a c ∧ NtAt w' N d nd ad cd ∧ BoxAt w' p (paV N x) 83) (z := 1000) (by kernel_rfl) ⟨h1, h2, HP⟩ (fun hS0 => ?_)
  clear hS0
  generalize w9.drew = w8 at *
  clear w9
  rename World => w9
  refine fr_chT F [0, 1, 2] [(7, .pointer (some ⟨N, q + 3, none⟩)), (6, .pointer (some ⟨N, q, none⟩)), (5, .pointer (some ⟨N, q, none⟩))] ⟨h1, h2, HP⟩ (by kernel_rfl) ?_
  clear F a9
  intro a9 F
  refine fr_takeG (i := 3) (o := ⟨some 8, _, _, _, _, _⟩) F ⟨h1, h2, HP⟩ rfl (wanted_free rfl) 8 rfl (by decide) (.string n.client) (fun w9 hS => (by intro a' F'; have h7 := F'.at' 7 _ rfl; have hc : w9.cell? ⟨N, q + 3, none⟩ = some (.string n.client) := (hS.1).cell 3 _ rfl; go_simp)) ?_
  clear F a9
  intro a9 F
  refine fr_chT F [4, 5, 6] [(11, .pointer (some ⟨p, 1, none⟩)), (10, .pointer (some ⟨p, 0, none⟩)), (9, .pointer (some ⟨p, 0, none⟩))] ⟨h1, h2, HP⟩ (by kernel_rfl) ?_
  clear F a9
  intro a9 F
  refine fr_takeG (i := 7) (o := ⟨some 12, _, _, _, _, _⟩) F ⟨h1, h2, HP⟩ rfl (wanted_free rfl) 12 rfl (by decide) (.pointer (some ⟨N, d, none⟩)) (fun w9 hS => (by intro a' F'; have h11 := F'.at' 11 _ rfl; have hc : w9.cell? ⟨p, 1, none⟩ = some (.pointer (some ⟨N, d, none⟩)) := (hS.2.2.cells 1).trans (congrArg (fun z => some (ptrN N z)) hd0); go_simp)) ?_
  clear F a9
  intro a9 F
  refine fr_chT F [8, 9] [(14, .pointer (some ⟨N, d + 3, none⟩)), (13, .pointer (some ⟨N, d, none⟩))] ⟨h1, h2, HP⟩ (by kernel_rfl) ?_
  clear F a9
  intro a9 F
  refine fr_takeG (i := 10) (o := ⟨some 15, _, _, _, _, _⟩) F ⟨h1, h2, HP⟩ rfl (wanted_free rfl) 15 rfl (by decide) (.string nd.client) (fun w9 hS => (by intro a' F'; have h14 := F'.at' 14 _ rfl; have hc : w9.cell? ⟨N, d + 3, none⟩ = some (.string nd.client) := (hS.2.1).cell 3 _ rfl; go_simp)) ?_
  clear F a9
  intro a9 F
  refine fr_takeG (i := 11) (o := ⟨some 16, _, _, _, _, _⟩) F ⟨h1, h2, HP⟩ rfl (wanted_free rfl) 16 rfl (by decide) (.bool true) (fun w9 hS => (fun a' F' => op_eqS (F'.ev 8 rfl) (F'.ev 15 rfl) rfl Tryd.underlying9 rfl (decide_eq_true ha))) ?_
  clear F a9
  intro a9 F
  refine fr_chT F [12, 13, 14, 15] [(20, .pointer (some ⟨p, 1, none⟩)), (19, .pointer (some ⟨p, 0, none⟩)), (18, .pointer (some ⟨p, 0, none⟩)), (17, .bool true)] ⟨h1, h2, HP⟩ (by kernel_rfl) ?_
  clear F a9
  intro a9 F
  refine fr_takeG (i := 16) (o := ⟨some 21, _, _, _, _, _⟩) F ⟨h1, h2, HP⟩ rfl (by rw [wanted_at F rfl (t := 17) (b := true) (by kernel_rfl) rfl]; rfl) 21 rfl (by decide) (.pointer (some ⟨N, d, none⟩)) (fun w9 hS => (by intro a' F'; have h20 := F'.at' 20 _ rfl; have hc : w9.cell? ⟨p, 1, none⟩ = some (.pointer (some ⟨N, d, none⟩)) := (hS.2.2.cells 1).trans (congrArg (fun z => some (ptrN N z)) hd0); go_simp)) ?_
  clear F a9
  intro a9 F
  refine fr_chT F [17, 18, 19] [(24, .pointer (some ⟨N, d + 4, none⟩)), (23, .pointer (some ⟨N, d + 4, none⟩)), (22, .pointer (some ⟨N, d, none⟩))] ⟨h1, h2, HP⟩ (by kernel_rfl) ?_
  clear F a9
  intro a9 F
  refine fr_takeG (i := 20) (o := ⟨some 25, _, _, _, _, _⟩) F ⟨h1, h2, HP⟩ rfl (by rw [wanted_at F rfl (t := 17) (b := true) (by kernel_rfl) rfl]; rfl) 25 rfl (by decide) (.int .u8 (nd.p.ty : Int)) (fun w9 hS => (by intro a' F'; have h24 := F'.at' 24 _ rfl; have hc : w9.cell? ⟨N, d + 4, none⟩ = some (.int .u8 (nd.p.ty : Int)) := (hS.2.1).cell 4 _ rfl; go_simp)) ?_
  clear F a9
  intro a9 F
  refine fr_takeG (i := 21) (o := ⟨some 26, _, _, _, _, _⟩) F ⟨h1, h2, HP⟩ rfl (by rw [wanted_at F rfl (t := 17) (b := true) (by kernel_rfl) rfl]; rfl) 26 rfl (by decide) (.bool true) (fun w9 hS => (by intro a' F'; have h25 := F'.at' 25 _ rfl; go_simp)) ?_
  clear F a9
  intro a9 F
  refine fr_chT F [22, 23, 24, 25, 26] [(31, .pointer (some ⟨N, q + 34, none⟩)), (30, .pointer (some ⟨N, q, none⟩)), (29, .pointer (some ⟨N, q, none⟩)), (28, .bool true), (27, .bool true)] ⟨h1, h2, HP⟩ (by kernel_rfl) ?_
  clear F a9
  intro a9 F
  refine fr_takeG (i := 27) (o := ⟨some 32, _, _, _, _, _⟩) F ⟨h1, h2, HP⟩ rfl (by rw [wanted_at F rfl (t := 28) (b := true) (by kernel_rfl) rfl]; rfl) 32 rfl (by decide) (.int .u8 (n.qos : Int)) (fun w9 hS => (by intro a' F'; have h31 := F'.at' 31 _ rfl; have hc : w9.cell? ⟨N, q + 34, none⟩ = some (.int .u8 (n.qos : Int)) := (hS.1).cell 34 _ rfl; go_simp)) ?_
  clear F a9
  intro a9 F
  refine fr_chT F [28, 29, 30, 31] [(36, .pointer (some ⟨N, q + 30, none⟩)), (35, .pointer (some ⟨N, q + 28, none⟩)), (34, .pointer (some ⟨N, q, none⟩)), (33, .pointer (some ⟨N, q, none⟩))] ⟨h1, h2, HP⟩ (by kernel_rfl) ?_
  clear F a9
  intro a9 F
  refine fr_takeG (i := 32) (o := ⟨some 37, _, _, _, _, _⟩) F ⟨h1, h2, HP⟩ rfl (by rw [wanted_at F rfl (t := 28) (b := true) (by kernel_rfl) rfl]; rfl) 37 rfl (by decide) (.int .u8 (n.msg.qos : Int)) (fun w9 hS => (by intro a' F'; have h36 := F'.at' 36 _ rfl; have hc : w9.cell? ⟨N, q + 30, none⟩ = some (.int .u8 (n.msg.qos : Int)) := (hS.1).cell 30 _ rfl; go_simp)) ?_
  clear F a9
  intro a9 F
  refine fr_takeG (i := 33) (o := ⟨some 38, _, _, _, _, _⟩) F ⟨h1, h2, HP⟩ rfl (by rw [wanted_at F rfl (t := 28) (b := true) (by kernel_rfl) rfl]; rfl) 38 rfl (by decide) (.bool true) (fun w9 hS => (by intro a' F'; have h32 := F'.at' 32 _ rfl; have h37 := F'.at' 37 _ rfl; go_simp)) ?_
  clear F a9
  intro a9 F
  refine fr_chT F [34, 35, 36, 37, 38, 39] [(44, .pointer (some ⟨N, q + 31, none⟩)), (43, .pointer (some ⟨N, q + 28, none⟩)), (42, .pointer (some ⟨N, q, none⟩)), (41, .pointer (some ⟨N, q, none⟩)), (40, .bool true), (39, .bool true)] ⟨h1, h2, HP⟩ (by kernel_rfl) ?_
  clear F a9
  intro a9 F
  refine fr_takeG (i := 40) (o := ⟨some 45, _, _, _, _, _⟩) F ⟨h1, h2, HP⟩ rfl (by rw [wanted_at F rfl (t := 40) (b := true) (by kernel_rfl) rfl]; rfl) 45 rfl (by decide) (.bool true) (fun w9 hS => (by intro a' F'; have h44 := F'.at' 44 _ rfl; have hc : w9.cell? ⟨N, q + 31, none⟩ = some (.bool true) := ((hS.1).cell 31 _ rfl).trans (congrArg (fun b => some (Value.bool b)) he2); go_simp)) ?_
  clear F a9
  intro a9 F
  refine fr_chT F [41, 42] [(4, .bool true), (46, .bool true)] ⟨h1, h2, HP⟩ (by kernel_rfl) ?_
  clear F a9
  intro a9 F
  refine AnyT.done (by kernel_rfl) ?_ _
  refine NoPanic.normal ?_
  show Code.wp _ _ _ _ _
  refine wp_ret ?_
  exact fr_ret1 F rfl _ rfl (FIN.out _ _ (by unfold keptP; simp only [decide_eq_true ha, decide_eq_true hb, decide_eq_true hd, decide_eq_true he, Bool.true_and, Bool.and_true, Bool.false_and, Bool.and_false]) HK.low)
end Go.Proofs.YtmppkgonkkffhaaDoor

/- The walks of order.applied, asks. Conditions: notes lie where the pointers are, below the caller's memory; bounds on their texts; the model and the log's past lie behind their pointers. -/
namespace Go.Proofs.YtmppkgonkkffhaaDoor
open Go.RowKit
theorem z_pn : (Tryd.prog.info? 52).map (·.size) = some 1 := by kernel_rfl
theorem infoPa : (Tryd.prog.info? 83).map (·.size) = some 5 := by kernel_rfl
def Pa.zero : Pa := ⟨none, none, none, none, none⟩
def freshP (x : Pa) : Bool := x.asks.isNone && x.does.isNone && x.routes.isNone && x.keeps.isNone && x.tells.isNone
theorem op_eqPa {w : World} {o : Oper} {ρ : Operand → Value} {x y : Operand} {N : Nat} {z : Pa} (hx : ρ x = .agg (paV N z)) (hy : ρ y = .agg (paV N Pa.zero)) (ho : o.op = .binOp .eql 83 x y 83) : (execOp ρ o).run Tryd.prog w = .ok (.value (.bool (freshP z))) w := by
  obtain ⟨z1, z2, z3, z4, z5⟩ := z
  have h3 : (binOp .eql 83 (.agg (paV N ⟨z1, z2, z3, z4, z5⟩)) (.agg (paV N Pa.zero))).run Tryd.prog w = .ok (.bool (freshP ⟨z1, z2, z3, z4, z5⟩)) w := by
    cases z1 <;> cases z2 <;> cases z3 <;> cases z4 <;> cases z5 <;> kernel_rfl
  have h2 : (eqGuard .eql 83 x y (.agg (paV N ⟨z1, z2, z3, z4, z5⟩)) (.agg (paV N Pa.zero))).run Tryd.prog w = .ok () w := by first | kernel_rfl | (go_simp; done)
  unfold execOp
  simp only [ho, hx, hy, Sem.run_bind, h2, h3, Result.andThen_ok, Sem.run_pure]
theorem NtAt.pk {w : World} {N o : Nat} {n : Nt} {a : Option Addr} {c : Nat} (h : NtAt w N o n a c) : w.rangeAt N (o + 4) (pkV n.p a c).toList := fun j v hv => by
  have hj : j < 24 := by
    rcases Nat.lt_or_ge j 24 with h | h
    · exact h
    · have h2 : (pkV n.p a c).toList.length ≤ j := h
      rw [List.getElem?_eq_none h2] at hv; cases hv
  have h2 := h (4 + j) v (by
    have e : ((ntV n a c).toList.drop 4).take 24 = (pkV n.p a c).toList := rfl
    have e2 := congrArg (fun l => l[j]?) e
    simp only [List.getElem?_take, if_pos hj, List.getElem?_drop] at e2
    rw [e2]; exact hv)
  rw [Nat.add_assoc]
  exact h2
/-- What a note keeps to, for the comparisons too. -/
structure NtGood (w0 : World) (n : Nt) (a : Option Addr) : Prop where
  ok : NtOk w0 n a
  pk : PkOk n.p
  ms : MsOk n.msg
def appliedN (A : ByteArray × Bool × Bool) (n : Nt) : Nat := if A.2.2 = false then 4 else if n.kind = 2 then (if A.1 = n.codes then (if A.2.1 = n.present then 0 else 4) else 4) else 0
theorem op_neS {P : Program} {w : World} {o : Oper} {ρ : Operand → Value} {x y : Operand} {T : TypeId} {a b : ByteArray} {v : Bool} (hx : ρ x = .string a) (hy : ρ y = .string b) (ho : o.op = .binOp .neq T x y T) (hT : P.underlying T = some .string) (hv : decide (a = b) = !v) : (execOp ρ o).run P w = .ok (.value (.bool v)) w := by
  have he : (a.toList == b.toList) = decide (a = b) := by
    rw [Bool.eq_iff_iff, beq_iff_eq, decide_eq_true_iff]
    constructor
    · intro h
      rw [Lib.toList_data, Lib.toList_data] at h
      cases a with
      | mk a => cases b with
        | mk b => exact congrArg ByteArray.mk (Array.toList_inj.1 h)
    · intro h
      rw [h]
  unfold execOp
  simp only [ho, hx, hy]
  go_simp
theorem NtAt.low {w0 w : World} {N o : Nat} {n : Nt} {a : Option Addr} {c : Nat} (h : NtAt w0 N o n a c) (k : Below w0.heap.size w0 w) : NtAt w N o n a c := h.below k
set_option maxRecDepth 100000 in
set_option maxHeartbeats 4000000 in
theorem order_applied {w0 w : World} {k OM m M K KM N : Nat} {L : List St} (HK : Keep w0 [] [] w) (HMO : MoAt w w0.heap.size m M K KM L) (HB : BoxAt w k #[.pointer (some ⟨m, 0, none⟩), .map (some OM)] 49) {q : Nat} {n : Nt} {a : Option Addr} {c : Nat} (hn : NtAt w0 N q n a c) (hg : NtGood w0 n a) : Calls Tryd.prog 50 #[.pointer (some ⟨k, 0, none⟩), .pointer (some ⟨N, q, none⟩)] w fun e w' => ∃ L', e = .returned (.int .u8 (appliedN (applyS (absL L) n).1 n : Int)) ∧ absL L' = (applyS (absL L) n).2 ∧ MOut w0 w m M K KM L L' w' := by
  obtain ⟨RR, hRR⟩ : ∃ RR : Ending → World → Prop, RR = fun e w' => ∃ L', e = .returned (.int .u8 (appliedN (applyS (absL L) n).1 n : Int)) ∧ absL L' = (applyS (absL L) n).2 ∧ MOut w0 w m M K KM L L' w' := ⟨_, rfl⟩
  have FIN := Lib.hid (show ∀ r L' w', r = appliedN (applyS (absL L) n).1 n → absL L' = (applyS (absL L) n).2 → MOut w0 w m M K KM L L' w' → RR (.returned (.int .u8 (r : Int))) w' from fun r L' w' h1 h2 h3 => by rw [hRR, h1]; exact ⟨L', rfl, h2, h3⟩)
  rw [← hRR]
  have HN0 := Lib.hid hn
  have HG := Lib.hid hg
  obtain ⟨w9, hw9⟩ : ∃ w9, w9 = w := ⟨_, rfl⟩
  have hb9 : Below w.heap.size w w9 := by rw [hw9]; exact Below.refl _ _
  rw [← hw9] at HK HMO HB
  suffices hgo : Calls Tryd.prog 50 #[.pointer (some ⟨k, 0, none⟩), .pointer (some ⟨N, q, none⟩)] w9 RR by rw [hw9] at hgo; exact hgo
  obtain ⟨cc, hcc⟩ : ∃ cc, (applyS (absL L) n).1.1 = cc := ⟨_, rfl⟩
  obtain ⟨pp, hpp⟩ : ∃ pp, (applyS (absL L) n).1.2.1 = pp := ⟨_, rfl⟩
  obtain ⟨ok, hok⟩ : ∃ ok, (applyS (absL L) n).1.2.2 = ok := ⟨_, rfl⟩
  clear hw9 hRR hn hg
  go_enter Tryd.func50, Tryd.ntmps50
  refine wp_forget (n := 45) (L := [(1, .pointer (some ⟨N, q, none⟩)), (0, .pointer (some ⟨k, 0, none⟩))]) (FrL.add (FrL.add (FrL.nil ?_ ?_) _ _ ?_) _ _ ?_) ?_
  iterate 4 rfl
  intro a9 F
  refine wp_seq ?_
  refine wp_region_lit ?_
  refine fr_ch F 1 [(4, .int .u8 0)] (by kernel_rfl) ?_
  clear F a9
  intro a9 F
  refine wpList_nil ?_
  show Code.wp _ _ _ _ _
  refine wp_seq ?_
  refine wp_region_noPanic ?_
  have hb8 : Below w9.heap.size w9 w9.drew := below_draws (n := 1) rfl
  replace HK := HK.below hb8
  replace HMO := HMO.below hb8
  replace HB := HB.below hb8
  replace hb9 := hb9.trans (Below.mono hb8 hb9.size)
  clear hb8
  refine AnyT.begin (S := fun w' => BoxAt w' k #[.pointer (some ⟨m, 0, none⟩), .map (some OM)] 49 ∧ NtAt w' N q n a c) (z := 1000) (by kernel_rfl) ⟨HB, HN0.out.low HK.low⟩ (fun hS0 => ?_)
  clear hS0
  generalize w9.drew = w8 at *
  clear w9
  rename World => w9
  refine fr_chT F [0, 1, 2] [(11, .pointer (some ⟨k, 0, none⟩)), (10, .pointer (some ⟨k, 0, none⟩)), (9, .pointer (some ⟨k, 0, none⟩))] ⟨HB, HN0.out.low HK.low⟩ (by kernel_rfl) ?_
  clear F a9
  intro a9 F
  refine fr_takeG (i := 3) (o := ⟨some 12, _, _, _, _, _⟩) F ⟨HB, HN0.out.low HK.low⟩ rfl (wanted_free rfl) 12 rfl (by decide) (.pointer (some ⟨m, 0, none⟩)) (fun w9 hS => (by intro a' F'; have h11 := F'.at' 11 _ rfl; have hc : w9.cell? ⟨k, 0, none⟩ = some (.pointer (some ⟨m, 0, none⟩)) := hS.1.cells 0; go_simp)) ?_
  clear F a9
  intro a9 F
  refine fr_chT F [4, 5] [(14, .pointer (some ⟨N, q, none⟩)), (13, .pointer (some ⟨N, q, none⟩))] ⟨HB, HN0.out.low HK.low⟩ (by kernel_rfl) ?_
  clear F a9
  intro a9 F
  refine fr_takeG (i := 6) (o := ⟨some 15, _, _, _, _, _⟩) F ⟨HB, HN0.out.low HK.low⟩ rfl (wanted_free rfl) 15 rfl (by decide) (.agg (ntV n a c)) (fun w9 hS => (fun a' F' => run_load_midF 35 _ rfl N q (F'.ev 14 rfl) (ntV n a c).toList _ hS.2 Tryd.underlying35 rfl infoNt)) ?_
  clear F a9
  intro a9 F
  have HC := model_Apply n a c HK HMO HG.out.ok
  rw [hcc, hpp, hok] at HC
  refine fr_stepC (i := 7) (o := ⟨some 16, _, _, _, _, _⟩) F rfl (wanted_free rfl) 16 rfl (by decide) 21 #[.pointer (some ⟨m, 0, none⟩), .agg (ntV n a c)] (by intro a' F'; have h12 := F'.at' 12 _ rfl; have h15 := F'.at' 15 _ rfl; go_simp) HC ?_
  rintro e9 w8 ⟨L', rfl, habs, hout⟩
  have HK2 := hout.keep
  have HB2 := HB.only hout.only (HMO.boxFar (by decide) HB)
  have hon2 : Only (FootM m M K KM L) w w8 := (Only.of_below hb9 _).trans hout.only (fun j _ h => h)
  have hmo2 := hout.mo
  have hft2 : ∀ j, FootM m M K KM L' j → FootM m M K KM L j ∨ w.heap.size ≤ j := fun j hj => (hout.foot j hj).elim Or.inl (fun h => Or.inr (Nat.le_trans hb9.size h))
  clear HK HMO HB HC hb9 hout
  have HK := HK2
  have HB := HB2
  clear HK2 HB2
  clear w9
  rename World => w9
  refine ⟨_, rfl, ⟨HB, HN0.out.low HK.low⟩, ?_⟩
  clear F a9
  intro a9 F
  refine fr_chT F [8, 9, 10, 11, 12, 13, 14] [(7, .bool ok), (6, .bool pp), (5, .string cc), (19, .bool ok), (18, .bool pp), (17, .string cc), (8, .tuple #[.string cc, .bool pp, .bool ok])] ⟨HB, HN0.out.low HK.low⟩ (by kernel_rfl) ?_
  clear F a9
  intro a9 F
  refine AnyT.done (by kernel_rfl) ?_ _
  refine NoPanic.normal ?_
  show Code.wp _ _ _ _ _
  replace F := F.cut [(7, .bool ok), (6, .bool pp), (5, .string cc), (4, .int .u8 0), (1, .pointer (some ⟨N, q, none⟩)), (0, .pointer (some ⟨k, 0, none⟩))] (by kernel_rfl)
  cases ok
  · skip
    refine wp_seq ?_
    refine wp_seq ?_
    refine wp_region_lit ?_
    refine fr_mv F (wanted_free rfl) 20 rfl (by decide) 7 rfl rfl ?_
    clear F a9
    intro a9 F
    refine fr_ch F 8 [(28, undef), (27, undef), (26, undef), (25, undef), (24, undef), (23, undef), (22, .bool true), (21, .bool true)] (by kernel_rfl) ?_
    clear F a9
    intro a9 F
    refine fr_left F (wanted_undef F rfl (t := 28) (by kernel_rfl) rfl) 29 rfl (by decide) ?_
    clear F a9
    intro a9 F
    refine fr_left F (wanted_undef F rfl (t := 28) (by kernel_rfl) rfl) 30 rfl (by decide) ?_
    clear F a9
    intro a9 F
    refine fr_left F (wanted_undef F rfl (t := 28) (by kernel_rfl) rfl) 31 rfl (by decide) ?_
    clear F a9
    intro a9 F
    refine fr_left F (wanted_undef F rfl (t := 28) (by kernel_rfl) rfl) 32 rfl (by decide) ?_
    clear F a9
    intro a9 F
    refine fr_left F (wanted_undef F rfl (t := 28) (by kernel_rfl) rfl) 33 rfl (by decide) ?_
    clear F a9
    intro a9 F
    refine fr_left F (wanted_undef F rfl (t := 28) (by kernel_rfl) rfl) 34 rfl (by decide) ?_
    clear F a9
    intro a9 F
    refine fr_left F (wanted_undef F rfl (t := 28) (by kernel_rfl) rfl) 35 rfl (by decide) ?_
    clear F a9
    intro a9 F
    refine fr_left F (wanted_undef F rfl (t := 35) (by kernel_rfl) rfl) 36 rfl (by decide) ?_
    clear F a9
    intro a9 F
    refine fr_left F (wanted_undef F rfl (t := 35) (by kernel_rfl) rfl) 37 rfl (by decide) ?_
    clear F a9
    intro a9 F
    refine fr_left F (wanted_undef F rfl (t := 35) (by kernel_rfl) rfl) 38 rfl (by decide) ?_
    clear F a9
    intro a9 F
    refine fr_left F (wanted_undef F rfl (t := 35) (by kernel_rfl) rfl) 39 rfl (by decide) ?_
    clear F a9
    intro a9 F
    refine fr_left F (wanted_undef F rfl (t := 35) (by kernel_rfl) rfl) 40 rfl (by decide) ?_
    clear F a9
    intro a9 F
    refine fr_left F (wanted_undef F rfl (t := 35) (by kernel_rfl) rfl) 41 rfl (by decide) ?_
    clear F a9
    intro a9 F
    refine fr_left F (wanted_undef F rfl (t := 28) (by kernel_rfl) rfl) 42 rfl (by decide) ?_
    clear F a9
    intro a9 F
    refine fr_ch F 2 [(44, .bool true), (43, undef)] (by kernel_rfl) ?_
    clear F a9
    intro a9 F
    refine wpList_nil ?_
    show Code.wp _ _ _ _ _
    refine wp_cond_true (F.ev 44 rfl) ?_
    refine wp_seq ?_
    refine wp_region_lit ?_
    refine fr_ch F 1 [(4, .int .u8 4)] (by kernel_rfl) ?_
    clear F a9
    intro a9 F
    refine wpList_nil ?_
    show Code.wp _ _ _ _ _
    refine wp_ret ?_
    exact fr_ret1 F rfl _ rfl (FIN.out 4 L' _ (by unfold appliedN; rw [hok]; rfl) habs ⟨hmo2, HK.sub (List.nil_sublist _) (fun r hr => hr), hon2, hft2⟩)
  by_cases hkd : n.kind = 2
  rotate_left
  · skip
    refine wp_seq ?_
    refine wp_seq ?_
    refine wp_region_lit ?_
    refine fr_mv F (wanted_free rfl) 20 rfl (by decide) 7 rfl rfl ?_
    clear F a9
    intro a9 F
    refine fr_ch F 5 [(25, .pointer (some ⟨N, q, none⟩)), (24, .pointer (some ⟨N, q, none⟩)), (23, .pointer (some ⟨N, q, none⟩)), (22, .bool false), (21, .bool false)] (by kernel_rfl) ?_
    clear F a9
    intro a9 F
    refine fr_do F (by rw [wanted_at F rfl (t := 22) (b := false) (by kernel_rfl) rfl]; rfl) 26 rfl (by decide) (.int .u8 (n.kind : Int)) (by intro a' F'; have h25 := F'.at' 25 _ rfl; have hc : w9.cell? ⟨N, q, none⟩ = some (.int .u8 (n.kind : Int)) := ((HN0.out.low HK.low)).cell 0 _ rfl; go_simp) ?_
    clear F a9
    intro a9 F
    refine fr_do F (by rw [wanted_at F rfl (t := 22) (b := false) (by kernel_rfl) rfl]; rfl) 27 rfl (by decide) (.bool false) (by intro a' F'; have h26 := F'.at' 26 _ rfl; go_simp <;> omega) ?_
    clear F a9
    intro a9 F
    refine fr_mv F (by rw [wanted_at F rfl (t := 22) (b := false) (by kernel_rfl) rfl]; rfl) 28 rfl (by decide) 27 rfl rfl ?_
    clear F a9
    intro a9 F
    refine fr_ch F 7 [(35, undef), (34, undef), (33, undef), (32, undef), (31, undef), (30, undef), (29, undef)] (by kernel_rfl) ?_
    clear F a9
    intro a9 F
    refine fr_left F (wanted_undef F rfl (t := 35) (by kernel_rfl) rfl) 36 rfl (by decide) ?_
    clear F a9
    intro a9 F
    refine fr_left F (wanted_undef F rfl (t := 35) (by kernel_rfl) rfl) 37 rfl (by decide) ?_
    clear F a9
    intro a9 F
    refine fr_left F (wanted_undef F rfl (t := 35) (by kernel_rfl) rfl) 38 rfl (by decide) ?_
    clear F a9
    intro a9 F
    refine fr_left F (wanted_undef F rfl (t := 35) (by kernel_rfl) rfl) 39 rfl (by decide) ?_
    clear F a9
    intro a9 F
    refine fr_left F (wanted_undef F rfl (t := 35) (by kernel_rfl) rfl) 40 rfl (by decide) ?_
    clear F a9
    intro a9 F
    refine fr_left F (wanted_undef F rfl (t := 35) (by kernel_rfl) rfl) 41 rfl (by decide) ?_
    clear F a9
    intro a9 F
    refine fr_ch F 3 [(44, .bool false), (43, .bool false), (42, undef)] (by kernel_rfl) ?_
    clear F a9
    intro a9 F
    refine wpList_nil ?_
    show Code.wp _ _ _ _ _
    refine wp_cond_false (F.ev 44 rfl) ?_
    refine wp_skip ?_
    show Code.wp _ _ _ _ _
    refine wp_seq ?_
    refine wp_region_lit ?_
    refine fr_ch F 1 [(4, .int .u8 0)] (by kernel_rfl) ?_
    clear F a9
    intro a9 F
    refine wpList_nil ?_
    show Code.wp _ _ _ _ _
    refine wp_ret ?_
    exact fr_ret1 F rfl _ rfl (FIN.out 0 L' _ (by unfold appliedN; rw [hok, if_neg (by decide), if_neg hkd]) habs ⟨hmo2, HK.sub (List.nil_sublist _) (fun r hr => hr), hon2, hft2⟩)
  by_cases hcd : cc = n.codes
  rotate_left
  · skip
    refine wp_seq ?_
    refine wp_seq ?_
    refine wp_region_lit ?_
    refine fr_mv F (wanted_free rfl) 20 rfl (by decide) 7 rfl rfl ?_
    clear F a9
    intro a9 F
    refine fr_ch F 2 [(22, .bool false), (21, .bool false)] (by kernel_rfl) ?_
    clear F a9
    intro a9 F
    refine fr_mv F (by rw [wanted_at F rfl (t := 22) (b := false) (by kernel_rfl) rfl]; rfl) 23 rfl (by decide) 1 rfl rfl ?_
    clear F a9
    intro a9 F
    refine fr_nc F (by rw [wanted_at F rfl (t := 22) (b := false) (by kernel_rfl) rfl]; rfl) 24 rfl (by decide) 23 rfl rfl ?_
    clear F a9
    intro a9 F
    refine fr_ch F 1 [(25, .pointer (some ⟨N, q, none⟩))] (by kernel_rfl) ?_
    clear F a9
    intro a9 F
    refine fr_do F (by rw [wanted_at F rfl (t := 22) (b := false) (by kernel_rfl) rfl]; rfl) 26 rfl (by decide) (.int .u8 (n.kind : Int)) (by intro a' F'; have h25 := F'.at' 25 _ rfl; have hc : w9.cell? ⟨N, q, none⟩ = some (.int .u8 (n.kind : Int)) := ((HN0.out.low HK.low)).cell 0 _ rfl; go_simp) ?_
    clear F a9
    intro a9 F
    refine fr_do F (by rw [wanted_at F rfl (t := 22) (b := false) (by kernel_rfl) rfl]; rfl) 27 rfl (by decide) (.bool true) (by intro a' F'; have h26 := F'.at' 26 _ rfl; go_simp) ?_
    clear F a9
    intro a9 F
    refine fr_ch F 1 [(28, .bool true)] (by kernel_rfl) ?_
    clear F a9
    intro a9 F
    refine fr_mv F (by rw [wanted_at F rfl (t := 28) (b := true) (by kernel_rfl) rfl]; rfl) 29 rfl (by decide) 5 rfl rfl ?_
    clear F a9
    intro a9 F
    refine fr_mv F (by rw [wanted_at F rfl (t := 28) (b := true) (by kernel_rfl) rfl]; rfl) 30 rfl (by decide) 1 rfl rfl ?_
    clear F a9
    intro a9 F
    refine fr_nc F (by rw [wanted_at F rfl (t := 28) (b := true) (by kernel_rfl) rfl]; rfl) 31 rfl (by decide) 30 rfl rfl ?_
    clear F a9
    intro a9 F
    refine fr_ch F 1 [(32, .pointer (some ⟨N, q + 32, none⟩))] (by kernel_rfl) ?_
    clear F a9
    intro a9 F
    refine fr_do F (by rw [wanted_at F rfl (t := 28) (b := true) (by kernel_rfl) rfl]; rfl) 33 rfl (by decide) (.string n.codes) (by intro a' F'; have h32 := F'.at' 32 _ rfl; have hc : w9.cell? ⟨N, q + 32, none⟩ = some (.string n.codes) := ((HN0.out.low HK.low)).cell 32 _ rfl; go_simp) ?_
    clear F a9
    intro a9 F
    refine fr_do F (by rw [wanted_at F rfl (t := 28) (b := true) (by kernel_rfl) rfl]; rfl) 34 rfl (by decide) (.bool true) (fun a' F' => op_neS (F'.ev 29 rfl) (F'.ev 33 rfl) rfl Tryd.underlying9 (by simp [hcd])) ?_
    clear F a9
    intro a9 F
    refine fr_mv F (by rw [wanted_at F rfl (t := 28) (b := true) (by kernel_rfl) rfl]; rfl) 35 rfl (by decide) 34 rfl rfl ?_
    clear F a9
    intro a9 F
    refine fr_ch F 9 [(44, .bool true), (43, .bool true), (42, .bool true), (41, undef), (40, undef), (39, undef), (38, undef), (37, undef), (36, undef)] (by kernel_rfl) ?_
    clear F a9
    intro a9 F
    refine wpList_nil ?_
    show Code.wp _ _ _ _ _
    refine wp_cond_true (F.ev 44 rfl) ?_
    refine wp_seq ?_
    refine wp_region_lit ?_
    refine fr_ch F 1 [(4, .int .u8 4)] (by kernel_rfl) ?_
    clear F a9
    intro a9 F
    refine wpList_nil ?_
    show Code.wp _ _ _ _ _
    refine wp_ret ?_
    exact fr_ret1 F rfl _ rfl (FIN.out 4 L' _ (by unfold appliedN; rw [hok, if_neg (by decide), if_pos hkd, hcc, if_neg hcd]) habs ⟨hmo2, HK.sub (List.nil_sublist _) (fun r hr => hr), hon2, hft2⟩)
  by_cases hpr : pp = n.present
  rotate_left
  · skip
    refine wp_seq ?_
    refine wp_seq ?_
    refine wp_region_lit ?_
    refine fr_mv F (wanted_free rfl) 20 rfl (by decide) 7 rfl rfl ?_
    clear F a9
    intro a9 F
    refine fr_ch F 2 [(22, .bool false), (21, .bool false)] (by kernel_rfl) ?_
    clear F a9
    intro a9 F
    refine fr_mv F (by rw [wanted_at F rfl (t := 22) (b := false) (by kernel_rfl) rfl]; rfl) 23 rfl (by decide) 1 rfl rfl ?_
    clear F a9
    intro a9 F
    refine fr_nc F (by rw [wanted_at F rfl (t := 22) (b := false) (by kernel_rfl) rfl]; rfl) 24 rfl (by decide) 23 rfl rfl ?_
    clear F a9
    intro a9 F
    refine fr_ch F 1 [(25, .pointer (some ⟨N, q, none⟩))] (by kernel_rfl) ?_
    clear F a9
    intro a9 F
    refine fr_do F (by rw [wanted_at F rfl (t := 22) (b := false) (by kernel_rfl) rfl]; rfl) 26 rfl (by decide) (.int .u8 (n.kind : Int)) (by intro a' F'; have h25 := F'.at' 25 _ rfl; have hc : w9.cell? ⟨N, q, none⟩ = some (.int .u8 (n.kind : Int)) := ((HN0.out.low HK.low)).cell 0 _ rfl; go_simp) ?_
    clear F a9
    intro a9 F
    refine fr_do F (by rw [wanted_at F rfl (t := 22) (b := false) (by kernel_rfl) rfl]; rfl) 27 rfl (by decide) (.bool true) (by intro a' F'; have h26 := F'.at' 26 _ rfl; go_simp) ?_
    clear F a9
    intro a9 F
    refine fr_ch F 1 [(28, .bool true)] (by kernel_rfl) ?_
    clear F a9
    intro a9 F
    refine fr_mv F (by rw [wanted_at F rfl (t := 28) (b := true) (by kernel_rfl) rfl]; rfl) 29 rfl (by decide) 5 rfl rfl ?_
    clear F a9
    intro a9 F
    refine fr_mv F (by rw [wanted_at F rfl (t := 28) (b := true) (by kernel_rfl) rfl]; rfl) 30 rfl (by decide) 1 rfl rfl ?_
    clear F a9
    intro a9 F
    refine fr_nc F (by rw [wanted_at F rfl (t := 28) (b := true) (by kernel_rfl) rfl]; rfl) 31 rfl (by decide) 30 rfl rfl ?_
    clear F a9
    intro a9 F
    refine fr_ch F 1 [(32, .pointer (some ⟨N, q + 32, none⟩))] (by kernel_rfl) ?_
    clear F a9
    intro a9 F
    refine fr_do F (by rw [wanted_at F rfl (t := 28) (b := true) (by kernel_rfl) rfl]; rfl) 33 rfl (by decide) (.string n.codes) (by intro a' F'; have h32 := F'.at' 32 _ rfl; have hc : w9.cell? ⟨N, q + 32, none⟩ = some (.string n.codes) := ((HN0.out.low HK.low)).cell 32 _ rfl; go_simp) ?_
    clear F a9
    intro a9 F
    refine fr_do F (by rw [wanted_at F rfl (t := 28) (b := true) (by kernel_rfl) rfl]; rfl) 34 rfl (by decide) (.bool false) (fun a' F' => op_neS (F'.ev 29 rfl) (F'.ev 33 rfl) rfl Tryd.underlying9 (by simp [hcd])) ?_
    clear F a9
    intro a9 F
    refine fr_mv F (by rw [wanted_at F rfl (t := 28) (b := true) (by kernel_rfl) rfl]; rfl) 35 rfl (by decide) 34 rfl rfl ?_
    clear F a9
    intro a9 F
    refine fr_mv F (by rw [wanted_at F rfl (t := 35) (b := false) (by kernel_rfl) rfl]; rfl) 36 rfl (by decide) 6 rfl rfl ?_
    clear F a9
    intro a9 F
    refine fr_mv F (by rw [wanted_at F rfl (t := 35) (b := false) (by kernel_rfl) rfl]; rfl) 37 rfl (by decide) 1 rfl rfl ?_
    clear F a9
    intro a9 F
    refine fr_nc F (by rw [wanted_at F rfl (t := 35) (b := false) (by kernel_rfl) rfl]; rfl) 38 rfl (by decide) 37 rfl rfl ?_
    clear F a9
    intro a9 F
    refine fr_ch F 1 [(39, .pointer (some ⟨N, q + 33, none⟩))] (by kernel_rfl) ?_
    clear F a9
    intro a9 F
    refine fr_do F (by rw [wanted_at F rfl (t := 35) (b := false) (by kernel_rfl) rfl]; rfl) 40 rfl (by decide) (.bool n.present) (by intro a' F'; have h39 := F'.at' 39 _ rfl; have hc : w9.cell? ⟨N, q + 33, none⟩ = some (.bool n.present) := ((HN0.out.low HK.low)).cell 33 _ rfl; go_simp) ?_
    clear F a9
    intro a9 F
    refine fr_do F (by rw [wanted_at F rfl (t := 35) (b := false) (by kernel_rfl) rfl]; rfl) 41 rfl (by decide) (.bool true) (by intro a' F'; have h36 := F'.at' 36 _ rfl; have h40 := F'.at' 40 _ rfl; go_simp <;> simp [hpr]) ?_
    clear F a9
    intro a9 F
    refine fr_ch F 3 [(44, .bool true), (43, .bool true), (42, .bool true)] (by kernel_rfl) ?_
    clear F a9
    intro a9 F
    refine wpList_nil ?_
    show Code.wp _ _ _ _ _
    refine wp_cond_true (F.ev 44 rfl) ?_
    refine wp_seq ?_
    refine wp_region_lit ?_
    refine fr_ch F 1 [(4, .int .u8 4)] (by kernel_rfl) ?_
    clear F a9
    intro a9 F
    refine wpList_nil ?_
    show Code.wp _ _ _ _ _
    refine wp_ret ?_
    exact fr_ret1 F rfl _ rfl (FIN.out 4 L' _ (by unfold appliedN; rw [hok, if_neg (by decide), if_pos hkd, hcc, if_pos hcd, hpp, if_neg hpr]) habs ⟨hmo2, HK.sub (List.nil_sublist _) (fun r hr => hr), hon2, hft2⟩)
  refine wp_seq ?_
  refine wp_seq ?_
  refine wp_region_lit ?_
  refine fr_mv F (wanted_free rfl) 20 rfl (by decide) 7 rfl rfl ?_
  clear F a9
  intro a9 F
  refine fr_ch F 2 [(22, .bool false), (21, .bool false)] (by kernel_rfl) ?_
  clear F a9
  intro a9 F
  refine fr_mv F (by rw [wanted_at F rfl (t := 22) (b := false) (by kernel_rfl) rfl]; rfl) 23 rfl (by decide) 1 rfl rfl ?_
  clear F a9
  intro a9 F
  refine fr_nc F (by rw [wanted_at F rfl (t := 22) (b := false) (by kernel_rfl) rfl]; rfl) 24 rfl (by decide) 23 rfl rfl ?_
  clear F a9
  intro a9 F
  refine fr_ch F 1 [(25, .pointer (some ⟨N, q, none⟩))] (by kernel_rfl) ?_
  clear F a9
  intro a9 F
  refine fr_do F (by rw [wanted_at F rfl (t := 22) (b := false) (by kernel_rfl) rfl]; rfl) 26 rfl (by decide) (.int .u8 (n.kind : Int)) (by intro a' F'; have h25 := F'.at' 25 _ rfl; have hc : w9.cell? ⟨N, q, none⟩ = some (.int .u8 (n.kind : Int)) := ((HN0.out.low HK.low)).cell 0 _ rfl; go_simp) ?_
  clear F a9
  intro a9 F
  refine fr_do F (by rw [wanted_at F rfl (t := 22) (b := false) (by kernel_rfl) rfl]; rfl) 27 rfl (by decide) (.bool true) (by intro a' F'; have h26 := F'.at' 26 _ rfl; go_simp) ?_
  clear F a9
  intro a9 F
  refine fr_ch F 1 [(28, .bool true)] (by kernel_rfl) ?_
  clear F a9
  intro a9 F
  refine fr_mv F (by rw [wanted_at F rfl (t := 28) (b := true) (by kernel_rfl) rfl]; rfl) 29 rfl (by decide) 5 rfl rfl ?_
  clear F a9
  intro a9 F
  refine fr_mv F (by rw [wanted_at F rfl (t := 28) (b := true) (by kernel_rfl) rfl]; rfl) 30 rfl (by decide) 1 rfl rfl ?_
  clear F a9
  intro a9 F
  refine fr_nc F (by rw [wanted_at F rfl (t := 28) (b := true) (by kernel_rfl) rfl]; rfl) 31 rfl (by decide) 30 rfl rfl ?_
  clear F a9
  intro a9 F
  refine fr_ch F 1 [(32, .pointer (some ⟨N, q + 32, none⟩))] (by kernel_rfl) ?_
  clear F a9
  intro a9 F
  refine fr_do F (by rw [wanted_at F rfl (t := 28) (b := true) (by kernel_rfl) rfl]; rfl) 33 rfl (by decide) (.string n.codes) (by intro a' F'; have h32 := F'.at' 32 _ rfl; have hc : w9.cell? ⟨N, q + 32, none⟩ = some (.string n.codes) := ((HN0.out.low HK.low)).cell 32 _ rfl; go_simp) ?_
  clear F a9
  intro a9 F
  refine fr_do F (by rw [wanted_at F rfl (t := 28) (b := true) (by kernel_rfl) rfl]; rfl) 34 rfl (by decide) (.bool false) (fun a' F' => op_neS (F'.ev 29 rfl) (F'.ev 33 rfl) rfl Tryd.underlying9 (by simp [hcd])) ?_
  clear F a9
  intro a9 F
  refine fr_mv F (by rw [wanted_at F rfl (t := 28) (b := true) (by kernel_rfl) rfl]; rfl) 35 rfl (by decide) 34 rfl rfl ?_
  clear F a9
  intro a9 F
  refine fr_mv F (by rw [wanted_at F rfl (t := 35) (b := false) (by kernel_rfl) rfl]; rfl) 36 rfl (by decide) 6 rfl rfl ?_
  clear F a9
  intro a9 F
  refine fr_mv F (by rw [wanted_at F rfl (t := 35) (b := false) (by kernel_rfl) rfl]; rfl) 37 rfl (by decide) 1 rfl rfl ?_
  clear F a9
  intro a9 F
  refine fr_nc F (by rw [wanted_at F rfl (t := 35) (b := false) (by kernel_rfl) rfl]; rfl) 38 rfl (by decide) 37 rfl rfl ?_
  clear F a9
  intro a9 F
  refine fr_ch F 1 [(39, .pointer (some ⟨N, q + 33, none⟩))] (by kernel_rfl) ?_
  clear F a9
  intro a9 F
  refine fr_do F (by rw [wanted_at F rfl (t := 35) (b := false) (by kernel_rfl) rfl]; rfl) 40 rfl (by decide) (.bool n.present) (by intro a' F'; have h39 := F'.at' 39 _ rfl; have hc : w9.cell? ⟨N, q + 33, none⟩ = some (.bool n.present) := ((HN0.out.low HK.low)).cell 33 _ rfl; go_simp) ?_
  clear F a9
  intro a9 F
  refine fr_do F (by rw [wanted_at F rfl (t := 35) (b := false) (by kernel_rfl) rfl]; rfl) 41 rfl (by decide) (.bool false) (by intro a' F'; have h36 := F'.at' 36 _ rfl; have h40 := F'.at' 40 _ rfl; go_simp <;> simp [hpr]) ?_
  clear F a9
  intro a9 F
  refine fr_ch F 3 [(44, .bool false), (43, .bool false), (42, .bool false)] (by kernel_rfl) ?_
  clear F a9
  intro a9 F
  refine wpList_nil ?_
  show Code.wp _ _ _ _ _
  refine wp_cond_false (F.ev 44 rfl) ?_
  refine wp_skip ?_
  show Code.wp _ _ _ _ _
  refine wp_seq ?_
  refine wp_region_lit ?_
  refine fr_ch F 1 [(4, .int .u8 0)] (by kernel_rfl) ?_
  clear F a9
  intro a9 F
  refine wpList_nil ?_
  show Code.wp _ _ _ _ _
  refine wp_ret ?_
  exact fr_ret1 F rfl _ rfl (FIN.out 0 L' _ (by unfold appliedN; rw [hok, if_neg (by decide), if_pos hkd, hcc, if_pos hcd, hpp, if_pos hpr]) habs ⟨hmo2, HK.sub (List.nil_sublist _) (fun r hr => hr), hon2, hft2⟩)
end Go.Proofs.YtmppkgonkkffhaaDoor

/- The walks of order.asks, routes, puts, saved, drops. Conditions: notes lie where the pointers are, below the caller's memory; bounds on their texts. -/
namespace Go.Proofs.YtmppkgonkkffhaaDoor
open Go.RowKit
/-- What a kind of note that leaves the model alone leaves. -/
def RetS (w0 w : World) (p N why : Nat) (x' : Pa) (e : Ending) (w' : World) : Prop := e = .returned (.int .u8 (why : Int)) ∧ BoxAt w' p (paV N x') 83 ∧ Only (fun j => j = p) w w' ∧ Keep w0 [] [] w'
def byP (n1 n2 : Nt) : Bool := decide (n1.conn = n2.conn) && decide (n1.client = n2.client)
set_option maxRecDepth 100000 in
set_option maxHeartbeats 4000000 in
theorem order_asks {w0 w : World} {p N q : Nat} {x : Pa} {n : Nt} {a : Option Addr} {c : Nat} (kv : Value) (HK : Keep w0 [] [] w) (HP : BoxAt w p (paV N x) 83) (hpl : w0.heap.size ≤ p) (hn : NtAt w0 N q n a c)  : Calls Tryd.prog 23 #[kv, .pointer (some ⟨p, 0, none⟩), .pointer (some ⟨N, q, none⟩)] w (RetS w0 w p N (reasonN (decide (0 < n.op) && freshP x) true) ({ x with asks := some q })) := by
  obtain ⟨RR, hRR⟩ : ∃ RR : Ending → World → Prop, RR = RetS w0 w p N (reasonN (decide (0 < n.op) && freshP x) true) ({ x with asks := some q }) := ⟨_, rfl⟩
  have FIN := Lib.hid (show ∀ r w', r = reasonN (decide (0 < n.op) && freshP x) true → BoxAt w' p (paV N ({ x with asks := some q })) 83 → Only (fun j => j = p) w w' → Keep w0 [] [] w' → RR (.returned (.int .u8 (r : Int))) w' from fun r w' h1 h2 h3 h4 => by rw [hRR, h1]; exact ⟨rfl, h2, h3, h4⟩)
  rw [← hRR]
  have HN0 := Lib.hid hn
  obtain ⟨w9, hw9⟩ : ∃ w9, w9 = w := ⟨_, rfl⟩
  have HON : Only (fun j => j = p) w w9 := by rw [hw9]; exact Only.refl _ _
  rw [← hw9] at HK HP
  suffices hgo : Calls Tryd.prog 23 #[kv, .pointer (some ⟨p, 0, none⟩), .pointer (some ⟨N, q, none⟩)] w9 RR by rw [hw9] at hgo; exact hgo
  clear hw9 hRR hn
  go_enter Tryd.func23, Tryd.ntmps23
  refine wp_forget (n := 26) (L := [(2, .pointer (some ⟨N, q, none⟩)), (1, .pointer (some ⟨p, 0, none⟩)), (0, kv)]) (FrL.add (FrL.add (FrL.add (FrL.nil ?_ ?_) _ _ ?_) _ _ ?_) _ _ ?_) ?_
  iterate 5 rfl
  intro a9 F
  refine wp_seq ?_
  refine wp_region_lit ?_
  refine fr_ch F 1 [(6, .int .u8 0)] (by kernel_rfl) ?_
  clear F a9
  intro a9 F
  refine wpList_nil ?_
  show Code.wp _ _ _ _ _
  by_cases ho : 0 < n.op
  · skip
    refine wp_seq ?_
    refine wp_region_lit ?_
    refine fr_ch F 3 [(10, .pointer (some ⟨N, q + 1, none⟩)), (9, .pointer (some ⟨N, q, none⟩)), (8, .pointer (some ⟨N, q, none⟩))] (by kernel_rfl) ?_
    clear F a9
    intro a9 F
    refine fr_do F (wanted_free rfl) 11 rfl (by decide) (.int .i64 n.op) (by intro a' F'; have h10 := F'.at' 10 _ rfl; have hc : w9.cell? ⟨N, q + 1, none⟩ = some (.int .i64 n.op) := ((HN0.out.low HK.low)).cell 1 _ rfl; go_simp) ?_
    clear F a9
    intro a9 F
    refine fr_do F (wanted_free rfl) 12 rfl (by decide) (.bool true) (by intro a' F'; have h11 := F'.at' 11 _ rfl; go_simp) ?_
    clear F a9
    intro a9 F
    refine fr_ch F 1 [(13, .bool true)] (by kernel_rfl) ?_
    clear F a9
    intro a9 F
    refine fr_mv F (by rw [wanted_at F rfl (t := 13) (b := true) (by kernel_rfl) rfl]; rfl) 14 rfl (by decide) 1 rfl rfl ?_
    clear F a9
    intro a9 F
    refine fr_nc F (by rw [wanted_at F rfl (t := 13) (b := true) (by kernel_rfl) rfl]; rfl) 15 rfl (by decide) 14 rfl rfl ?_
    clear F a9
    intro a9 F
    refine fr_do F (by rw [wanted_at F rfl (t := 13) (b := true) (by kernel_rfl) rfl]; rfl) 16 rfl (by decide) (.agg (paV N x)) (by intro a' F'; exact run_load_box rfl (F'.ev 15 rfl) HP Tryd.underlying83 rfl infoPa) ?_
    clear F a9
    intro a9 F
    refine fr_ch F 1 [(17, .agg (paV N Pa.zero))] (by kernel_rfl) ?_
    clear F a9
    intro a9 F
    refine fr_do F (by rw [wanted_at F rfl (t := 13) (b := true) (by kernel_rfl) rfl]; rfl) 18 rfl (by decide) (.bool (freshP x)) (fun a' F' => op_eqPa (F'.ev 16 rfl) (F'.ev 17 rfl) rfl) ?_
    clear F a9
    intro a9 F
    refine fr_ch F 1 [(19, .bool (freshP x))] (by kernel_rfl) ?_
    clear F a9
    intro a9 F
    refine fr_call F (wanted_free rfl) 20 rfl (by decide) 46 #[.bool (freshP x), .bool true] (by intro a' F'; have h19 := F'.at' 19 _ rfl; go_simp) (order_reason (freshP x) true w9) ?_
    rintro e9 w8 ⟨rfl, hb8⟩
    replace HK := HK.below hb8
    replace HP := HP.below hb8
    replace HON := HON.then hb8
    clear hb8
    clear w9
    rename World => w9
    refine ⟨_, rfl, ?_⟩
    clear F a9
    intro a9 F
    refine fr_as F (wanted_free rfl) 7 rfl (by decide) 20 rfl rfl ?_
    clear F a9
    intro a9 F
    refine wpList_nil ?_
    show Code.wp _ _ _ _ _
    replace F := F.cut [(7, .int .u8 (reasonN (freshP x) true : Int)), (6, .int .u8 0), (2, .pointer (some ⟨N, q, none⟩)), (1, .pointer (some ⟨p, 0, none⟩))] (by kernel_rfl)
    have HK2 := HK.withBox ⟨p, paV N x, 83⟩ HP hpl (fun z hz => by cases hz)
    clear HK HP
    have HK := HK2
    clear HK2
    replace HK : Keep w0 [(p, (paV N x), 83)] [] w9 := HK
    refine wp_seq ?_
    refine wp_region_lit ?_
    refine fr_ch F 4 [(24, .pointer (some ⟨p, 0, none⟩)), (23, .pointer (some ⟨p, 0, none⟩)), (22, .pointer (some ⟨N, q, none⟩)), (21, .pointer (some ⟨p, 0, none⟩))] (by kernel_rfl) ?_
    clear F a9
    intro a9 F
    refine fr_putO F HK 0 rfl rfl rfl 52 _ _ rfl 0 (.pointer (some ⟨N, q, none⟩)) (fun a' F' => F'.ev 24 rfl) (fun a' F' => F'.ev 22 rfl) z_pn (Nat.le_of_ble_eq_true (by kernel_rfl)) (by kernel_rfl) ?_
    intro a10 w10 F' HK' HO
    replace HON := HON.trans HO (fun j _ h => h)
    clear HK F HO
    clear a9 w9
    rename World => w9
    rename Act => a9
    have HK := HK'
    have F := F'
    clear HK' F'
    replace HK : Keep w0 [(p, (paV N { x with asks := some q }), 83)] [] w9 := HK
    refine wpList_nil ?_
    show Code.wp _ _ _ _ _
    refine wp_seq ?_
    refine wp_region_lit ?_
    refine fr_mv F (wanted_free rfl) 25 rfl (by decide) 7 rfl rfl ?_
    clear F a9
    intro a9 F
    refine fr_as F (wanted_free rfl) 6 rfl (by decide) 25 rfl rfl ?_
    clear F a9
    intro a9 F
    refine wpList_nil ?_
    show Code.wp _ _ _ _ _
    refine wp_ret ?_
    exact fr_ret1 F rfl _ rfl (FIN.out _ _ (by rw [decide_eq_true ho]; rfl) (HK.at 0 rfl) HON (HK.sub (List.nil_sublist _) (fun r hr => hr)))
  · skip
    refine wp_seq ?_
    refine wp_region_lit ?_
    refine fr_mv F (wanted_free rfl) 8 rfl (by decide) 2 rfl rfl ?_
    clear F a9
    intro a9 F
    refine fr_nc F (wanted_free rfl) 9 rfl (by decide) 8 rfl rfl ?_
    clear F a9
    intro a9 F
    refine fr_ch F 1 [(10, .pointer (some ⟨N, q + 1, none⟩))] (by kernel_rfl) ?_
    clear F a9
    intro a9 F
    refine fr_do F (wanted_free rfl) 11 rfl (by decide) (.int .i64 n.op) (by intro a' F'; have h10 := F'.at' 10 _ rfl; have hc : w9.cell? ⟨N, q + 1, none⟩ = some (.int .i64 n.op) := ((HN0.out.low HK.low)).cell 1 _ rfl; go_simp) ?_
    clear F a9
    intro a9 F
    refine fr_do F (wanted_free rfl) 12 rfl (by decide) (.bool false) (by intro a' F'; have h11 := F'.at' 11 _ rfl; go_simp) ?_
    clear F a9
    intro a9 F
    refine fr_ch F 7 [(19, .bool false), (18, undef), (17, undef), (16, undef), (15, undef), (14, undef), (13, .bool false)] (by kernel_rfl) ?_
    clear F a9
    intro a9 F
    refine fr_call F (wanted_free rfl) 20 rfl (by decide) 46 #[.bool false, .bool true] (by intro a' F'; have h19 := F'.at' 19 _ rfl; go_simp) (order_reason false true w9) ?_
    rintro e9 w8 ⟨rfl, hb8⟩
    replace HK := HK.below hb8
    replace HP := HP.below hb8
    replace HON := HON.then hb8
    clear hb8
    clear w9
    rename World => w9
    refine ⟨_, rfl, ?_⟩
    clear F a9
    intro a9 F
    refine fr_as F (wanted_free rfl) 7 rfl (by decide) 20 rfl rfl ?_
    clear F a9
    intro a9 F
    refine wpList_nil ?_
    show Code.wp _ _ _ _ _
    replace F := F.cut [(7, .int .u8 (reasonN false true : Int)), (6, .int .u8 0), (2, .pointer (some ⟨N, q, none⟩)), (1, .pointer (some ⟨p, 0, none⟩))] (by kernel_rfl)
    have HK2 := HK.withBox ⟨p, paV N x, 83⟩ HP hpl (fun z hz => by cases hz)
    clear HK HP
    have HK := HK2
    clear HK2
    replace HK : Keep w0 [(p, (paV N x), 83)] [] w9 := HK
    refine wp_seq ?_
    refine wp_region_lit ?_
    refine fr_ch F 4 [(24, .pointer (some ⟨p, 0, none⟩)), (22, .pointer (some ⟨N, q, none⟩))] (by kernel_rfl) ?_
    clear F a9
    intro a9 F
    refine fr_putO F HK 0 rfl rfl rfl 52 _ _ rfl 0 (.pointer (some ⟨N, q, none⟩)) (fun a' F' => F'.ev 24 rfl) (fun a' F' => F'.ev 22 rfl) z_pn (Nat.le_of_ble_eq_true (by kernel_rfl)) (by kernel_rfl) ?_
    intro a10 w10 F' HK' HO
    replace HON := HON.trans HO (fun j _ h => h)
    clear HK F HO
    clear a9 w9
    rename World => w9
    rename Act => a9
    have HK := HK'
    have F := F'
    clear HK' F'
    replace HK : Keep w0 [(p, (paV N { x with asks := some q }), 83)] [] w9 := HK
    refine wpList_nil ?_
    show Code.wp _ _ _ _ _
    refine wp_seq ?_
    refine wp_region_lit ?_
    refine fr_mv F (wanted_free rfl) 25 rfl (by decide) 7 rfl rfl ?_
    clear F a9
    intro a9 F
    refine fr_as F (wanted_free rfl) 6 rfl (by decide) 25 rfl rfl ?_
    clear F a9
    intro a9 F
    refine wpList_nil ?_
    show Code.wp _ _ _ _ _
    refine wp_ret ?_
    exact fr_ret1 F rfl _ rfl (FIN.out _ _ (by rw [decide_eq_false ho]; rfl) (HK.at 0 rfl) HON (HK.sub (List.nil_sublist _) (fun r hr => hr)))
set_option maxRecDepth 100000 in
set_option maxHeartbeats 4000000 in
theorem puts_no1 {w0 w : World} {p N q : Nat} {x : Pa} {n : Nt} {a : Option Addr} {c : Nat} (kv : Value) (HK : Keep w0 [] [] w) (HP : BoxAt w p (paV N x) 83) (hpl : w0.heap.size ≤ p) (hn : NtAt w0 N q n a c) (hx : x.routes = none) : Calls Tryd.prog 28 #[kv, .pointer (some ⟨p, 0, none⟩), .pointer (some ⟨N, q, none⟩)] w (RetS w0 w p N (2) (x)) := by
  obtain ⟨RR, hRR⟩ : ∃ RR : Ending → World → Prop, RR = RetS w0 w p N (2) (x) := ⟨_, rfl⟩
  have FIN := Lib.hid (show ∀ r w', r = 2 → BoxAt w' p (paV N (x)) 83 → Only (fun j => j = p) w w' → Keep w0 [] [] w' → RR (.returned (.int .u8 (r : Int))) w' from fun r w' h1 h2 h3 h4 => by rw [hRR, h1]; exact ⟨rfl, h2, h3, h4⟩)
  rw [← hRR]
  have HN0 := Lib.hid hn
  obtain ⟨w9, hw9⟩ : ∃ w9, w9 = w := ⟨_, rfl⟩
  have HON : Only (fun j => j = p) w w9 := by rw [hw9]; exact Only.refl _ _
  rw [← hw9] at HK HP
  suffices hgo : Calls Tryd.prog 28 #[kv, .pointer (some ⟨p, 0, none⟩), .pointer (some ⟨N, q, none⟩)] w9 RR by rw [hw9] at hgo; exact hgo
  clear hw9 hRR hn
  go_enter Tryd.func28, Tryd.ntmps28
  refine wp_forget (n := 28) (L := [(2, .pointer (some ⟨N, q, none⟩)), (1, .pointer (some ⟨p, 0, none⟩)), (0, kv)]) (FrL.add (FrL.add (FrL.add (FrL.nil ?_ ?_) _ _ ?_) _ _ ?_) _ _ ?_) ?_
  iterate 5 rfl
  intro a9 F
  refine wp_seq ?_
  refine wp_region_lit ?_
  refine fr_ch F 1 [(6, .int .u8 0)] (by kernel_rfl) ?_
  clear F a9
  intro a9 F
  refine wpList_nil ?_
  show Code.wp _ _ _ _ _
  refine wp_seq ?_
  refine wp_region_lit ?_
  refine fr_ch F 3 [(10, .pointer (some ⟨p, 2, none⟩))] (by kernel_rfl) ?_
  clear F a9
  intro a9 F
  refine fr_do F (wanted_free rfl) 11 rfl (by decide) (.pointer none) (by intro a' F'; have h10 := F'.at' 10 _ rfl; have hc : w9.cell? ⟨p, 2, none⟩ = some (.pointer none) := (HP.cells 2).trans (congrArg (fun z => some (ptrN N z)) hx); go_simp) ?_
  clear F a9
  intro a9 F
  refine fr_ch F 9 [(7, .bool false), (19, .bool false), (18, undef), (17, undef), (16, undef), (15, undef), (14, undef), (13, .bool false), (12, .bool false)] (by kernel_rfl) ?_
  clear F a9
  intro a9 F
  refine wpList_nil ?_
  show Code.wp _ _ _ _ _
  replace F := F.cut [(7, .bool false), (6, .int .u8 0), (2, .pointer (some ⟨N, q, none⟩)), (1, .pointer (some ⟨p, 0, none⟩)), (0, kv)] (by kernel_rfl)
  refine wp_seq ?_
  refine wp_region_lit ?_
  refine fr_ch F 7 [(26, .bool false), (20, .bool false)] (by kernel_rfl) ?_
  clear F a9
  intro a9 F
  refine fr_call F (wanted_free rfl) 27 rfl (by decide) 46 #[.bool false, .bool false] (by intro a' F'; have h20 := F'.at' 20 _ rfl; have h26 := F'.at' 26 _ rfl; go_simp) (order_reason false false w9) ?_
  rintro e9 w8 ⟨rfl, hb8⟩
  replace HK := HK.below hb8
  replace HP := HP.below hb8
  replace HON := HON.then hb8
  clear hb8
  clear w9
  rename World => w9
  refine ⟨_, rfl, ?_⟩
  clear F a9
  intro a9 F
  refine fr_as F (wanted_free rfl) 6 rfl (by decide) 27 rfl rfl ?_
  clear F a9
  intro a9 F
  refine wpList_nil ?_
  show Code.wp _ _ _ _ _
  refine wp_ret ?_
  exact fr_ret1 F rfl _ rfl (FIN.out _ _ (rfl) HP HON HK)
set_option maxRecDepth 100000 in
set_option maxHeartbeats 4000000 in
theorem puts_no2 {w0 w : World} {p N q : Nat} {x : Pa} {n : Nt} {a : Option Addr} {c : Nat} (kv : Value) (HK : Keep w0 [] [] w) (HP : BoxAt w p (paV N x) 83) (hpl : w0.heap.size ≤ p) (hn : NtAt w0 N q n a c) {r t : Nat} (hx : x.routes = some r) (ht : x.tells = some t) : Calls Tryd.prog 28 #[kv, .pointer (some ⟨p, 0, none⟩), .pointer (some ⟨N, q, none⟩)] w (RetS w0 w p N (2) (x)) := by
  obtain ⟨RR, hRR⟩ : ∃ RR : Ending → World → Prop, RR = RetS w0 w p N (2) (x) := ⟨_, rfl⟩
  have FIN := Lib.hid (show ∀ r w', r = 2 → BoxAt w' p (paV N (x)) 83 → Only (fun j => j = p) w w' → Keep w0 [] [] w' → RR (.returned (.int .u8 (r : Int))) w' from fun r w' h1 h2 h3 h4 => by rw [hRR, h1]; exact ⟨rfl, h2, h3, h4⟩)
  rw [← hRR]
  have HN0 := Lib.hid hn
  obtain ⟨w9, hw9⟩ : ∃ w9, w9 = w := ⟨_, rfl⟩
  have HON : Only (fun j => j = p) w w9 := by rw [hw9]; exact Only.refl _ _
  rw [← hw9] at HK HP
  suffices hgo : Calls Tryd.prog 28 #[kv, .pointer (some ⟨p, 0, none⟩), .pointer (some ⟨N, q, none⟩)] w9 RR by rw [hw9] at hgo; exact hgo
  clear hw9 hRR hn
  go_enter Tryd.func28, Tryd.ntmps28
  refine wp_forget (n := 28) (L := [(2, .pointer (some ⟨N, q, none⟩)), (1, .pointer (some ⟨p, 0, none⟩)), (0, kv)]) (FrL.add (FrL.add (FrL.add (FrL.nil ?_ ?_) _ _ ?_) _ _ ?_) _ _ ?_) ?_
  iterate 5 rfl
  intro a9 F
  refine wp_seq ?_
  refine wp_region_lit ?_
  refine fr_ch F 1 [(6, .int .u8 0)] (by kernel_rfl) ?_
  clear F a9
  intro a9 F
  refine wpList_nil ?_
  show Code.wp _ _ _ _ _
  refine wp_seq ?_
  refine wp_region_lit ?_
  refine fr_ch F 3 [(10, .pointer (some ⟨p, 2, none⟩))] (by kernel_rfl) ?_
  clear F a9
  intro a9 F
  refine fr_do F (wanted_free rfl) 11 rfl (by decide) (.pointer (some ⟨N, r, none⟩)) (by intro a' F'; have h10 := F'.at' 10 _ rfl; have hc : w9.cell? ⟨p, 2, none⟩ = some (.pointer (some ⟨N, r, none⟩)) := (HP.cells 2).trans (congrArg (fun z => some (ptrN N z)) hx); go_simp) ?_
  clear F a9
  intro a9 F
  refine fr_ch F 2 [(13, .bool true), (12, .bool true)] (by kernel_rfl) ?_
  clear F a9
  intro a9 F
  refine fr_mv F (by rw [wanted_at F rfl (t := 13) (b := true) (by kernel_rfl) rfl]; rfl) 14 rfl (by decide) 1 rfl rfl ?_
  clear F a9
  intro a9 F
  refine fr_nc F (by rw [wanted_at F rfl (t := 13) (b := true) (by kernel_rfl) rfl]; rfl) 15 rfl (by decide) 14 rfl rfl ?_
  clear F a9
  intro a9 F
  refine fr_ch F 1 [(16, .pointer (some ⟨p, 4, none⟩))] (by kernel_rfl) ?_
  clear F a9
  intro a9 F
  refine fr_do F (by rw [wanted_at F rfl (t := 13) (b := true) (by kernel_rfl) rfl]; rfl) 17 rfl (by decide) (.pointer (some ⟨N, t, none⟩)) (by intro a' F'; have h16 := F'.at' 16 _ rfl; have hc : w9.cell? ⟨p, 4, none⟩ = some (.pointer (some ⟨N, t, none⟩)) := (HP.cells 4).trans (congrArg (fun z => some (ptrN N z)) ht); go_simp) ?_
  clear F a9
  intro a9 F
  refine fr_ch F 3 [(7, .bool false), (19, .bool false), (18, .bool false)] (by kernel_rfl) ?_
  clear F a9
  intro a9 F
  refine wpList_nil ?_
  show Code.wp _ _ _ _ _
  replace F := F.cut [(7, .bool false), (6, .int .u8 0), (2, .pointer (some ⟨N, q, none⟩)), (1, .pointer (some ⟨p, 0, none⟩)), (0, kv)] (by kernel_rfl)
  refine wp_seq ?_
  refine wp_region_lit ?_
  refine fr_ch F 7 [(26, .bool false), (20, .bool false)] (by kernel_rfl) ?_
  clear F a9
  intro a9 F
  refine fr_call F (wanted_free rfl) 27 rfl (by decide) 46 #[.bool false, .bool false] (by intro a' F'; have h20 := F'.at' 20 _ rfl; have h26 := F'.at' 26 _ rfl; go_simp) (order_reason false false w9) ?_
  rintro e9 w8 ⟨rfl, hb8⟩
  replace HK := HK.below hb8
  replace HP := HP.below hb8
  replace HON := HON.then hb8
  clear hb8
  clear w9
  rename World => w9
  refine ⟨_, rfl, ?_⟩
  clear F a9
  intro a9 F
  refine fr_as F (wanted_free rfl) 6 rfl (by decide) 27 rfl rfl ?_
  clear F a9
  intro a9 F
  refine wpList_nil ?_
  show Code.wp _ _ _ _ _
  refine wp_ret ?_
  exact fr_ret1 F rfl _ rfl (FIN.out _ _ (rfl) HP HON HK)
set_option maxRecDepth 100000 in
set_option maxHeartbeats 4000000 in
theorem puts_row {w0 w : World} {p N q : Nat} {x : Pa} {n : Nt} {a : Option Addr} {c : Nat} (kv : Value) (HK : Keep w0 [] [] w) (HP : BoxAt w p (paV N x) 83) (hpl : w0.heap.size ≤ p) (hn : NtAt w0 N q n a c) {r : Nat} {n2 : Nt} {a2 : Option Addr} {c2 : Nat} (hx : x.routes = some r) (ht : x.tells = none) (hr : NtAt w0 N r n2 a2 c2) : Calls Tryd.prog 28 #[kv, .pointer (some ⟨p, 0, none⟩), .pointer (some ⟨N, q, none⟩)] w (RetS w0 w p N (reasonN true (queuedP n n2.msg)) (x)) := by
  obtain ⟨RR, hRR⟩ : ∃ RR : Ending → World → Prop, RR = RetS w0 w p N (reasonN true (queuedP n n2.msg)) (x) := ⟨_, rfl⟩
  have FIN := Lib.hid (show ∀ r w', r = reasonN true (queuedP n n2.msg) → BoxAt w' p (paV N (x)) 83 → Only (fun j => j = p) w w' → Keep w0 [] [] w' → RR (.returned (.int .u8 (r : Int))) w' from fun r w' h1 h2 h3 h4 => by rw [hRR, h1]; exact ⟨rfl, h2, h3, h4⟩)
  rw [← hRR]
  have HN0 := Lib.hid hn
  obtain ⟨w9, hw9⟩ : ∃ w9, w9 = w := ⟨_, rfl⟩
  have HON : Only (fun j => j = p) w w9 := by rw [hw9]; exact Only.refl _ _
  rw [← hw9] at HK HP
  suffices hgo : Calls Tryd.prog 28 #[kv, .pointer (some ⟨p, 0, none⟩), .pointer (some ⟨N, q, none⟩)] w9 RR by rw [hw9] at hgo; exact hgo
  clear hw9 hRR hn
  go_enter Tryd.func28, Tryd.ntmps28
  refine wp_forget (n := 28) (L := [(2, .pointer (some ⟨N, q, none⟩)), (1, .pointer (some ⟨p, 0, none⟩)), (0, kv)]) (FrL.add (FrL.add (FrL.add (FrL.nil ?_ ?_) _ _ ?_) _ _ ?_) _ _ ?_) ?_
  iterate 5 rfl
  intro a9 F
  refine wp_seq ?_
  refine wp_region_lit ?_
  refine fr_ch F 1 [(6, .int .u8 0)] (by kernel_rfl) ?_
  clear F a9
  intro a9 F
  refine wpList_nil ?_
  show Code.wp _ _ _ _ _
  refine wp_seq ?_
  refine wp_region_lit ?_
  refine fr_ch F 3 [(10, .pointer (some ⟨p, 2, none⟩))] (by kernel_rfl) ?_
  clear F a9
  intro a9 F
  refine fr_do F (wanted_free rfl) 11 rfl (by decide) (.pointer (some ⟨N, r, none⟩)) (by intro a' F'; have h10 := F'.at' 10 _ rfl; have hc : w9.cell? ⟨p, 2, none⟩ = some (.pointer (some ⟨N, r, none⟩)) := (HP.cells 2).trans (congrArg (fun z => some (ptrN N z)) hx); go_simp) ?_
  clear F a9
  intro a9 F
  refine fr_ch F 2 [(13, .bool true), (12, .bool true)] (by kernel_rfl) ?_
  clear F a9
  intro a9 F
  refine fr_mv F (by rw [wanted_at F rfl (t := 13) (b := true) (by kernel_rfl) rfl]; rfl) 14 rfl (by decide) 1 rfl rfl ?_
  clear F a9
  intro a9 F
  refine fr_nc F (by rw [wanted_at F rfl (t := 13) (b := true) (by kernel_rfl) rfl]; rfl) 15 rfl (by decide) 14 rfl rfl ?_
  clear F a9
  intro a9 F
  refine fr_ch F 1 [(16, .pointer (some ⟨p, 4, none⟩))] (by kernel_rfl) ?_
  clear F a9
  intro a9 F
  refine fr_do F (by rw [wanted_at F rfl (t := 13) (b := true) (by kernel_rfl) rfl]; rfl) 17 rfl (by decide) (.pointer none) (by intro a' F'; have h16 := F'.at' 16 _ rfl; have hc : w9.cell? ⟨p, 4, none⟩ = some (.pointer none) := (HP.cells 4).trans (congrArg (fun z => some (ptrN N z)) ht); go_simp) ?_
  clear F a9
  intro a9 F
  refine fr_ch F 3 [(7, .bool true), (19, .bool true), (18, .bool true)] (by kernel_rfl) ?_
  clear F a9
  intro a9 F
  refine wpList_nil ?_
  show Code.wp _ _ _ _ _
  replace F := F.cut [(7, .bool true), (6, .int .u8 0), (2, .pointer (some ⟨N, q, none⟩)), (1, .pointer (some ⟨p, 0, none⟩)), (0, kv)] (by kernel_rfl)
  obtain ⟨bb, hbb⟩ : ∃ bb, queuedP n n2.msg = bb := ⟨_, rfl⟩
  have HC := Lib.hid (show ∀ w9, Env w9 → BoxAt w9 p (paV N x) 83 → NtAt w9 N q n a c → NtAt w9 N r n2 a2 c2 → Calls Tryd.prog 52 #[.pointer (some ⟨p, 0, none⟩), .pointer (some ⟨N, q, none⟩)] w9 fun e w' => e = .returned (.bool bb) ∧ Below w9.heap.size w9 w' from fun w9 h1 h2 h3 h4 => by have h := order_queued h1 h2 hx h3 h4; rw [hbb] at h; exact h)
  refine wp_seq ?_
  refine wp_region_lit ?_
  refine fr_ch F 5 [(24, .pointer (some ⟨N, q, none⟩)), (23, .pointer (some ⟨p, 0, none⟩)), (22, .bool true), (20, .bool true)] (by kernel_rfl) ?_
  clear F a9
  intro a9 F
  refine fr_call F (by rw [wanted_at F rfl (t := 22) (b := true) (by kernel_rfl) rfl]; rfl) 25 rfl (by decide) 52 #[.pointer (some ⟨p, 0, none⟩), .pointer (some ⟨N, q, none⟩)] (by intro a' F'; have h23 := F'.at' 23 _ rfl; have h24 := F'.at' 24 _ rfl; go_simp) (HC.out _ HK.env HP (HN0.out.low HK.low) (hr.low HK.low)) ?_
  rintro e9 w8 ⟨rfl, hb8⟩
  replace HK := HK.below hb8
  replace HP := HP.below hb8
  replace HON := HON.then hb8
  clear hb8
  clear w9
  rename World => w9
  refine ⟨_, rfl, ?_⟩
  clear F a9
  intro a9 F
  refine fr_ch F 1 [(26, .bool bb)] (by kernel_rfl) ?_
  clear F a9
  intro a9 F
  refine fr_call F (wanted_free rfl) 27 rfl (by decide) 46 #[.bool true, .bool bb] (by intro a' F'; have h20 := F'.at' 20 _ rfl; have h26 := F'.at' 26 _ rfl; go_simp) (order_reason true bb w9) ?_
  rintro e9 w8 ⟨rfl, hb8⟩
  replace HK := HK.below hb8
  replace HP := HP.below hb8
  replace HON := HON.then hb8
  clear hb8
  clear w9
  rename World => w9
  refine ⟨_, rfl, ?_⟩
  clear F a9
  intro a9 F
  refine fr_as F (wanted_free rfl) 6 rfl (by decide) 27 rfl rfl ?_
  clear F a9
  intro a9 F
  refine wpList_nil ?_
  show Code.wp _ _ _ _ _
  refine wp_ret ?_
  exact fr_ret1 F rfl _ rfl (FIN.out _ _ (by rw [hbb]) HP HON HK)
set_option maxRecDepth 100000 in
set_option maxHeartbeats 4000000 in
theorem saved_no1 {w0 w : World} {p N q : Nat} {x : Pa} {n : Nt} {a : Option Addr} {c : Nat} (kv : Value) (HK : Keep w0 [] [] w) (HP : BoxAt w p (paV N x) 83) (hpl : w0.heap.size ≤ p) (hn : NtAt w0 N q n a c) (hx : x.does = none) : Calls Tryd.prog 29 #[kv, .pointer (some ⟨p, 0, none⟩), .pointer (some ⟨N, q, none⟩)] w (RetS w0 w p N (2) (x)) := by
  obtain ⟨RR, hRR⟩ : ∃ RR : Ending → World → Prop, RR = RetS w0 w p N (2) (x) := ⟨_, rfl⟩
  have FIN := Lib.hid (show ∀ r w', r = 2 → BoxAt w' p (paV N (x)) 83 → Only (fun j => j = p) w w' → Keep w0 [] [] w' → RR (.returned (.int .u8 (r : Int))) w' from fun r w' h1 h2 h3 h4 => by rw [hRR, h1]; exact ⟨rfl, h2, h3, h4⟩)
  rw [← hRR]
  have HN0 := Lib.hid hn
  obtain ⟨w9, hw9⟩ : ∃ w9, w9 = w := ⟨_, rfl⟩
  have HON : Only (fun j => j = p) w w9 := by rw [hw9]; exact Only.refl _ _
  rw [← hw9] at HK HP
  suffices hgo : Calls Tryd.prog 29 #[kv, .pointer (some ⟨p, 0, none⟩), .pointer (some ⟨N, q, none⟩)] w9 RR by rw [hw9] at hgo; exact hgo
  clear hw9 hRR hn
  go_enter Tryd.func29, Tryd.ntmps29
  refine wp_forget (n := 28) (L := [(2, .pointer (some ⟨N, q, none⟩)), (1, .pointer (some ⟨p, 0, none⟩)), (0, kv)]) (FrL.add (FrL.add (FrL.add (FrL.nil ?_ ?_) _ _ ?_) _ _ ?_) _ _ ?_) ?_
  iterate 5 rfl
  intro a9 F
  refine wp_seq ?_
  refine wp_region_lit ?_
  refine fr_ch F 1 [(6, .int .u8 0)] (by kernel_rfl) ?_
  clear F a9
  intro a9 F
  refine wpList_nil ?_
  show Code.wp _ _ _ _ _
  refine wp_seq ?_
  refine wp_region_lit ?_
  refine fr_ch F 3 [(10, .pointer (some ⟨p, 1, none⟩))] (by kernel_rfl) ?_
  clear F a9
  intro a9 F
  refine fr_do F (wanted_free rfl) 11 rfl (by decide) (.pointer none) (by intro a' F'; have h10 := F'.at' 10 _ rfl; have hc : w9.cell? ⟨p, 1, none⟩ = some (.pointer none) := (HP.cells 1).trans (congrArg (fun z => some (ptrN N z)) hx); go_simp) ?_
  clear F a9
  intro a9 F
  refine fr_ch F 9 [(7, .bool false), (19, .bool false), (18, undef), (17, undef), (16, undef), (15, undef), (14, undef), (13, .bool false), (12, .bool false)] (by kernel_rfl) ?_
  clear F a9
  intro a9 F
  refine wpList_nil ?_
  show Code.wp _ _ _ _ _
  replace F := F.cut [(7, .bool false), (6, .int .u8 0), (2, .pointer (some ⟨N, q, none⟩)), (1, .pointer (some ⟨p, 0, none⟩)), (0, kv)] (by kernel_rfl)
  refine wp_seq ?_
  refine wp_region_lit ?_
  refine fr_ch F 7 [(26, .bool false), (20, .bool false)] (by kernel_rfl) ?_
  clear F a9
  intro a9 F
  refine fr_call F (wanted_free rfl) 27 rfl (by decide) 46 #[.bool false, .bool false] (by intro a' F'; have h20 := F'.at' 20 _ rfl; have h26 := F'.at' 26 _ rfl; go_simp) (order_reason false false w9) ?_
  rintro e9 w8 ⟨rfl, hb8⟩
  replace HK := HK.below hb8
  replace HP := HP.below hb8
  replace HON := HON.then hb8
  clear hb8
  clear w9
  rename World => w9
  refine ⟨_, rfl, ?_⟩
  clear F a9
  intro a9 F
  refine fr_as F (wanted_free rfl) 6 rfl (by decide) 27 rfl rfl ?_
  clear F a9
  intro a9 F
  refine wpList_nil ?_
  show Code.wp _ _ _ _ _
  refine wp_ret ?_
  exact fr_ret1 F rfl _ rfl (FIN.out _ _ (rfl) HP HON HK)
set_option maxRecDepth 100000 in
set_option maxHeartbeats 4000000 in
theorem saved_no2 {w0 w : World} {p N q : Nat} {x : Pa} {n : Nt} {a : Option Addr} {c : Nat} (kv : Value) (HK : Keep w0 [] [] w) (HP : BoxAt w p (paV N x) 83) (hpl : w0.heap.size ≤ p) (hn : NtAt w0 N q n a c) {r t : Nat} (hx : x.does = some r) (ht : x.tells = some t) : Calls Tryd.prog 29 #[kv, .pointer (some ⟨p, 0, none⟩), .pointer (some ⟨N, q, none⟩)] w (RetS w0 w p N (2) (x)) := by
  obtain ⟨RR, hRR⟩ : ∃ RR : Ending → World → Prop, RR = RetS w0 w p N (2) (x) := ⟨_, rfl⟩
  have FIN := Lib.hid (show ∀ r w', r = 2 → BoxAt w' p (paV N (x)) 83 → Only (fun j => j = p) w w' → Keep w0 [] [] w' → RR (.returned (.int .u8 (r : Int))) w' from fun r w' h1 h2 h3 h4 => by rw [hRR, h1]; exact ⟨rfl, h2, h3, h4⟩)
  rw [← hRR]
  have HN0 := Lib.hid hn
  obtain ⟨w9, hw9⟩ : ∃ w9, w9 = w := ⟨_, rfl⟩
  have HON : Only (fun j => j = p) w w9 := by rw [hw9]; exact Only.refl _ _
  rw [← hw9] at HK HP
  suffices hgo : Calls Tryd.prog 29 #[kv, .pointer (some ⟨p, 0, none⟩), .pointer (some ⟨N, q, none⟩)] w9 RR by rw [hw9] at hgo; exact hgo
  clear hw9 hRR hn
  go_enter Tryd.func29, Tryd.ntmps29
  refine wp_forget (n := 28) (L := [(2, .pointer (some ⟨N, q, none⟩)), (1, .pointer (some ⟨p, 0, none⟩)), (0, kv)]) (FrL.add (FrL.add (FrL.add (FrL.nil ?_ ?_) _ _ ?_) _ _ ?_) _ _ ?_) ?_
  iterate 5 rfl
  intro a9 F
  refine wp_seq ?_
  refine wp_region_lit ?_
  refine fr_ch F 1 [(6, .int .u8 0)] (by kernel_rfl) ?_
  clear F a9
  intro a9 F
  refine wpList_nil ?_
  show Code.wp _ _ _ _ _
  refine wp_seq ?_
  refine wp_region_lit ?_
  refine fr_ch F 3 [(10, .pointer (some ⟨p, 1, none⟩))] (by kernel_rfl) ?_
  clear F a9
  intro a9 F
  refine fr_do F (wanted_free rfl) 11 rfl (by decide) (.pointer (some ⟨N, r, none⟩)) (by intro a' F'; have h10 := F'.at' 10 _ rfl; have hc : w9.cell? ⟨p, 1, none⟩ = some (.pointer (some ⟨N, r, none⟩)) := (HP.cells 1).trans (congrArg (fun z => some (ptrN N z)) hx); go_simp) ?_
  clear F a9
  intro a9 F
  refine fr_ch F 2 [(13, .bool true), (12, .bool true)] (by kernel_rfl) ?_
  clear F a9
  intro a9 F
  refine fr_mv F (by rw [wanted_at F rfl (t := 13) (b := true) (by kernel_rfl) rfl]; rfl) 14 rfl (by decide) 1 rfl rfl ?_
  clear F a9
  intro a9 F
  refine fr_nc F (by rw [wanted_at F rfl (t := 13) (b := true) (by kernel_rfl) rfl]; rfl) 15 rfl (by decide) 14 rfl rfl ?_
  clear F a9
  intro a9 F
  refine fr_ch F 1 [(16, .pointer (some ⟨p, 4, none⟩))] (by kernel_rfl) ?_
  clear F a9
  intro a9 F
  refine fr_do F (by rw [wanted_at F rfl (t := 13) (b := true) (by kernel_rfl) rfl]; rfl) 17 rfl (by decide) (.pointer (some ⟨N, t, none⟩)) (by intro a' F'; have h16 := F'.at' 16 _ rfl; have hc : w9.cell? ⟨p, 4, none⟩ = some (.pointer (some ⟨N, t, none⟩)) := (HP.cells 4).trans (congrArg (fun z => some (ptrN N z)) ht); go_simp) ?_
  clear F a9
  intro a9 F
  refine fr_ch F 3 [(7, .bool false), (19, .bool false), (18, .bool false)] (by kernel_rfl) ?_
  clear F a9
  intro a9 F
  refine wpList_nil ?_
  show Code.wp _ _ _ _ _
  replace F := F.cut [(7, .bool false), (6, .int .u8 0), (2, .pointer (some ⟨N, q, none⟩)), (1, .pointer (some ⟨p, 0, none⟩)), (0, kv)] (by kernel_rfl)
  refine wp_seq ?_
  refine wp_region_lit ?_
  refine fr_ch F 7 [(26, .bool false), (20, .bool false)] (by kernel_rfl) ?_
  clear F a9
  intro a9 F
  refine fr_call F (wanted_free rfl) 27 rfl (by decide) 46 #[.bool false, .bool false] (by intro a' F'; have h20 := F'.at' 20 _ rfl; have h26 := F'.at' 26 _ rfl; go_simp) (order_reason false false w9) ?_
  rintro e9 w8 ⟨rfl, hb8⟩
  replace HK := HK.below hb8
  replace HP := HP.below hb8
  replace HON := HON.then hb8
  clear hb8
  clear w9
  rename World => w9
  refine ⟨_, rfl, ?_⟩
  clear F a9
  intro a9 F
  refine fr_as F (wanted_free rfl) 6 rfl (by decide) 27 rfl rfl ?_
  clear F a9
  intro a9 F
  refine wpList_nil ?_
  show Code.wp _ _ _ _ _
  refine wp_ret ?_
  exact fr_ret1 F rfl _ rfl (FIN.out _ _ (rfl) HP HON HK)
set_option maxRecDepth 100000 in
set_option maxHeartbeats 4000000 in
theorem saved_row {w0 w : World} {p N q : Nat} {x : Pa} {n : Nt} {a : Option Addr} {c : Nat} (kv : Value) (HK : Keep w0 [] [] w) (HP : BoxAt w p (paV N x) 83) (hpl : w0.heap.size ≤ p) (hn : NtAt w0 N q n a c) {r : Nat} {n2 : Nt} {a2 : Option Addr} {c2 : Nat} (hx : x.does = some r) (ht : x.tells = none) (hr : NtAt w0 N r n2 a2 c2) : Calls Tryd.prog 29 #[kv, .pointer (some ⟨p, 0, none⟩), .pointer (some ⟨N, q, none⟩)] w (RetS w0 w p N (reasonN true (keptP n n2)) (x)) := by
  obtain ⟨RR, hRR⟩ : ∃ RR : Ending → World → Prop, RR = RetS w0 w p N (reasonN true (keptP n n2)) (x) := ⟨_, rfl⟩
  have FIN := Lib.hid (show ∀ r w', r = reasonN true (keptP n n2) → BoxAt w' p (paV N (x)) 83 → Only (fun j => j = p) w w' → Keep w0 [] [] w' → RR (.returned (.int .u8 (r : Int))) w' from fun r w' h1 h2 h3 h4 => by rw [hRR, h1]; exact ⟨rfl, h2, h3, h4⟩)
  rw [← hRR]
  have HN0 := Lib.hid hn
  obtain ⟨w9, hw9⟩ : ∃ w9, w9 = w := ⟨_, rfl⟩
  have HON : Only (fun j => j = p) w w9 := by rw [hw9]; exact Only.refl _ _
  rw [← hw9] at HK HP
  suffices hgo : Calls Tryd.prog 29 #[kv, .pointer (some ⟨p, 0, none⟩), .pointer (some ⟨N, q, none⟩)] w9 RR by rw [hw9] at hgo; exact hgo
  clear hw9 hRR hn
  go_enter Tryd.func29, Tryd.ntmps29
  refine wp_forget (n := 28) (L := [(2, .pointer (some ⟨N, q, none⟩)), (1, .pointer (some ⟨p, 0, none⟩)), (0, kv)]) (FrL.add (FrL.add (FrL.add (FrL.nil ?_ ?_) _ _ ?_) _ _ ?_) _ _ ?_) ?_
  iterate 5 rfl
  intro a9 F
  refine wp_seq ?_
  refine wp_region_lit ?_
  refine fr_ch F 1 [(6, .int .u8 0)] (by kernel_rfl) ?_
  clear F a9
  intro a9 F
  refine wpList_nil ?_
  show Code.wp _ _ _ _ _
  refine wp_seq ?_
  refine wp_region_lit ?_
  refine fr_ch F 3 [(10, .pointer (some ⟨p, 1, none⟩))] (by kernel_rfl) ?_
  clear F a9
  intro a9 F
  refine fr_do F (wanted_free rfl) 11 rfl (by decide) (.pointer (some ⟨N, r, none⟩)) (by intro a' F'; have h10 := F'.at' 10 _ rfl; have hc : w9.cell? ⟨p, 1, none⟩ = some (.pointer (some ⟨N, r, none⟩)) := (HP.cells 1).trans (congrArg (fun z => some (ptrN N z)) hx); go_simp) ?_
  clear F a9
  intro a9 F
  refine fr_ch F 2 [(13, .bool true), (12, .bool true)] (by kernel_rfl) ?_
  clear F a9
  intro a9 F
  refine fr_mv F (by rw [wanted_at F rfl (t := 13) (b := true) (by kernel_rfl) rfl]; rfl) 14 rfl (by decide) 1 rfl rfl ?_
  clear F a9
  intro a9 F
  refine fr_nc F (by rw [wanted_at F rfl (t := 13) (b := true) (by kernel_rfl) rfl]; rfl) 15 rfl (by decide) 14 rfl rfl ?_
  clear F a9
  intro a9 F
  refine fr_ch F 1 [(16, .pointer (some ⟨p, 4, none⟩))] (by kernel_rfl) ?_
  clear F a9
  intro a9 F
  refine fr_do F (by rw [wanted_at F rfl (t := 13) (b := true) (by kernel_rfl) rfl]; rfl) 17 rfl (by decide) (.pointer none) (by intro a' F'; have h16 := F'.at' 16 _ rfl; have hc : w9.cell? ⟨p, 4, none⟩ = some (.pointer none) := (HP.cells 4).trans (congrArg (fun z => some (ptrN N z)) ht); go_simp) ?_
  clear F a9
  intro a9 F
  refine fr_ch F 3 [(7, .bool true), (19, .bool true), (18, .bool true)] (by kernel_rfl) ?_
  clear F a9
  intro a9 F
  refine wpList_nil ?_
  show Code.wp _ _ _ _ _
  replace F := F.cut [(7, .bool true), (6, .int .u8 0), (2, .pointer (some ⟨N, q, none⟩)), (1, .pointer (some ⟨p, 0, none⟩)), (0, kv)] (by kernel_rfl)
  obtain ⟨bb, hbb⟩ : ∃ bb, keptP n n2 = bb := ⟨_, rfl⟩
  have HC := Lib.hid (show ∀ w9, Env w9 → BoxAt w9 p (paV N x) 83 → NtAt w9 N q n a c → NtAt w9 N r n2 a2 c2 → Calls Tryd.prog 53 #[.pointer (some ⟨p, 0, none⟩), .pointer (some ⟨N, q, none⟩)] w9 fun e w' => e = .returned (.bool bb) ∧ Below w9.heap.size w9 w' from fun w9 h1 h2 h3 h4 => by have h := order_kept h1 h2 hx h3 h4; rw [hbb] at h; exact h)
  refine wp_seq ?_
  refine wp_region_lit ?_
  refine fr_ch F 5 [(24, .pointer (some ⟨N, q, none⟩)), (23, .pointer (some ⟨p, 0, none⟩)), (22, .bool true), (20, .bool true)] (by kernel_rfl) ?_
  clear F a9
  intro a9 F
  refine fr_call F (by rw [wanted_at F rfl (t := 22) (b := true) (by kernel_rfl) rfl]; rfl) 25 rfl (by decide) 53 #[.pointer (some ⟨p, 0, none⟩), .pointer (some ⟨N, q, none⟩)] (by intro a' F'; have h23 := F'.at' 23 _ rfl; have h24 := F'.at' 24 _ rfl; go_simp) (HC.out _ HK.env HP (HN0.out.low HK.low) (hr.low HK.low)) ?_
  rintro e9 w8 ⟨rfl, hb8⟩
  replace HK := HK.below hb8
  replace HP := HP.below hb8
  replace HON := HON.then hb8
  clear hb8
  clear w9
  rename World => w9
  refine ⟨_, rfl, ?_⟩
  clear F a9
  intro a9 F
  refine fr_ch F 1 [(26, .bool bb)] (by kernel_rfl) ?_
  clear F a9
  intro a9 F
  refine fr_call F (wanted_free rfl) 27 rfl (by decide) 46 #[.bool true, .bool bb] (by intro a' F'; have h20 := F'.at' 20 _ rfl; have h26 := F'.at' 26 _ rfl; go_simp) (order_reason true bb w9) ?_
  rintro e9 w8 ⟨rfl, hb8⟩
  replace HK := HK.below hb8
  replace HP := HP.below hb8
  replace HON := HON.then hb8
  clear hb8
  clear w9
  rename World => w9
  refine ⟨_, rfl, ?_⟩
  clear F a9
  intro a9 F
  refine fr_as F (wanted_free rfl) 6 rfl (by decide) 27 rfl rfl ?_
  clear F a9
  intro a9 F
  refine wpList_nil ?_
  show Code.wp _ _ _ _ _
  refine wp_ret ?_
  exact fr_ret1 F rfl _ rfl (FIN.out _ _ (by rw [hbb]) HP HON HK)
set_option maxRecDepth 100000 in
set_option maxHeartbeats 4000000 in
theorem drops_puts {w0 w : World} {p N q : Nat} {x : Pa} {n : Nt} {a : Option Addr} {c : Nat} (kv : Value) (HK : Keep w0 [] [] w) (HP : BoxAt w p (paV N x) 83) (hpl : w0.heap.size ≤ p) (hn : NtAt w0 N q n a c) {r : Nat} (hx : x.routes = some r) {y : Nat} (hc : ∀ w, Keep w0 [] [] w → BoxAt w p (paV N x) 83 → Calls Tryd.prog 28 #[kv, .pointer (some ⟨p, 0, none⟩), .pointer (some ⟨N, q, none⟩)] w (RetS w0 w p N y x)) : Calls Tryd.prog 30 #[kv, .pointer (some ⟨p, 0, none⟩), .pointer (some ⟨N, q, none⟩)] w (RetS w0 w p N (y) (x)) := by
  obtain ⟨RR, hRR⟩ : ∃ RR : Ending → World → Prop, RR = RetS w0 w p N (y) (x) := ⟨_, rfl⟩
  have FIN := Lib.hid (show ∀ r w', r = y → BoxAt w' p (paV N (x)) 83 → Only (fun j => j = p) w w' → Keep w0 [] [] w' → RR (.returned (.int .u8 (r : Int))) w' from fun r w' h1 h2 h3 h4 => by rw [hRR, h1]; exact ⟨rfl, h2, h3, h4⟩)
  rw [← hRR]
  have HN0 := Lib.hid hn
  obtain ⟨w9, hw9⟩ : ∃ w9, w9 = w := ⟨_, rfl⟩
  have HON : Only (fun j => j = p) w w9 := by rw [hw9]; exact Only.refl _ _
  rw [← hw9] at HK HP
  suffices hgo : Calls Tryd.prog 30 #[kv, .pointer (some ⟨p, 0, none⟩), .pointer (some ⟨N, q, none⟩)] w9 RR by rw [hw9] at hgo; exact hgo
  clear hw9 hRR hn
  go_enter Tryd.func30, Tryd.ntmps30
  refine wp_forget (n := 20) (L := [(2, .pointer (some ⟨N, q, none⟩)), (1, .pointer (some ⟨p, 0, none⟩)), (0, kv)]) (FrL.add (FrL.add (FrL.add (FrL.nil ?_ ?_) _ _ ?_) _ _ ?_) _ _ ?_) ?_
  iterate 5 rfl
  intro a9 F
  refine wp_seq ?_
  refine wp_region_lit ?_
  refine fr_ch F 1 [(6, .int .u8 0)] (by kernel_rfl) ?_
  clear F a9
  intro a9 F
  refine wpList_nil ?_
  show Code.wp _ _ _ _ _
  have HC := Lib.hid hc
  refine wp_seq ?_
  refine wp_seq ?_
  refine wp_region_lit ?_
  refine fr_ch F 3 [(9, .pointer (some ⟨p, 2, none⟩))] (by kernel_rfl) ?_
  clear F a9
  intro a9 F
  refine fr_do F (wanted_free rfl) 10 rfl (by decide) (.pointer (some ⟨N, r, none⟩)) (by intro a' F'; have h9 := F'.at' 9 _ rfl; have hc : w9.cell? ⟨p, 2, none⟩ = some (.pointer (some ⟨N, r, none⟩)) := (HP.cells 2).trans (congrArg (fun z => some (ptrN N z)) hx); go_simp) ?_
  clear F a9
  intro a9 F
  refine fr_ch F 1 [(11, .bool true)] (by kernel_rfl) ?_
  clear F a9
  intro a9 F
  refine wpList_nil ?_
  show Code.wp _ _ _ _ _
  refine wp_cond_true (F.ev 11 rfl) ?_
  refine wp_seq ?_
  refine wp_region_lit ?_
  refine fr_mv F (wanted_free rfl) 12 rfl (by decide) 0 rfl rfl ?_
  clear F a9
  intro a9 F
  refine fr_mv F (wanted_free rfl) 13 rfl (by decide) 1 rfl rfl ?_
  clear F a9
  intro a9 F
  refine fr_mv F (wanted_free rfl) 14 rfl (by decide) 2 rfl rfl ?_
  clear F a9
  intro a9 F
  refine fr_call F (wanted_free rfl) 15 rfl (by decide) 28 #[kv, .pointer (some ⟨p, 0, none⟩), .pointer (some ⟨N, q, none⟩)] (by intro a' F'; have h12 := F'.at' 12 _ rfl; have h13 := F'.at' 13 _ rfl; have h14 := F'.at' 14 _ rfl; go_simp) (HC.out _ HK HP) ?_
  rintro e9 w8 ⟨rfl, h1, h2, h3⟩
  replace HP := h1
  replace HON := HON.trans h2 (fun j _ h => h)
  replace HK := h3
  clear h1 h2 h3
  clear w9
  rename World => w9
  refine ⟨_, rfl, ?_⟩
  clear F a9
  intro a9 F
  refine fr_as F (wanted_free rfl) 6 rfl (by decide) 15 rfl rfl ?_
  clear F a9
  intro a9 F
  refine wpList_nil ?_
  show Code.wp _ _ _ _ _
  refine wp_ret ?_
  exact fr_ret1 F rfl _ rfl (FIN.out _ _ (rfl) HP HON HK)
set_option maxRecDepth 100000 in
set_option maxHeartbeats 4000000 in
theorem drops_saved {w0 w : World} {p N q : Nat} {x : Pa} {n : Nt} {a : Option Addr} {c : Nat} (kv : Value) (HK : Keep w0 [] [] w) (HP : BoxAt w p (paV N x) 83) (hpl : w0.heap.size ≤ p) (hn : NtAt w0 N q n a c) (hx : x.routes = none) {y : Nat} (hc : ∀ w, Keep w0 [] [] w → BoxAt w p (paV N x) 83 → Calls Tryd.prog 29 #[kv, .pointer (some ⟨p, 0, none⟩), .pointer (some ⟨N, q, none⟩)] w (RetS w0 w p N y x)) : Calls Tryd.prog 30 #[kv, .pointer (some ⟨p, 0, none⟩), .pointer (some ⟨N, q, none⟩)] w (RetS w0 w p N (y) (x)) := by
  obtain ⟨RR, hRR⟩ : ∃ RR : Ending → World → Prop, RR = RetS w0 w p N (y) (x) := ⟨_, rfl⟩
  have FIN := Lib.hid (show ∀ r w', r = y → BoxAt w' p (paV N (x)) 83 → Only (fun j => j = p) w w' → Keep w0 [] [] w' → RR (.returned (.int .u8 (r : Int))) w' from fun r w' h1 h2 h3 h4 => by rw [hRR, h1]; exact ⟨rfl, h2, h3, h4⟩)
  rw [← hRR]
  have HN0 := Lib.hid hn
  obtain ⟨w9, hw9⟩ : ∃ w9, w9 = w := ⟨_, rfl⟩
  have HON : Only (fun j => j = p) w w9 := by rw [hw9]; exact Only.refl _ _
  rw [← hw9] at HK HP
  suffices hgo : Calls Tryd.prog 30 #[kv, .pointer (some ⟨p, 0, none⟩), .pointer (some ⟨N, q, none⟩)] w9 RR by rw [hw9] at hgo; exact hgo
  clear hw9 hRR hn
  go_enter Tryd.func30, Tryd.ntmps30
  refine wp_forget (n := 20) (L := [(2, .pointer (some ⟨N, q, none⟩)), (1, .pointer (some ⟨p, 0, none⟩)), (0, kv)]) (FrL.add (FrL.add (FrL.add (FrL.nil ?_ ?_) _ _ ?_) _ _ ?_) _ _ ?_) ?_
  iterate 5 rfl
  intro a9 F
  refine wp_seq ?_
  refine wp_region_lit ?_
  refine fr_ch F 1 [(6, .int .u8 0)] (by kernel_rfl) ?_
  clear F a9
  intro a9 F
  refine wpList_nil ?_
  show Code.wp _ _ _ _ _
  have HC := Lib.hid hc
  refine wp_seq ?_
  refine wp_seq ?_
  refine wp_region_lit ?_
  refine fr_ch F 3 [(9, .pointer (some ⟨p, 2, none⟩))] (by kernel_rfl) ?_
  clear F a9
  intro a9 F
  refine fr_do F (wanted_free rfl) 10 rfl (by decide) (.pointer none) (by intro a' F'; have h9 := F'.at' 9 _ rfl; have hc : w9.cell? ⟨p, 2, none⟩ = some (.pointer none) := (HP.cells 2).trans (congrArg (fun z => some (ptrN N z)) hx); go_simp) ?_
  clear F a9
  intro a9 F
  refine fr_ch F 1 [(11, .bool false)] (by kernel_rfl) ?_
  clear F a9
  intro a9 F
  refine wpList_nil ?_
  show Code.wp _ _ _ _ _
  refine wp_cond_false (F.ev 11 rfl) ?_
  refine wp_skip ?_
  show Code.wp _ _ _ _ _
  refine wp_seq ?_
  refine wp_region_lit ?_
  refine fr_mv F (wanted_free rfl) 16 rfl (by decide) 0 rfl rfl ?_
  clear F a9
  intro a9 F
  refine fr_mv F (wanted_free rfl) 17 rfl (by decide) 1 rfl rfl ?_
  clear F a9
  intro a9 F
  refine fr_mv F (wanted_free rfl) 18 rfl (by decide) 2 rfl rfl ?_
  clear F a9
  intro a9 F
  refine fr_call F (wanted_free rfl) 19 rfl (by decide) 29 #[kv, .pointer (some ⟨p, 0, none⟩), .pointer (some ⟨N, q, none⟩)] (by intro a' F'; have h16 := F'.at' 16 _ rfl; have h17 := F'.at' 17 _ rfl; have h18 := F'.at' 18 _ rfl; go_simp) (HC.out _ HK HP) ?_
  rintro e9 w8 ⟨rfl, h1, h2, h3⟩
  replace HP := h1
  replace HON := HON.trans h2 (fun j _ h => h)
  replace HK := h3
  clear h1 h2 h3
  clear w9
  rename World => w9
  refine ⟨_, rfl, ?_⟩
  clear F a9
  intro a9 F
  refine fr_as F (wanted_free rfl) 6 rfl (by decide) 19 rfl rfl ?_
  clear F a9
  intro a9 F
  refine wpList_nil ?_
  show Code.wp _ _ _ _ _
  refine wp_ret ?_
  exact fr_ret1 F rfl _ rfl (FIN.out _ _ (rfl) HP HON HK)
end Go.Proofs.YtmppkgonkkffhaaDoor

