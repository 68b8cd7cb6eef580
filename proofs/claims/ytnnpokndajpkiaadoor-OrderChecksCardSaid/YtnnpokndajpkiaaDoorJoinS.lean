import Derived.Test.YtnnpokndajpkiaaDoorJoinR
namespace Go.Proofs.YtnnpokndajpkiaaDoor
open Go.RowKit
section
variable {P : Program} {ops : Array Oper} {a : Act} {w : World} {n : Nat} {L : List (Nat × Value)} {o : Oper}
theorem fr_retC {fn : Func} {R' : Ending → World → Prop} (F : FrL n L a) {p : Nat} {ty : TypeId} (h : fn.results = #[.cell p ty]) {X : Nat} {cs : Array Value} {T : TypeId} {d : TypeDesc}
    (hp : L.lookup p = some (.pointer (some ⟨X, 0, none⟩))) (hb : BoxAt w X cs T) (hu : P.underlying ty = some d) (hd : (match d with | .struct _ | .array _ _ => true | _ => false) = true) (hi : (P.info? ty).map (·.size) = some cs.size)
    (hR : R' (.returned (.agg cs)) w) : bodyPost P fn R' .ret a w := by
  refine bodyPost_ret ?_ F.defers hR; have hp' : a.tmps[p]? = some (.pointer (some ⟨X, 0, none⟩)) := F.at' p _ hp; simp [results, h, hp', asAddr, run_loadVar_row w X T ty cs (0, 0) d hb hu hd hi]
theorem run_slice3 {ρ : Operand → Value} (t e : TypeId) (x y z : Operand) (ho : o.op = .buildSlice t 3 #[(0, x), (1, y), (2, z)]) (c0 c1 c2 cells : Array Value) (hx : ρ x = .agg c0) (hy : ρ y = .agg c1) (hz0 : ρ z = .agg c2) (ie : TypeInfo) (zz : Value)
    (hu : P.underlying t = some (.slice e)) (hie : P.info? e = some ie) (hz : ie.zero = some zz) (hsmall : ¬ 3 * ie.size > 2 ^ 24) (hpos : ¬ 3 * ie.size = 0)
    (h : Instr.fill (fun i => some (i * ie.size, ie.size)) ((Array.range (3 * ie.size)).map (zz.cells[· % zz.cells.size]!)) [(0, .agg c0), (1, .agg c1), (2, .agg c2)] = some cells) :
    (execOp ρ o).run P w = .ok (.value (.slice (some ⟨w.heap.size, 0, none⟩) 3 3)) (w.alloc (.cells cells e)) := by
  have hr := run_buildSlice (P := P) w t e 3 #[(0, .agg c0), (1, .agg c1), (2, .agg c2)] cells ie zz hu hie hz hsmall hpos h; unfold execOp; simp only [ho, List.map_toArray, List.map_cons, List.map_nil, hx, hy, hz0, Sem.run_bind, hr, Result.andThen_ok, Sem.run_pure]
end
def xB : ByteArray := ⟨#[120]⟩
def helloP : Pk := { Pk.zero with ty := 1, level := 4, clean := true, client := xB }
def helloN (kind : Nat) (op conn : Int) : Nt := { Nt.zero with kind := kind, op := op, conn := conn, client := xB, p := helloP }
def tellsX : Nt := { Nt.zero with kind := 3, op := 1, conn := 1, client := xB }
def smallT : List NtE := [(helloN 1 1 1, none, 0), (helloN 2 1 1, none, 0), (tellsX, none, 0)]
set_option maxRecDepth 100000 in
set_option maxHeartbeats 4000000 in
theorem law26_hello {w : World} (hE : Env w) (kind : Nat) (op conn : Int) : Calls Tryd.prog 21 #[.int .u8 (kind : Int), .int .i64 op, .int .i64 conn] w fun e w' => e = .returned (.agg (ntV (helloN kind op conn) none 0)) ∧ Below w.heap.size w w' := by
  obtain ⟨RR, hRR⟩ : ∃ RR : Ending → World → Prop, RR = fun e w' => e = .returned (.agg (ntV (helloN kind op conn) none 0)) ∧ Below w.heap.size w w' := ⟨_, rfl⟩
  have FIN := Lib.hid (show ∀ w', Below w.heap.size w w' → RR (.returned (.agg (ntV (helloN kind op conn) none 0))) w' from fun w' hb => by rw [hRR]; exact ⟨rfl, hb⟩); rw [← hRR]; obtain ⟨w9, hw9⟩ : ∃ w9, w9 = w := ⟨_, rfl⟩
  have HK : Keep w [] [] w9 := by rw [hw9]; exact Keep.begin hE _ (by intro r hr; cases hr)
  suffices hgo : Calls Tryd.prog 21 #[.int .u8 (kind : Int), .int .i64 op, .int .i64 conn] w9 RR by rw [hw9] at hgo; exact hgo
  clear hw9 hRR hE; go_enter Tryd.func21, Tryd.ntmps21
  refine wp_forget (n := 12) (L := [(2, .int .i64 conn), (1, .int .i64 op), (0, .int .u8 (kind : Int))]) (FrL.add (FrL.add (FrL.add (FrL.nil ?_ ?_) _ _ ?_) _ _ ?_) _ _ ?_) ?_; iterate 5 rfl
  intro a9 F; refine wp_seq ?_; refine wp_region_lit ?_; obtain ⟨i0, hi, hz0, hz1, hz2⟩ := info_parts infoNtR; refine fr_alloc F HK 6 (by decide) rfl 53 rfl rfl i0 _ hi hz0 ?_; rintro X a10 w10 hX F' HK' hb; clear HK F hb hX hi hz0 hz1 hz2 i0; clear a9 w9; rename World => w9
  rename Act => a9
  have HK := HK'; have F := F'; clear HK' F'; replace HK : Keep w [(X, (ntV Nt.zero none 0), 53)] [] w9 := HK; refine wpList_nil ?_; show Code.wp _ _ _ _ _; refine wp_seq ?_; refine wp_region_lit ?_; refine fr_mv F (wanted_free rfl) 7 rfl (by decide) 0 rfl rfl ?_; clear F a9; intro a9 F; refine fr_mv F (wanted_free rfl) 8 rfl (by decide) 1 rfl rfl ?_; clear F a9; intro a9 F; refine fr_mv F (wanted_free rfl) 9 rfl (by decide) 2 rfl rfl ?_; clear F a9; intro a9 F; refine fr_ch F 2 [(11, .agg (ntV (helloN kind op conn) none 0)), (10, .agg (pkV helloP none 0))] (by kernel_rfl) ?_; clear F a9; intro a9 F; refine fr_storeO F HK 0 rfl rfl rfl 53 (.tmp 6) (.tmp 11) rfl (ntV (helloN kind op conn) none 0) (fun a' F' => F'.ev 6 rfl) (fun a' F' => F'.ev 11 rfl) infoNt rfl (nt_one _ _ _) ?_; intro a10 w10 F' HK' HO; clear HK F HO; clear a9 w9; rename World => w9
  rename Act => a9
  have HK := HK'; have F := F'; clear HK' F'; replace HK : Keep w [(X, (ntV (helloN kind op conn) none 0), 53)] [] w9 := HK; refine wpList_nil ?_; show Code.wp _ _ _ _ _; refine wp_ret ?_; exact fr_retC F rfl rfl (HK.at 0 rfl) Tryd.underlying53 rfl infoNt (FIN.out _ HK.low)
set_option maxRecDepth 100000 in
set_option maxHeartbeats 4000000 in
theorem law26_small {w : World} (hE : Env w) : Calls Tryd.prog 20 #[] w fun e w' => ∃ N, e = .returned (.slice (some ⟨N, 0, none⟩) 3 3) ∧ w'.ownsRow w.heap.size 53 35 (.slice (some ⟨N, 0, none⟩) 3 3) 3 (ntCells smallT) ∧ Below w.heap.size w w' := by
  obtain ⟨RR, hRR⟩ : ∃ RR : Ending → World → Prop, RR = fun e w' => ∃ N, e = .returned (.slice (some ⟨N, 0, none⟩) 3 3) ∧ w'.ownsRow w.heap.size 53 35 (.slice (some ⟨N, 0, none⟩) 3 3) 3 (ntCells smallT) ∧ Below w.heap.size w w' := ⟨_, rfl⟩
  have FIN := Lib.hid (show ∀ w' N, w'.ownsRow w.heap.size 53 35 (.slice (some ⟨N, 0, none⟩) 3 3) 3 (ntCells smallT) → Below w.heap.size w w' → RR (.returned (.slice (some ⟨N, 0, none⟩) 3 3)) w' from fun w' N h1 h2 => by rw [hRR]; exact ⟨N, rfl, h1, h2⟩); rw [← hRR]; obtain ⟨w9, hw9⟩ : ∃ w9, w9 = w := ⟨_, rfl⟩
  have HK : Keep w [] [] w9 := by rw [hw9]; exact Keep.begin hE _ (by intro r hr; cases hr)
  suffices hgo : Calls Tryd.prog 20 #[] w9 RR by rw [hw9] at hgo; exact hgo
  clear hw9 hRR hE; go_enter Tryd.func20, Tryd.ntmps20
  refine wp_forget (n := 5) (L := []) (FrL.nil ?_ ?_) ?_; iterate 2 rfl
  intro a9 F; refine wp_seq ?_; refine wp_region_lit ?_; refine fr_ch F 1 [(0, .slice none 0 0)] (by kernel_rfl) ?_; clear F a9; intro a9 F; refine wpList_nil ?_; show Code.wp _ _ _ _ _; refine wp_seq ?_; refine wp_region_lit ?_; refine fr_call F (wanted_free rfl) 1 rfl (by decide) 21 #[.int .u8 1, .int .i64 1, .int .i64 1] (by intro a' F'; go_simp) (law26_hello HK.env 1 1 1) ?_; rintro e9 w8 ⟨rfl, hb8⟩; replace HK := HK.below hb8; clear hb8; clear w9; rename World => w9
  refine ⟨_, rfl, ?_⟩; clear F a9; intro a9 F; refine fr_call F (wanted_free rfl) 2 rfl (by decide) 21 #[.int .u8 2, .int .i64 1, .int .i64 1] (by intro a' F'; go_simp) (law26_hello HK.env 2 1 1) ?_; rintro e9 w8 ⟨rfl, hb8⟩; replace HK := HK.below hb8; clear hb8; clear w9; rename World => w9
  refine ⟨_, rfl, ?_⟩; clear F a9; intro a9 F; refine fr_ch F 1 [(3, .agg (ntV tellsX none 0))] (by kernel_rfl) ?_; clear F a9; intro a9 F; obtain ⟨i0, hi, hz0, hz1, hz2⟩ := info_parts infoNtR; refine fr_doW F (wanted_free rfl) 4 rfl (by decide) (.slice (some ⟨w9.heap.size, 0, none⟩) 3 3) (w9.alloc (.cells (ntCells smallT).toArray 53)) (fun a' F' => run_slice3 22 53 _ _ _ rfl _ _ _ _ (F'.ev 1 rfl) (F'.ev 2 rfl) (F'.ev 3 rfl) i0 _ Tryd.underlying22 hi hz0 (by rw [hz1]; decide) (by rw [hz1]; decide) (by rw [hz1]; kernel_rfl)) ?_; clear F a9; intro a9 F; refine fr_as F (wanted_free rfl) 0 rfl (by decide) 4 rfl rfl ?_; clear F a9; intro a9 F; refine wpList_nil ?_; show Code.wp _ _ _ _ _; have hown : (w9.alloc (.cells (ntCells smallT).toArray 53)).ownsRow w.heap.size 53 35 (.slice (some ⟨w9.heap.size, 0, none⟩) 3 3) 3 (ntCells smallT) := ⟨rfl, Or.inr ⟨_, _, _, rfl, HK.size, heap_alloc_new w9 _, by decide, by unfold maxLen; omega, rfl, rfl⟩⟩
  have hb8 : Below w9.heap.size w9 (w9.alloc (.cells (ntCells smallT).toArray 53)) := (Below.refl _ _).alloc (Nat.le_refl _) _; refine wp_ret ?_; exact fr_ret1 F rfl _ rfl (FIN.out _ _ hown (HK.low.trans (hb8.mono HK.low.size)))
end Go.Proofs.YtnnpokndajpkiaaDoor
namespace Go.Proofs.YtnnpokndajpkiaaDoor
open Go.RowKit
theorem infoIn : (Tryd.prog.info? 3).map (fun i => (i.zero, i.size, i.bytes)) = some (some (.int .i64 0), 1, 8) := by kernel_rfl
section
variable {P : Program} {w : World} {o : Oper}
theorem run_int1 {ρ : Operand → Value} (t e : TypeId) (x : Operand) (ho : o.op = .buildSlice t 1 #[(0, x)]) (k : Int) (hx : ρ x = .int .i64 k) (ie : TypeInfo) (zz : Value)
    (hu : P.underlying t = some (.slice e)) (hie : P.info? e = some ie) (hz : ie.zero = some zz) (hsmall : ¬ 1 * ie.size > 2 ^ 24) (hpos : ¬ 1 * ie.size = 0)
    (h : Instr.fill (fun i => some (i * ie.size, ie.size)) ((Array.range (1 * ie.size)).map (zz.cells[· % zz.cells.size]!)) [(0, .int .i64 k)] = some #[.int .i64 k]) :
    (execOp ρ o).run P w = .ok (.value (.slice (some ⟨w.heap.size, 0, none⟩) 1 1)) (w.alloc (.cells [Value.int .i64 k].toArray e)) := by
  have hr := run_buildSlice (P := P) w t e 1 #[(0, .int .i64 k)] #[.int .i64 k] ie zz hu hie hz hsmall hpos h; unfold execOp; simp only [ho, List.map_toArray, List.map_cons, List.map_nil, hx, Sem.run_bind, hr, Result.andThen_ok, Sem.run_pure]
end
def intsI (L : List Int) : List Value := L.map (fun i => Value.int .i64 i)
def opsL (l : List Nt) : List Int := (l.filter (fun n => decide (n.kind = 2))).map (·.op)
theorem opsL_snoc (l : List Nt) (n : Nt) : opsL (l ++ [n]) = opsL l ++ (if n.kind = 2 then [n.op] else []) := by
  unfold opsL; rw [List.filter_append, List.map_append]; congr 1; by_cases h : n.kind = 2
  · rw [if_pos h, List.filter_cons, if_pos (decide_eq_true h)]; rfl
  · rw [if_neg h, List.filter_cons, if_neg (by rw [decide_eq_false h]; decide)]; rfl
theorem opsL_len (l : List Nt) : (opsL l).length ≤ l.length := by unfold opsL; rw [List.length_map]; exact List.length_filter_le _ _
theorem intsI_one (L : List Int) : ∀ u ∈ intsI L, u.oneCell' = true := by
  intro u hu; obtain ⟨n, _, rfl⟩ := List.mem_map.1 hu; rfl
set_option maxRecDepth 100000 in
set_option maxHeartbeats 4000000 in
theorem order_Row {w : World} (hE : Env w) (T : List NtE) (a : Option Addr) (c : Nat) (hc : CellsA w a (ntCells T)) (hlen : T.length ≤ 1000000) : Calls Tryd.prog 22 #[.slice a T.length c] w fun e w' => ∃ v, e = .returned v ∧ w'.ownsRow w.heap.size 3 1 v (opsL (T.map (·.1))).length (intsI (opsL (T.map (·.1)))) ∧ Below w.heap.size w w' := by
  obtain ⟨RR, hRR⟩ : ∃ RR : Ending → World → Prop, RR = fun e w' => ∃ v, e = .returned v ∧ w'.ownsRow w.heap.size 3 1 v (opsL (T.map (·.1))).length (intsI (opsL (T.map (·.1)))) ∧ Below w.heap.size w w' := ⟨_, rfl⟩
  have FIN := Lib.hid (show ∀ v w', w'.ownsRow w.heap.size 3 1 v (opsL (T.map (·.1))).length (intsI (opsL (T.map (·.1)))) → Below w.heap.size w w' → RR (.returned v) w' from fun v w' h1 h2 => by rw [hRR]; exact ⟨v, rfl, h1, h2⟩); rw [← hRR]; obtain ⟨N, o0, hlog⟩ := log_at hc; have HL := Lib.hid hlog; obtain ⟨w9, hw9⟩ : ∃ w9, w9 = w := ⟨_, rfl⟩
  have HK : Keep w [] [] w9 := by rw [hw9]; exact Keep.begin hE _ (by intro r hr; cases hr)
  suffices hgo : Calls Tryd.prog 22 #[.slice a T.length c] w9 RR by rw [hw9] at hgo; exact hgo
  clear hw9 hRR hE hc hlog; go_enter Tryd.func22, Tryd.ntmps22
  refine wp_forget (n := 22) (L := [(0, .slice a T.length c)]) (FrL.add (FrL.nil ?_ ?_) _ _ ?_) ?_; iterate 3 rfl
  intro a9 F; refine wp_seq ?_; refine wp_region_lit ?_; refine fr_ch F 1 [(2, .slice none 0 0)] (by kernel_rfl) ?_; clear F a9; intro a9 F; refine wpList_nil ?_; show Code.wp _ _ _ _ _; refine wp_seq ?_; refine wp_region_lit ?_; refine fr_ch F 1 [(3, .slice none 0 0)] (by kernel_rfl) ?_; clear F a9; intro a9 F; refine wpList_nil ?_; show Code.wp _ _ _ _ _; refine wp_seq ?_; refine wp_seq ?_; refine wp_region_lit ?_; refine fr_ch F 3 [(8, .int .i64 0), (7, .int .i64 (T.length : Int)), (6, .slice a T.length c)] (by kernel_rfl) ?_; clear F a9; intro a9 F; refine wpList_nil ?_; show Code.wp _ _ _ _ _; replace F := F.cut [(8, .int .i64 ((0 : Nat) : Int)), (7, .int .i64 (T.length : Int)), (6, .slice a T.length c), (3, .slice none 0 0)] (by kernel_rfl); refine wp_block_end (fun a' w' => ∃ v, (∃ kk : Nat, FrL 22 [(8, .int .i64 (kk : Int)), (7, .int .i64 (T.length : Int)), (6, .slice a T.length c), (3, v)] a') ∧ w'.ownsRow w.heap.size 3 1 v (opsL ((T.map (·.1)).take (T.length))).length (intsI (opsL ((T.map (·.1)).take (T.length)))) ∧ Keep w [] [] w') ?_ ?_
  ·
   refine wp_loop (fun a' w' => ∃ k : Nat, k ≤ T.length ∧ ∃ v, FrL 22 [(8, .int .i64 (k : Int)), (7, .int .i64 (T.length : Int)), (6, .slice a T.length c), (3, v)] a' ∧ w'.ownsRow w.heap.size 3 1 v (opsL ((T.map (·.1)).take (k))).length (intsI (opsL ((T.map (·.1)).take (k)))) ∧ Keep w [] [] w') (fun a' _ => muI T.length 8 a') ⟨0, Nat.zero_le _, .slice none 0 0, F, World.ownsRow_nil _ _ _ _, HK⟩ ?_; clear F a9 HK w9; rintro a9 w9 ⟨k, hk, v, F, HO, HK⟩; rw [muI_at F 8 k rfl]; refine wp_seq ?_; by_cases hlt : k < T.length
   ·
    refine wp_region_lit ?_; refine fr_do F (wanted_free rfl) 9 rfl (by decide) (.bool true) (by intro a' F'; have h8 := F'.at' 8 _ rfl; have h7 := F'.at' 7 _ rfl; go_simp) ?_; clear F a9; intro a9 F; refine wpList_nil ?_; show Code.wp _ _ _ _ _; refine wp_seq ?_; refine wp_cond_true (F.ev 9 rfl) ?_; refine wp_skip ?_; show Code.wp _ _ _ _ _; replace F := F.cut [(8, .int .i64 (k : Int)), (7, .int .i64 (T.length : Int)), (6, .slice a T.length c), (3, v)] (by kernel_rfl); obtain ⟨x, hx⟩ : ∃ x, T[k]? = some x := ⟨_, List.getElem?_eq_getElem hlt⟩
    obtain ⟨hal, hn⟩ := HL.out k x hx; obtain ⟨n, an, cn⟩ := x; simp only at hn
    obtain ⟨q, hq⟩ : ∃ q, o0 + k * 35 = q := ⟨_, rfl⟩
    rw [hq] at hn; have htk : (T.map (·.1)).take (k + 1) = (T.map (·.1)).take k ++ [n] := by
      rw [List.take_add_one, List.getElem?_map, hx]; rfl
    have hsn := opsL_snoc ((T.map (·.1)).take k) n; rw [← htk] at hsn; have hln := opsL_len ((T.map (·.1)).take k); have hln2 : ((T.map (·.1)).take k).length ≤ T.length := by rw [List.length_take, List.length_map]; exact Nat.min_le_right _ _
    have HN := Lib.hid (fun w9 (h : Below w.heap.size w w9) => hn.low h); clear hn; refine wp_seq ?_; refine wp_block_end (fun a' w' => ∃ v, FrL 22 [(8, .int .i64 (k : Int)), (7, .int .i64 (T.length : Int)), (6, .slice a T.length c), (3, v)] a' ∧ w'.ownsRow w.heap.size 3 1 v (opsL ((T.map (·.1)).take (k + 1))).length (intsI (opsL ((T.map (·.1)).take (k + 1)))) ∧ Keep w [] [] w') ?_ ?_
    ·
     refine wp_seq ?_; refine wp_region_lit ?_; refine fr_do F (wanted_free rfl) 10 rfl (by decide) (.pointer (some ⟨N, q, none⟩)) (by intro a' F'; have h6 := F'.at' 6 _ rfl; have h8 := F'.at' 8 _ rfl; go_simp) ?_; clear F a9; intro a9 F; refine fr_do F (wanted_free rfl) 11 rfl (by decide) (.agg (ntV n an cn)) (fun a' F' => run_load_midF 53 _ rfl N q (F'.ev 10 rfl) (ntV n an cn).toList _ (HN.out _ HK.low) Tryd.underlying53 rfl infoNt) ?_; clear F a9; intro a9 F; obtain ⟨i0, hi, hz0, hz1, hz2⟩ := info_parts infoNtR; refine fr_new F HK 5 (by decide) rfl 53 rfl rfl rfl (.tmp 11) rfl rfl i0 _ hi hz0 (cells := (ntV n an cn)) hz1 rfl (nt_one _ _ _) (fun a' Y F' => F'.ev 11 rfl) ?_; rintro V a10 w10 hX F' HK' hb; replace HO := own_only HO (Only.of_below hb (fun _ => False)) (fun _ _ h => h); clear HK F hb hX hi hz0 hz1 hz2 i0; clear a9 w9; rename World => w9
     rename Act => a9
     have HK := HK'; have F := F'; clear HK' F'; replace HK : Keep w [(V, (ntV n an cn), 53)] [] w9 := HK; refine wpList_nil ?_; show Code.wp _ _ _ _ _; replace F := F.cut [(8, .int .i64 (k : Int)), (7, .int .i64 (T.length : Int)), (6, .slice a T.length c), (5, .pointer (some ⟨V, 0, none⟩)), (3, v)] (by kernel_rfl); by_cases hkd : n.kind = 2
     ·
      refine wp_seq ?_; refine wp_region_lit ?_; refine fr_ch F 1 [(12, .pointer (some ⟨V, 0, none⟩))] (by kernel_rfl) ?_; clear F a9; intro a9 F; refine fr_do F (wanted_free rfl) 13 rfl (by decide) (.int .u8 (n.kind : Int)) (by intro a' F'; have hc : w9.cell? ⟨V, 0, none⟩ = some (.int .u8 (n.kind : Int)) := (HK.at 0 rfl).cells 0; have h12 := F'.at' 12 _ rfl; go_simp) ?_; clear F a9; intro a9 F; refine fr_do F (wanted_free rfl) 14 rfl (by decide) (.bool true) (by intro a' F'; have h13 := F'.at' 13 _ rfl; go_simp) ?_; clear F a9; intro a9 F; refine wpList_nil ?_; show Code.wp _ _ _ _ _; refine wp_cond_true (F.ev 14 rfl) ?_; replace F := F.cut [(8, .int .i64 (k : Int)), (7, .int .i64 (T.length : Int)), (6, .slice a T.length c), (5, .pointer (some ⟨V, 0, none⟩)), (3, v)] (by kernel_rfl); refine wp_region_lit ?_; refine fr_ch F 2 [(16, .pointer (some ⟨V, 1, none⟩)), (15, v)] (by kernel_rfl) ?_; clear F a9; intro a9 F; refine fr_do F (wanted_free rfl) 17 rfl (by decide) (.int .i64 n.op) (by intro a' F'; have hc : w9.cell? ⟨V, 1, none⟩ = some (.int .i64 n.op) := (HK.at 0 rfl).cells 1; have h16 := F'.at' 16 _ rfl; go_simp) ?_; clear F a9; intro a9 F; obtain ⟨i0, hi, hz0, hz1, hz2⟩ := info_parts infoIn; refine fr_doW F (wanted_free rfl) 18 rfl (by decide) (.slice (some ⟨w9.heap.size, 0, none⟩) 1 1) (w9.alloc (.cells [Value.int .i64 n.op].toArray 3)) (fun a' F' => run_int1 55 3 _ rfl n.op (F'.ev 17 rfl) i0 _ Tryd.underlying55 hi hz0 (by rw [hz1]; decide) (by rw [hz1]; decide) (by rw [hz1]; kernel_rfl)) ?_; clear F a9; intro a9 F; have hb8 : Below w9.heap.size w9 (w9.alloc (.cells [Value.int .i64 n.op].toArray 3)) := (Below.refl _ _).alloc (Nat.le_refl _) _; have hnr : CellsA (w9.alloc (.cells [Value.int .i64 n.op].toArray 3)) (some ⟨w9.heap.size, 0, none⟩) (intsI [n.op]) := cells_new; replace HK := HK.below hb8; replace HO := own_only HO (Only.of_below hb8 (fun _ => False)) (fun _ _ h => h); obtain ⟨Z, hZ⟩ : ∃ Z, w9.heap.size = Z := ⟨_, rfl⟩
      rw [hZ] at hnr F; clear hb8 hZ; generalize w9.alloc (.cells [Value.int .i64 n.op].toArray 3) = w8 at *; clear w9; rename World => w9
      refine fr_appendP F rfl 19 rfl (by decide) (.tmp 15) (.tmp 18) 55 rfl w.heap.size 3 i0 _ 1 8 Tryd.underlying55 hi hz0 hz1 hz2 rfl (by decide) v (opsL ((T.map (·.1)).take (k))).length _ (F.ev 15 rfl) HO (some ⟨Z, 0, none⟩) 1 1 (fun h => by cases h) (intsI [n.op]) (F.ev 18 rfl) rfl hnr (intsI_one _) (by unfold maxLen; omega) (by omega) HK.low.size ?_; intro v8 w8 hown hgr; clear hi hz0 hz1 hz2 i0 hnr; have HK2 := HK.grownBoxM HO (Nat.le_refl _) hgr (by
        intro z hz; rw [List.mem_singleton.1 hz]; exact (by decide : 53 ≠ 3))
      clear HK HO hgr; have HK := HK2; clear HK2; clear w9; rename World => w9
      clear F a9; intro a9 F; replace HK : Keep w [(V, (ntV n an cn), 53)] [] w9 := HK; refine fr_as F (wanted_free rfl) 3 rfl (by decide) 19 rfl rfl ?_; clear F a9; intro a9 F; refine wpList_nil ?_; rw [if_pos hkd] at hsn; have hown2 : w9.ownsRow w.heap.size 3 1 v8 (opsL ((T.map (·.1)).take (k + 1))).length (intsI (opsL ((T.map (·.1)).take (k + 1)))) := by
        rw [hsn, List.length_append]; unfold intsI; rw [List.map_append]; exact hown
      exact ⟨v8, (((((FrL.nil F.size F.defers).add 3 _ (F.at' 3 _ rfl)).add 6 _ (F.at' 6 _ rfl)).add 7 _ (F.at' 7 _ rfl)).add 8 _ (F.at' 8 _ rfl)), hown2, HK.sub (List.nil_sublist _) (fun r hr => hr)⟩
     ·
      refine wp_seq ?_; refine wp_region_lit ?_; refine fr_ch F 1 [(12, .pointer (some ⟨V, 0, none⟩))] (by kernel_rfl) ?_; clear F a9; intro a9 F; refine fr_do F (wanted_free rfl) 13 rfl (by decide) (.int .u8 (n.kind : Int)) (by intro a' F'; have hc : w9.cell? ⟨V, 0, none⟩ = some (.int .u8 (n.kind : Int)) := (HK.at 0 rfl).cells 0; have h12 := F'.at' 12 _ rfl; go_simp) ?_; clear F a9; intro a9 F; refine fr_do F (wanted_free rfl) 14 rfl (by decide) (.bool false) (by intro a' F'; have h13 := F'.at' 13 _ rfl; go_simp <;> omega) ?_; clear F a9; intro a9 F; refine wpList_nil ?_; show Code.wp _ _ _ _ _; refine wp_cond_false (F.ev 14 rfl) ?_; refine wp_skip ?_; rw [if_neg hkd, List.append_nil] at hsn; rw [← hsn] at HO; exact ⟨v, (((((FrL.nil F.size F.defers).add 3 _ (F.at' 3 _ rfl)).add 6 _ (F.at' 6 _ rfl)).add 7 _ (F.at' 7 _ rfl)).add 8 _ (F.at' 8 _ rfl)), HO, HK.sub (List.nil_sublist _) (fun r hr => hr)⟩
    · clear F a9 HO HK
      rintro a9 w8 ⟨v, F, HO, HK⟩; clear w9; rename World => w9
      show Code.wp _ _ _ _ _; refine wp_region_lit ?_; refine fr_do F (wanted_free rfl) 20 rfl (by decide) (.int .i64 ((k + 1 : Nat) : Int)) (by intro a' F'; have h8 := F'.at' 8 _ rfl; go_simp <;> (rw [IntKind.wrap_i64]; omega)) ?_; clear F a9; intro a9 F; refine fr_ch F 1 [(8, .int .i64 ((k + 1 : Nat) : Int))] (by kernel_rfl) ?_; clear F a9; intro a9 F; refine wpList_nil ?_; replace F := F.cut [(8, .int .i64 ((k + 1 : Nat) : Int)), (7, .int .i64 (T.length : Int)), (6, .slice a T.length c), (3, v)] (by kernel_rfl); refine ⟨⟨k + 1, by omega, v, F, HO, HK⟩, ?_⟩; rw [muI_at F 8 (k + 1) rfl]; omega
   · have hk2 : k = T.length := by omega
     subst hk2; refine wp_region_lit ?_; refine fr_do F (wanted_free rfl) 9 rfl (by decide) (.bool false) (by intro a' F'; have h8 := F'.at' 8 _ rfl; have h7 := F'.at' 7 _ rfl; go_simp) ?_; clear F a9; intro a9 F; refine wpList_nil ?_; show Code.wp _ _ _ _ _; refine wp_seq ?_; refine wp_cond_false (F.ev 9 rfl) ?_; refine wp_exit ?_; exact then_exit (then_exit (exit_in ⟨v, ⟨T.length, (((((FrL.nil F.size F.defers).add 3 _ (F.at' 3 _ rfl)).add 6 _ (F.at' 6 _ rfl)).add 7 _ (F.at' 7 _ rfl)).add 8 _ (F.at' 8 _ rfl))⟩, HO, HK⟩))
  · clear F a9 HK
    rintro a9 w8 ⟨v, ⟨kk, F⟩, HO, HK⟩; clear w9; rename World => w9
    show Code.wp _ _ _ _ _; refine wp_seq ?_; refine wp_region_lit ?_; refine fr_mv F (wanted_free rfl) 21 rfl (by decide) 3 rfl rfl ?_; clear F a9; intro a9 F; refine fr_as F (wanted_free rfl) 2 rfl (by decide) 21 rfl rfl ?_; clear F a9; intro a9 F; refine wpList_nil ?_; show Code.wp _ _ _ _ _; rw [List.take_of_length_le (by rw [List.length_map]; exact Nat.le_refl _)] at HO; refine wp_ret ?_; exact fr_ret1 F rfl _ rfl (FIN.out _ _ HO HK.low)
end Go.Proofs.YtnnpokndajpkiaaDoor
namespace Go.Proofs.YtnnpokndajpkiaaDoor
open Go.RowKit
def fourT : List NtE := smallT ++ [(helloN 2 1 1, none, 0)]
theorem small_check : checkL (smallT.map (·.1)) = (-1, 0) := by decide
theorem four_check : checkL (fourT.map (·.1)) = (3, 2) := by decide
theorem small_ops : opsL (smallT.map (·.1)) = [1] := by decide
theorem good_plain {w : World} {n : Nt} (h0 : n.p.subs = []) (h1 : n.p.ty < 256) (h2 : n.p.qos < 256) (h3 : n.p.id < 65536) (h4 : n.p.level < 256) (h5 : n.p.keep < 65536) (h6 : n.p.wqos < 256) (h7 : n.p.code < 256)
    (h8 : n.p.topic.size ≤ 300 ∧ n.p.payload.size ≤ 300 ∧ n.p.client.size ≤ 300 ∧ n.p.wtopic.size ≤ 300 ∧ n.p.wpayload.size ≤ 300 ∧ n.p.user.size ≤ 300 ∧ n.p.pass.size ≤ 300 ∧ n.p.codes.size ≤ 300) (h9 : n.msg.qos < 256) (h10 : n.msg.topic.size ≤ 300 ∧ n.msg.payload.size ≤ 300) : NtGood w n none := by
  obtain ⟨a1, a2, a3, a4, a5, a6, a7, a8⟩ := h8; obtain ⟨b1, b2⟩ := h10; refine ⟨⟨(by rw [h0]; exact CellsA.nil _ _), (by rw [h0]; intro x hx; cases hx), (by rw [h0]; exact Nat.zero_le _), h9, by omega⟩, ⟨h1, h2, h3, h4, h5, h6, h7, by omega, by omega, by omega, by omega, by omega, by omega, by omega, by omega, (by rw [h0]; exact Nat.zero_le _), (by rw [h0]; intro x hx; cases hx)⟩, ⟨h9, by omega, by omega⟩⟩
theorem good_hello (w : World) (kind : Nat) (op conn : Int) : NtGood w (helloN kind op conn) none := good_plain rfl (Nat.le_of_ble_eq_true rfl) (Nat.le_of_ble_eq_true rfl) (Nat.le_of_ble_eq_true rfl) (Nat.le_of_ble_eq_true rfl) (Nat.le_of_ble_eq_true rfl) (Nat.le_of_ble_eq_true rfl) (Nat.le_of_ble_eq_true rfl) ⟨(Nat.le_of_ble_eq_true rfl), (Nat.le_of_ble_eq_true rfl), (Nat.le_of_ble_eq_true rfl), (Nat.le_of_ble_eq_true rfl), (Nat.le_of_ble_eq_true rfl), (Nat.le_of_ble_eq_true rfl), (Nat.le_of_ble_eq_true rfl), (Nat.le_of_ble_eq_true rfl)⟩ (Nat.le_of_ble_eq_true rfl) ⟨(Nat.le_of_ble_eq_true rfl), (Nat.le_of_ble_eq_true rfl)⟩
theorem good_small (w : World) : ∀ x ∈ smallT, NtGood w x.1 x.2.1 := by
  intro x hx; unfold smallT at hx; rcases List.mem_cons.1 hx with rfl | hx
  · exact good_hello w _ _ _
  rcases List.mem_cons.1 hx with rfl | hx
  · exact good_hello w _ _ _
  rw [List.mem_singleton.1 hx]; exact good_plain rfl (Nat.le_of_ble_eq_true rfl) (Nat.le_of_ble_eq_true rfl) (Nat.le_of_ble_eq_true rfl) (Nat.le_of_ble_eq_true rfl) (Nat.le_of_ble_eq_true rfl) (Nat.le_of_ble_eq_true rfl) (Nat.le_of_ble_eq_true rfl) ⟨(Nat.le_of_ble_eq_true rfl), (Nat.le_of_ble_eq_true rfl), (Nat.le_of_ble_eq_true rfl), (Nat.le_of_ble_eq_true rfl), (Nat.le_of_ble_eq_true rfl), (Nat.le_of_ble_eq_true rfl), (Nat.le_of_ble_eq_true rfl), (Nat.le_of_ble_eq_true rfl)⟩ (Nat.le_of_ble_eq_true rfl) ⟨(Nat.le_of_ble_eq_true rfl), (Nat.le_of_ble_eq_true rfl)⟩
theorem good_four (w : World) : ∀ x ∈ fourT, NtGood w x.1 x.2.1 := by
  intro x hx; unfold fourT at hx; rcases List.mem_append.1 hx with hx | hx
  · exact good_small w x hx
  · rw [List.mem_singleton.1 hx]; exact good_hello w _ _ _
end Go.Proofs.YtnnpokndajpkiaaDoor
namespace Go.Proofs.YtnnpokndajpkiaaDoor
open Go.RowKit
theorem four_cells : ntCells smallT ++ (ntV (helloN 2 1 1) none 0).toList = ntCells fourT := by unfold fourT ntCells; rw [List.flatMap_append]; rfl
set_option maxRecDepth 100000 in
set_option maxHeartbeats 4000000 in
theorem law26_awake {w : World} (hE : Env w) : Calls Tryd.prog 6 #[] w fun e w' => e = .returned (.bool true) ∧ Below w.heap.size w w' := by
  obtain ⟨RR, hRR⟩ : ∃ RR : Ending → World → Prop, RR = fun e w' => e = .returned (.bool true) ∧ Below w.heap.size w w' := ⟨_, rfl⟩
  have FIN := Lib.hid (show ∀ w', Below w.heap.size w w' → RR (.returned (.bool true)) w' from fun w' h => by rw [hRR]; exact ⟨rfl, h⟩); rw [← hRR]; obtain ⟨w9, hw9⟩ : ∃ w9, w9 = w := ⟨_, rfl⟩
  have HK : Keep w [] [] w9 := by rw [hw9]; exact Keep.begin hE _ (by intro r hr; cases hr)
  suffices hgo : Calls Tryd.prog 6 #[] w9 RR by rw [hw9] at hgo; exact hgo
  clear hw9 hRR hE; go_enter Tryd.func6, Tryd.ntmps6
  refine wp_forget (n := 38) (L := []) (FrL.nil ?_ ?_) ?_; iterate 2 rfl
  intro a9 F; refine wp_seq ?_; refine wp_region_lit ?_; refine fr_ch F 1 [(0, .bool false)] (by kernel_rfl) ?_; clear F a9; intro a9 F; refine wpList_nil ?_; show Code.wp _ _ _ _ _; refine wp_seq ?_; refine wp_region_lit ?_; refine fr_call F (wanted_free rfl) 6 rfl (by decide) 20 #[] (by intro a' F'; go_simp) (law26_small HK.env) ?_; rintro e9 w8 ⟨N1, rfl, hown, hb8⟩; have HO1 := own_base hown HK.size; clear hown; replace HK := HK.below hb8; clear hb8; clear w9; rename World => w9
  refine ⟨_, rfl, ?_⟩; clear F a9; intro a9 F; obtain ⟨ax, cx, hvx, _, hcx⟩ := own_form HO1; injection hvx with hvx1 hvx2 hvx3
  subst hvx1 hvx3; clear hvx2; clear HO1; refine fr_call F (wanted_free rfl) 7 rfl (by decide) 7 #[.slice (some ⟨N1, 0, none⟩) 3 3] (by intro a' F'; have h6 := F'.at' 6 _ rfl; go_simp) (by have h := order_Check HK.env smallT _ 3 hcx (good_small w9) (by decide); rw [small_check] at h; simp only at h; exact h) ?_; rintro e9 w8 ⟨rfl, hb8⟩; clear hcx; replace HK := HK.below hb8; clear hb8; clear w9; rename World => w9
  refine ⟨_, rfl, ?_⟩; clear F a9; intro a9 F; refine fr_mv F (wanted_free rfl) 5 rfl (by decide) 7 rfl rfl ?_; clear F a9; intro a9 F; refine fr_ch F 4 [(2, .int .u8 0), (1, .int .i64 (-1)), (9, .int .u8 0), (8, .int .i64 (-1))] (by kernel_rfl) ?_; clear F a9; intro a9 F; refine wpList_nil ?_; show Code.wp _ _ _ _ _; replace F := F.cut [(2, .int .u8 0), (1, .int .i64 (-1)), (0, .bool false)] (by kernel_rfl); refine wp_seq ?_; refine wp_region_lit ?_; refine fr_call F (wanted_free rfl) 11 rfl (by decide) 20 #[] (by intro a' F'; go_simp) (law26_small HK.env) ?_; rintro e9 w8 ⟨N2, rfl, hown, hb8⟩; have HO2 := own_base hown HK.size; clear hown; replace HK := HK.below hb8; clear hb8; clear w9; rename World => w9
  refine ⟨_, rfl, ?_⟩; clear F a9; intro a9 F; refine fr_call F (wanted_free rfl) 12 rfl (by decide) 21 #[.int .u8 2, .int .i64 1, .int .i64 1] (by intro a' F'; go_simp) (law26_hello HK.env 2 1 1) ?_; rintro e9 w8 ⟨rfl, hb8⟩; replace HK := HK.below hb8; replace HO2 := own_only HO2 (Only.of_below hb8 (fun _ => False)) (fun _ _ h => h); clear hb8; clear w9; rename World => w9
  refine ⟨_, rfl, ?_⟩; clear F a9; intro a9 F; obtain ⟨i0, hi, hz0, hz1, hz2⟩ := info_parts infoNtR; refine fr_doW F (wanted_free rfl) 13 rfl (by decide) (.slice (some ⟨w9.heap.size, 0, none⟩) 1 1) (w9.alloc (.cells (ntV (helloN 2 1 1) none 0) 53)) (fun a' F' => run_slice1 22 53 _ rfl (ntV (helloN 2 1 1) none 0) (F'.ev 12 rfl) i0 _ Tryd.underlying22 hi hz0 (by rw [hz1]; decide) (by rw [hz1]; decide) (by rw [hz1]; kernel_rfl)) ?_; clear F a9; intro a9 F; have hb8 : Below w9.heap.size w9 (w9.alloc (.cells (ntV (helloN 2 1 1) none 0) 53)) := (Below.refl _ _).alloc (Nat.le_refl _) _; have hnr : CellsA (w9.alloc (.cells (ntV (helloN 2 1 1) none 0) 53)) (some ⟨w9.heap.size, 0, none⟩) (ntV (helloN 2 1 1) none 0).toList := cells_new; replace HK := HK.below hb8; replace HO2 := own_only HO2 (Only.of_below hb8 (fun _ => False)) (fun _ _ h => h); obtain ⟨Z, hZ⟩ : ∃ Z, w9.heap.size = Z := ⟨_, rfl⟩
  rw [hZ] at hnr F; clear hb8 hZ; generalize w9.alloc (.cells (ntV (helloN 2 1 1) none 0) 53) = w8 at *; clear w9; rename World => w9
  refine fr_appendP F rfl 14 rfl (by decide) (.tmp 11) (.tmp 13) 22 rfl w.heap.size 53 i0 _ 35 304 Tryd.underlying22 hi hz0 hz1 hz2 rfl (by decide) _ 3 _ (F.ev 11 rfl) HO2 (some ⟨Z, 0, none⟩) 1 1 (fun h => by cases h) (ntV (helloN 2 1 1) none 0).toList (F.ev 13 rfl) rfl hnr (fun u hu => Array.all_eq_true'.1 (nt_one (helloN 2 1 1) none 0) u (Array.mem_def.2 hu)) (by unfold maxLen; omega) (by omega) HK.size ?_; intro v8 w8 hown hgr; clear hi hz0 hz1 hz2 i0 hnr; have HK2 := HK.grownBoxM HO2 (Nat.le_refl _) hgr (by intro z hz; cases hz); clear HK HO2 hgr; have HK := HK2; clear HK2; clear w9; rename World => w9
  rw [four_cells] at hown; clear F a9; intro a9 F; replace HK : Keep w [] [] w9 := HK; obtain ⟨ax, cx, hvx, _, hcx⟩ := own_form hown; subst hvx; clear hown; have hfl : fourT.length = 4 := rfl; refine fr_call F (wanted_free rfl) 15 rfl (by decide) 7 #[.slice ax 4 cx] (by intro a' F'; have h14 := F'.at' 14 _ rfl; go_simp) (by have h := order_Check HK.env fourT _ cx hcx (good_four w9) (by decide); rw [four_check] at h; simp only at h; exact h) ?_; rintro e9 w8 ⟨rfl, hb8⟩; clear hcx; replace HK := HK.below hb8; clear hb8; clear w9; rename World => w9
  refine ⟨_, rfl, ?_⟩; clear F a9; intro a9 F; refine fr_mv F (wanted_free rfl) 10 rfl (by decide) 15 rfl rfl ?_; clear F a9; intro a9 F; refine fr_ch F 4 [(4, .int .u8 2), (3, .int .i64 3), (17, .int .u8 2), (16, .int .i64 3)] (by kernel_rfl) ?_; clear F a9; intro a9 F; refine wpList_nil ?_; show Code.wp _ _ _ _ _; replace F := F.cut [(4, .int .u8 2), (3, .int .i64 3), (2, .int .u8 0), (1, .int .i64 (-1)), (0, .bool false)] (by kernel_rfl); refine wp_seq ?_; refine wp_region_lit ?_; refine fr_ch F 15 [(32, .bool true)] (by kernel_rfl) ?_; clear F a9; intro a9 F; refine fr_call F (by rw [wanted_at F rfl (t := 32) (b := true) (by kernel_rfl) rfl]; rfl) 33 rfl (by decide) 20 #[] (by intro a' F'; go_simp) (law26_small HK.env) ?_; rintro e9 w8 ⟨N3, rfl, hown, hb8⟩; have HO3 := own_base hown HK.size; clear hown; replace HK := HK.below hb8; clear hb8; clear w9; rename World => w9
  refine ⟨_, rfl, ?_⟩; clear F a9; intro a9 F; obtain ⟨ax, cx, hvx, _, hcx⟩ := own_form HO3; injection hvx with hvx1 hvx2 hvx3
  subst hvx1 hvx3; clear hvx2; clear HO3; refine fr_call F (by rw [wanted_at F rfl (t := 32) (b := true) (by kernel_rfl) rfl]; rfl) 34 rfl (by decide) 22 #[.slice (some ⟨N3, 0, none⟩) 3 3] (by intro a' F'; have h33 := F'.at' 33 _ rfl; go_simp) (by have h := order_Row HK.env smallT _ 3 hcx (by decide); rw [small_ops] at h; exact h) ?_; rintro e9 w8 ⟨vr, rfl, hor, hb8⟩; clear hcx; obtain ⟨ar, cr, hvr, _, _⟩ := own_form hor; subst hvr; clear hor; replace HK := HK.below hb8; clear hb8; clear w9; rename World => w9
  refine ⟨_, rfl, ?_⟩; clear F a9; intro a9 F; refine fr_ch F 4 [(0, .bool true), (37, .bool true), (36, .bool true), (35, .int .i64 1)] (by kernel_rfl) ?_; clear F a9; intro a9 F; refine wpList_nil ?_; show Code.wp _ _ _ _ _; refine wp_ret ?_; exact fr_ret1 F rfl _ rfl (FIN.out _ HK.low)
end Go.Proofs.YtnnpokndajpkiaaDoor
namespace Go.Proofs.YtnnpokndajpkiaaDoor
open Go.RowKit
def isN (kd : Nat) (op : Int) (n : Nt) : Bool := decide (n.kind = kd) && decide (n.op = op)
def idxN (kd : Nat) (op : Int) (l : List Nt) : Int := match l.findIdx? (isN kd op) with | some i => (i : Int) | none => -1
theorem idx_some {kd : Nat} {op : Int} {l : List Nt} {k : Nat} {n : Nt} (h0 : ∀ j x, j < k → l[j]? = some x → isN kd op x = false) (hk : l[k]? = some n) (hn : isN kd op n = true) : idxN kd op l = (k : Int) := by
  have hlt : k < l.length := by
    rcases Nat.lt_or_ge k l.length with h | h
    · exact h
    · rw [List.getElem?_eq_none h] at hk; cases hk
  have e : l.findIdx? (isN kd op) = some k := by
    rw [List.findIdx?_eq_some_iff_getElem]; refine ⟨hlt, ?_, fun j hj => ?_⟩
    · rw [List.getElem?_eq_getElem hlt] at hk
      injection hk with hk
      rw [hk]; exact hn
    · rw [h0 j _ hj (List.getElem?_eq_getElem (Nat.lt_trans hj hlt))]; decide
  unfold idxN; rw [e]
theorem idx_none {kd : Nat} {op : Int} {l : List Nt} (h0 : ∀ j x, j < l.length → l[j]? = some x → isN kd op x = false) : idxN kd op l = -1 := by
  have e : l.findIdx? (isN kd op) = none := by
    rw [List.findIdx?_eq_none_iff]; intro x hx; obtain ⟨j, hj, e⟩ := List.getElem_of_mem hx; exact h0 j x hj (by rw [List.getElem?_eq_getElem hj, e])
  unfold idxN; rw [e]
section
variable {P : Program} {ops : Array Oper} {rest : List Oper} {a : Act} {w : World} {Q : Exit → Act → World → Prop} {n : Nat} {L : List (Nat × Value)} {o : Oper}
end
end Go.Proofs.YtnnpokndajpkiaaDoor
namespace Go.Proofs.YtnnpokndajpkiaaDoor
open Go.RowKit
def textsN (n : Nt) : List ByteArray := [n.client, n.codes, n.msg.topic, n.msg.payload, n.p.topic, n.p.payload, n.p.client, n.p.wtopic, n.p.wpayload, n.p.user, n.p.pass, n.p.codes]
def great1 (n : Nt) : Bool := (textsN n).any (fun t => decide (300 < t.size)) || (n.p.subs.any (fun x => decide (300 < x.1.size)) || decide (20 < n.p.subs.length))
def greatNs (l : List Nt) : Bool := l.any great1 || decide (200 < l.length)
structure NtWf (n : Nt) : Prop where
  kind : n.kind < 256
  qos : n.qos < 256
  mqos : n.msg.qos < 256
  ty : n.p.ty < 256
  pqos : n.p.qos < 256
  id : n.p.id < 65536
  level : n.p.level < 256
  keep : n.p.keep < 65536
  wqos : n.p.wqos < 256
  code : n.p.code < 256
  subs : ∀ x ∈ n.p.subs, x.2 < 256
theorem great1_good {w : World} {n : Nt} {a : Option Addr} (hw : NtWf n) (hg : great1 n = false) (hc : CellsA w a (subCells n.p.subs)) : NtGood w n a := by
  unfold great1 at hg; rw [Bool.or_eq_false_iff, Bool.or_eq_false_iff] at hg; obtain ⟨h1, h2, h3⟩ := hg; have ht : ∀ t ∈ textsN n, t.size ≤ 300 := fun t ht => by
    have h := List.any_eq_false.1 h1 t ht; simp only [decide_eq_true_eq] at h; omega
  have hs : ∀ x ∈ n.p.subs, x.1.size ≤ 300 := fun x hx => by
    have h := List.any_eq_false.1 h2 x hx; simp only [decide_eq_true_eq] at h; omega
  have h3 : n.p.subs.length ≤ 20 := by
    have h := of_decide_eq_false h3; omega
  have hm1 := ht n.msg.topic (by simp [textsN]); have hm2 := ht n.msg.payload (by simp [textsN]); have p1 := ht n.p.topic (by simp [textsN]); have p2 := ht n.p.payload (by simp [textsN]); have p3 := ht n.p.client (by simp [textsN]); have p4 := ht n.p.wtopic (by simp [textsN]); have p5 := ht n.p.wpayload (by simp [textsN]); have p6 := ht n.p.user (by simp [textsN]); have p7 := ht n.p.pass (by simp [textsN]); have p8 := ht n.p.codes (by simp [textsN]); exact ⟨⟨hc, fun x hx => ⟨hs x hx, hw.subs x hx⟩, h3, hw.mqos, by omega⟩, ⟨hw.ty, hw.pqos, hw.id, hw.level, hw.keep, hw.wqos, hw.code, by omega, by omega, by omega, by omega, by omega, by omega, by omega, by omega, by omega, fun x hx => ⟨by have := hs x hx; omega, hw.subs x hx⟩⟩, ⟨hw.mqos, by omega, by omega⟩⟩
end Go.Proofs.YtnnpokndajpkiaaDoor
