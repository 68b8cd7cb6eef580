/- The walk of read.Decode. Conditions: a machine's bound on the text's size; the decoder's tables lie as Go lays them. -/
import Derived.Test.YtfljdlaelanliaaDoorReadAll
import Derived.Test.YtfljdlaelanliaaDoorJoinG
import Derived.Test.YtfljdlaelanliaaDoorPacketSame
namespace Go.Proofs.YtfljdlaelanliaaDoor
open Go.RowKit
theorem infoPkR : (Tryd.prog.info? 27).map (fun i => (i.zero, i.size, i.bytes)) = some (some (.agg (pkV Pk.zero none 0)), 24, 200) := by kernel_rfl
/-- What Decode hands back: its packet's filters in cells of its own. -/
def RetDec (w : World) (x : Pk × Nat × Nat) (e : Ending) (w' : World) : Prop :=
  ∃ (a : Option Addr) (c : Nat), e = .returned (.tuple #[.agg (pkV x.1 a c), .int .i64 (x.2.1 : Int), .int .i64 (x.2.2 : Int)]) ∧ w'.ownsRow w.heap.size 31 2 (.slice a x.1.subs.length c) x.1.subs.length (subCells x.1.subs) ∧ Below w.heap.size w w'
theorem ret_dec {w w' : World} {x : Pk × Nat × Nat} (p : Pk) (u e : Nat) (h : x = (p, u, e)) (hs : p.subs = []) (hb : Below w.heap.size w w') (x1 : Int) (x2 : Int) (h1 : x1 = (u : Int)) (h2 : x2 = (e : Int)) : RetDec w x (.returned (.tuple #[.agg (pkV p none 0), .int .i64 x1, .int .i64 x2])) w' := by
  subst h h1 h2
  refine ⟨none, 0, rfl, ?_, hb⟩
  simp only [hs]
  exact World.ownsRow_nil _ _ _ _
theorem cur_range {w : World} {X : Nat} {c : Cur} {C : List Value} {T : TypeId} (h : BoxAt w X (curC c C) T) : w.rangeAt X 2 C := fun j v hv => by
  rw [h.cells]
  show (Value.string (baB c.1) :: Value.bool c.2 :: C).toArray[2 + j]? = some v
  rw [List.getElem?_toArray, show 2 + j = j + 1 + 1 by omega, List.getElem?_cons_succ, List.getElem?_cons_succ]
  exact hv
theorem and15 : ∀ c : Nat, c < 256 → bits BinOp.and IntKind.u8 (c : Int) 15 = ((c % 16 : Nat) : Int) := by decide +kernel
theorem bl_from (s : ByteArray) (i : Nat) : bl (s.extract i s.size) = (bl s).drop i := by
  rw [bl_extract]
  exact List.take_of_length_le (by rw [List.length_drop, bl_len]; omega)
theorem built_zero : Tryd.prog.built 27 [] = some (pkV Pk.zero none 0) := by kernel_rfl
set_option maxRecDepth 100000 in
set_option maxHeartbeats 4000000 in
theorem dec_empty (s : ByteArray) (_hs : s.size ≤ 90000000) (w : World) (hE : Env w) (h0 : bl s = []) : Calls Tryd.prog 43 #[.string s] w (RetDec w (decR (bl s))) := by
  have FIN : ∀ w', Below w.heap.size w w' → RetDec w (decR (bl s)) (.returned (.tuple #[.agg (pkV Pk.zero none 0), .int .i64 0, .int .i64 2])) w' := fun w' h => ret_dec Pk.zero 0 2 (by rw [h0]; rfl) rfl h _ _ rfl rfl
  have hE2 := hE
  obtain ⟨RR, hRR⟩ : ∃ RR, RR = RetDec w (decR (bl s)) := ⟨_, rfl⟩
  rw [← hRR] at FIN
  have FIN := Lib.hid FIN
  rw [← hRR]
  obtain ⟨w9, hw9⟩ : ∃ w9, w9 = w := ⟨_, rfl⟩
  have HK : Keep w [] [] w9 := by rw [hw9]; exact Keep.begin hE [] (by intro r hr; cases hr)
  suffices hgo : Calls Tryd.prog 43 #[.string s] w9 RR by rw [hw9] at hgo; exact hgo
  clear hw9 hRR hE
  have he : (s.toList == ([] : List UInt8)) = true := by rw [Lib.toList_data]; show (bl s == []) = true; rw [h0]; rfl
  clear h0
  go_enter Tryd.func43, Tryd.ntmps43
  refine wp_forget (n := 124) (L := [(0, .string s)]) (FrL.add (FrL.nil ?_ ?_) _ _ ?_) ?_
  iterate 3 rfl
  intro a9 F
  refine wp_seq ?_
  refine wp_region_lit ?_
  obtain ⟨i0, hi, hz0, hz1, hz2⟩ := info_parts infoPkR
  refine fr_alloc F HK 2 (by decide) rfl 27 rfl rfl i0 _ hi hz0 ?_
  rintro V a10 w10 hV F' HK' hb
  clear HK F hb hV hi hz0 hz1 hz2 i0
  clear a9 w9
  rename World => w9
  rename Act => a9
  have HK := HK'
  have F := F'
  clear HK' F'
  replace HK : Keep w [(V, pkV Pk.zero none 0, 27)] [] w9 := HK
  refine fr_ch F 2 [(4, .int .i64 0), (3, .int .i64 0)] (by kernel_rfl) ?_
  clear F a9
  intro a9 F
  refine wpList_nil ?_
  show Code.wp _ _ _ _ _
  replace F := F.cut [(2, .pointer (some ⟨V, 0, none⟩)), (0, .string s)] (by kernel_rfl)
  refine wp_seq ?_
  refine wp_seq ?_
  refine wp_region_lit ?_
  refine fr_ch F 1 [(8, .string s)] (by kernel_rfl) ?_
  clear F a9
  intro a9 F
  refine fr_do F (wanted_free rfl) 9 rfl (by decide) (.bool true) (by intro a' F'; have h8 := F'.at' 8 _ rfl; go_simp) ?_
  clear F a9
  intro a9 F
  refine wpList_nil ?_
  show Code.wp _ _ _ _ _
  refine wp_cond_true (F.ev 9 rfl) ?_
  refine wp_seq ?_
  refine wp_region_lit ?_
  refine fr_do F (wanted_free rfl) 10 rfl (by decide) (.agg (pkV Pk.zero none 0)) (fun a' F' => run_build_to rfl (by simp only [List.map_toArray, List.map_nil]; exact built_zero)) ?_
  clear F a9
  intro a9 F
  refine fr_storeO F HK 0 rfl rfl rfl 27 (.tmp 2) (.tmp 10) rfl (pkV Pk.zero none 0) (fun a' F' => F'.ev 2 rfl) (fun a' F' => F'.ev 10 rfl) infoPk rfl (pk_one _ _ _) ?_
  intro a10 w10 F' HK' HO
  clear HK F HO
  clear a9 w9
  rename World => w9
  rename Act => a9
  have HK := HK'
  have F := F'
  clear HK' F'
  refine fr_ch F 2 [(4, .int .i64 2), (3, .int .i64 0)] (by kernel_rfl) ?_
  clear F a9
  intro a9 F
  refine wpList_nil ?_
  show Code.wp _ _ _ _ _
  refine wp_ret ?_
  exact fr_ret3 F rfl rfl (HK.at 0 rfl) Tryd.underlying27 rfl infoPk _ _ rfl rfl (FIN.out _ HK.low)
set_option maxRecDepth 100000 in
set_option maxHeartbeats 4000000 in
theorem dec_first (s : ByteArray) (_hs : s.size ≤ 90000000) (w : World) (hE : Env w) (b : UInt8) (t : Bs) (h0 : bl s = b :: t) (hfo : firstOk b.toNat = false) : Calls Tryd.prog 43 #[.string s] w (RetDec w (decR (bl s))) := by
  have FIN : ∀ w', Below w.heap.size w w' → RetDec w (decR (bl s)) (.returned (.tuple #[.agg (pkV Pk.zero none 0), .int .i64 0, .int .i64 4])) w' := fun w' h => ret_dec Pk.zero 0 4 (by rw [h0]; simp only [decR]; rw [if_pos hfo]) rfl h _ _ rfl rfl
  have hE2 := hE
  obtain ⟨RR, hRR⟩ : ∃ RR, RR = RetDec w (decR (bl s)) := ⟨_, rfl⟩
  rw [← hRR] at FIN
  have FIN := Lib.hid FIN
  rw [← hRR]
  obtain ⟨w9, hw9⟩ : ∃ w9, w9 = w := ⟨_, rfl⟩
  have HK : Keep w [] [] w9 := by rw [hw9]; exact Keep.begin hE [] (by intro r hr; cases hr)
  suffices hgo : Calls Tryd.prog 43 #[.string s] w9 RR by rw [hw9] at hgo; exact hgo
  clear hw9 hRR hE
  have hne : (s.toList == ([] : List UInt8)) = false := by rw [Lib.toList_data]; show (bl s == []) = false; rw [h0]; rfl
  obtain ⟨hg1, hg2⟩ := at_bl s 0 b (by rw [h0]; rfl)
  have hb2 := b.toNat_lt
  have hv : (s[0]'hg1).toNat = b.toNat := by rw [hg2]
  clear hg2
  generalize b.toNat = x at hfo hv hb2
  clear h0
  go_enter Tryd.func43, Tryd.ntmps43
  refine wp_forget (n := 124) (L := [(0, .string s)]) (FrL.add (FrL.nil ?_ ?_) _ _ ?_) ?_
  iterate 3 rfl
  intro a9 F
  refine wp_seq ?_
  refine wp_region_lit ?_
  obtain ⟨i0, hi, hz0, hz1, hz2⟩ := info_parts infoPkR
  refine fr_alloc F HK 2 (by decide) rfl 27 rfl rfl i0 _ hi hz0 ?_
  rintro V a10 w10 hV F' HK' hb
  clear HK F hb hV hi hz0 hz1 hz2 i0
  clear a9 w9
  rename World => w9
  rename Act => a9
  have HK := HK'
  have F := F'
  clear HK' F'
  replace HK : Keep w [(V, pkV Pk.zero none 0, 27)] [] w9 := HK
  refine fr_ch F 2 [(4, .int .i64 0), (3, .int .i64 0)] (by kernel_rfl) ?_
  clear F a9
  intro a9 F
  refine wpList_nil ?_
  show Code.wp _ _ _ _ _
  replace F := F.cut [(2, .pointer (some ⟨V, 0, none⟩)), (0, .string s)] (by kernel_rfl)
  refine wp_seq ?_
  refine wp_seq ?_
  refine wp_region_lit ?_
  refine fr_ch F 1 [(8, .string s)] (by kernel_rfl) ?_
  clear F a9
  intro a9 F
  refine fr_do F (wanted_free rfl) 9 rfl (by decide) (.bool false) (by intro a' F'; have h8 := F'.at' 8 _ rfl; go_simp) ?_
  clear F a9
  intro a9 F
  refine wpList_nil ?_
  show Code.wp _ _ _ _ _
  refine wp_cond_false (F.ev 9 rfl) ?_
  refine wp_skip ?_
  show Code.wp _ _ _ _ _
  refine wp_seq ?_
  refine wp_seq ?_
  refine wp_region_lit ?_
  refine fr_ch F 1 [(11, .string s)] (by kernel_rfl) ?_
  clear F a9
  intro a9 F
  refine fr_do F (wanted_free rfl) 12 rfl (by decide) (.int .u8 (x : Int)) (by intro a' F'; have h11 := F'.at' 11 _ rfl; go_simp) ?_
  clear F a9
  intro a9 F
  refine fr_call F (wanted_free rfl) 13 rfl (by decide) 65 #[.int .u8 (x : Int)] (by intro a' F'; have h12 := F'.at' 12 _ rfl; go_simp) (read_First x hb2 w9) ?_
  rintro e w8 ⟨rfl, rfl⟩
  rw [hfo]
  refine ⟨_, rfl, ?_⟩
  clear F a9
  intro a9 F
  refine fr_ch F 1 [(14, .bool true)] (by kernel_rfl) ?_
  clear F a9
  intro a9 F
  refine wpList_nil ?_
  show Code.wp _ _ _ _ _
  refine wp_cond_true (F.ev 14 rfl) ?_
  refine wp_seq ?_
  refine wp_region_lit ?_
  refine fr_do F (wanted_free rfl) 15 rfl (by decide) (.agg (pkV Pk.zero none 0)) (fun a' F' => run_build_to rfl (by simp only [List.map_toArray, List.map_nil]; exact built_zero)) ?_
  clear F a9
  intro a9 F
  refine fr_storeO F HK 0 rfl rfl rfl 27 (.tmp 2) (.tmp 15) rfl (pkV Pk.zero none 0) (fun a' F' => F'.ev 2 rfl) (fun a' F' => F'.ev 15 rfl) infoPk rfl (pk_one _ _ _) ?_
  intro a10 w10 F' HK' HO
  clear HK F HO
  clear a9 w9
  rename World => w9
  rename Act => a9
  have HK := HK'
  have F := F'
  clear HK' F'
  refine fr_ch F 2 [(4, .int .i64 4), (3, .int .i64 0)] (by kernel_rfl) ?_
  clear F a9
  intro a9 F
  refine wpList_nil ?_
  show Code.wp _ _ _ _ _
  refine wp_ret ?_
  exact fr_ret3 F rfl rfl (HK.at 0 rfl) Tryd.underlying27 rfl infoPk _ _ rfl rfl (FIN.out _ HK.low)
set_option maxRecDepth 100000 in
set_option maxHeartbeats 4000000 in
theorem dec_len (s : ByteArray) (hs : s.size ≤ 90000000) (w : World) (hE : Env w) (b : UInt8) (t : Bs) (h0 : bl s = b :: t) (hfo : firstOk b.toNat = true) (n u e : Nat) (hlr : lenR t = (n, u, e)) (he : e ≠ 0) : Calls Tryd.prog 43 #[.string s] w (RetDec w (decR (bl s))) := by
  have FIN : ∀ w', Below w.heap.size w w' → RetDec w (decR (bl s)) (.returned (.tuple #[.agg (pkV Pk.zero none 0), .int .i64 0, .int .i64 (e : Int)])) w' := fun w' h => ret_dec Pk.zero 0 e (by rw [h0]; simp only [decR]; rw [if_neg (by rw [hfo]; decide), hlr, if_pos he]) rfl h _ _ rfl rfl
  have hE2 := hE
  obtain ⟨RR, hRR⟩ : ∃ RR, RR = RetDec w (decR (bl s)) := ⟨_, rfl⟩
  rw [← hRR] at FIN
  have FIN := Lib.hid FIN
  rw [← hRR]
  obtain ⟨w9, hw9⟩ : ∃ w9, w9 = w := ⟨_, rfl⟩
  have HK : Keep w [] [] w9 := by rw [hw9]; exact Keep.begin hE [] (by intro r hr; cases hr)
  suffices hgo : Calls Tryd.prog 43 #[.string s] w9 RR by rw [hw9] at hgo; exact hgo
  clear hw9 hRR hE
  have hne : (s.toList == ([] : List UInt8)) = false := by rw [Lib.toList_data]; show (bl s == []) = false; rw [h0]; rfl
  obtain ⟨hg1, hg2⟩ := at_bl s 0 b (by rw [h0]; rfl)
  have hb2 := b.toNat_lt
  have ht1 : bl (s.extract 1 s.size) = t := by rw [bl_from, h0]; rfl
  have hRL := num_ReadLenG (s.extract 1 s.size)
  rw [ht1, hlr] at hRL
  have HRL := Lib.hid (show ∀ w9, Calls Tryd.prog 66 #[.string (s.extract 1 s.size)] w9 (fun e9 w8 => e9 = .returned (.tuple #[.int .i64 (n : Int), .int .i64 (u : Int), .int .i64 ((e : Nat) : Int)]) ∧ w9 = w8) from fun w9 => hRL w9)
  have hu1 : 1 ≤ s.size := by rw [← bl_len, h0]; simp
  have hv : (s[0]'hg1).toNat = b.toNat := by rw [hg2]
  clear hg2
  generalize b.toNat = x at hfo hv hb2
  have hee : ((e : Int) != 0) = true := by rw [bne_iff_ne]; omega
  clear h0 ht1 hRL hlr
  go_enter Tryd.func43, Tryd.ntmps43
  refine wp_forget (n := 124) (L := [(0, .string s)]) (FrL.add (FrL.nil ?_ ?_) _ _ ?_) ?_
  iterate 3 rfl
  intro a9 F
  refine wp_seq ?_
  refine wp_region_lit ?_
  obtain ⟨i0, hi, hz0, hz1, hz2⟩ := info_parts infoPkR
  refine fr_alloc F HK 2 (by decide) rfl 27 rfl rfl i0 _ hi hz0 ?_
  rintro V a10 w10 hV F' HK' hb
  clear HK F hb hV hi hz0 hz1 hz2 i0
  clear a9 w9
  rename World => w9
  rename Act => a9
  have HK := HK'
  have F := F'
  clear HK' F'
  replace HK : Keep w [(V, pkV Pk.zero none 0, 27)] [] w9 := HK
  refine fr_ch F 2 [(4, .int .i64 0), (3, .int .i64 0)] (by kernel_rfl) ?_
  clear F a9
  intro a9 F
  refine wpList_nil ?_
  show Code.wp _ _ _ _ _
  replace F := F.cut [(2, .pointer (some ⟨V, 0, none⟩)), (0, .string s)] (by kernel_rfl)
  refine wp_seq ?_
  refine wp_seq ?_
  refine wp_region_lit ?_
  refine fr_ch F 1 [(8, .string s)] (by kernel_rfl) ?_
  clear F a9
  intro a9 F
  refine fr_do F (wanted_free rfl) 9 rfl (by decide) (.bool false) (by intro a' F'; have h8 := F'.at' 8 _ rfl; go_simp) ?_
  clear F a9
  intro a9 F
  refine wpList_nil ?_
  show Code.wp _ _ _ _ _
  refine wp_cond_false (F.ev 9 rfl) ?_
  refine wp_skip ?_
  show Code.wp _ _ _ _ _
  refine wp_seq ?_
  refine wp_seq ?_
  refine wp_region_lit ?_
  refine fr_ch F 1 [(11, .string s)] (by kernel_rfl) ?_
  clear F a9
  intro a9 F
  refine fr_do F (wanted_free rfl) 12 rfl (by decide) (.int .u8 (x : Int)) (by intro a' F'; have h11 := F'.at' 11 _ rfl; go_simp) ?_
  clear F a9
  intro a9 F
  refine fr_call F (wanted_free rfl) 13 rfl (by decide) 65 #[.int .u8 (x : Int)] (by intro a' F'; have h12 := F'.at' 12 _ rfl; go_simp) (read_First x hb2 w9) ?_
  rintro e w8 ⟨rfl, rfl⟩
  rw [hfo]
  refine ⟨_, rfl, ?_⟩
  clear F a9
  intro a9 F
  refine fr_ch F 1 [(14, .bool false)] (by kernel_rfl) ?_
  clear F a9
  intro a9 F
  refine wpList_nil ?_
  show Code.wp _ _ _ _ _
  refine wp_cond_false (F.ev 14 rfl) ?_
  refine wp_skip ?_
  show Code.wp _ _ _ _ _
  refine wp_seq ?_
  refine wp_region_lit ?_
  refine fr_ch F 1 [(17, .string s)] (by kernel_rfl) ?_
  clear F a9
  intro a9 F
  refine fr_do F (wanted_free rfl) 18 rfl (by decide) (.string (s.extract 1 s.size)) (by intro a' F'; have h17 := F'.at' 17 _ rfl; go_simp <;> omega) ?_
  clear F a9
  intro a9 F
  refine fr_call F (wanted_free rfl) 19 rfl (by decide) 66 #[.string (s.extract 1 s.size)] (by intro a' F'; have h18 := F'.at' 18 _ rfl; go_simp) (HRL.out w9) ?_
  rintro e9 w8 ⟨rfl, rfl⟩
  refine ⟨_, rfl, ?_⟩
  clear F a9
  intro a9 F
  refine fr_ch F 7 [(4, .int .i64 ((e : Nat) : Int)), (6, .int .i64 (u : Int)), (5, .int .i64 (n : Int)), (22, .int .i64 ((e : Nat) : Int)), (21, .int .i64 (u : Int)), (20, .int .i64 (n : Int)), (16, .tuple #[.int .i64 (n : Int), .int .i64 (u : Int), .int .i64 ((e : Nat) : Int)])] (by kernel_rfl) ?_
  clear F a9
  intro a9 F
  refine wpList_nil ?_
  show Code.wp _ _ _ _ _
  replace F := F.cut [(6, .int .i64 (u : Int)), (5, .int .i64 (n : Int)), (4, .int .i64 ((e : Nat) : Int)), (2, .pointer (some ⟨V, 0, none⟩)), (0, .string s)] (by kernel_rfl)
  refine wp_seq ?_
  refine wp_seq ?_
  refine wp_region_lit ?_
  refine fr_ch F 1 [(23, .int .i64 ((e : Nat) : Int))] (by kernel_rfl) ?_
  clear F a9
  intro a9 F
  refine fr_do F (wanted_free rfl) 24 rfl (by decide) (.bool true) (by intro a' F'; have h23 := F'.at' 23 _ rfl; go_simp) ?_
  clear F a9
  intro a9 F
  refine wpList_nil ?_
  show Code.wp _ _ _ _ _
  refine wp_cond_true (F.ev 24 rfl) ?_
  refine wp_seq ?_
  refine wp_region_lit ?_
  refine fr_do F (wanted_free rfl) 25 rfl (by decide) (.agg (pkV Pk.zero none 0)) (fun a' F' => run_build_to rfl (by simp only [List.map_toArray, List.map_nil]; exact built_zero)) ?_
  clear F a9
  intro a9 F
  refine fr_ch F 1 [(26, .int .i64 ((e : Nat) : Int))] (by kernel_rfl) ?_
  clear F a9
  intro a9 F
  refine fr_storeO F HK 0 rfl rfl rfl 27 (.tmp 2) (.tmp 25) rfl (pkV Pk.zero none 0) (fun a' F' => F'.ev 2 rfl) (fun a' F' => F'.ev 25 rfl) infoPk rfl (pk_one _ _ _) ?_
  intro a10 w10 F' HK' HO
  clear HK F HO
  clear a9 w9
  rename World => w9
  rename Act => a9
  have HK := HK'
  have F := F'
  clear HK' F'
  refine fr_ch F 2 [(4, .int .i64 ((e : Nat) : Int)), (3, .int .i64 0)] (by kernel_rfl) ?_
  clear F a9
  intro a9 F
  refine wpList_nil ?_
  show Code.wp _ _ _ _ _
  refine wp_ret ?_
  exact fr_ret3 F rfl rfl (HK.at 0 rfl) Tryd.underlying27 rfl infoPk _ _ rfl rfl (FIN.out _ HK.low)
set_option maxRecDepth 100000 in
set_option maxHeartbeats 4000000 in
theorem dec_cutoff (s : ByteArray) (hs : s.size ≤ 90000000) (w : World) (hE : Env w) (b : UInt8) (t : Bs) (h0 : bl s = b :: t) (hfo : firstOk b.toNat = true) (n u : Nat) (hlr : lenR t = (n, u, 0)) (hsh : t.length - u < n) : Calls Tryd.prog 43 #[.string s] w (RetDec w (decR (bl s))) := by
  have FIN : ∀ w', Below w.heap.size w w' → RetDec w (decR (bl s)) (.returned (.tuple #[.agg (pkV Pk.zero none 0), .int .i64 0, .int .i64 2])) w' := fun w' h => ret_dec Pk.zero 0 2 (by rw [h0]; simp only [decR]; rw [if_neg (by rw [hfo]; decide), hlr, if_neg (by simp), if_pos hsh]) rfl h _ _ rfl rfl
  have hE2 := hE
  obtain ⟨RR, hRR⟩ : ∃ RR, RR = RetDec w (decR (bl s)) := ⟨_, rfl⟩
  rw [← hRR] at FIN
  have FIN := Lib.hid FIN
  rw [← hRR]
  obtain ⟨w9, hw9⟩ : ∃ w9, w9 = w := ⟨_, rfl⟩
  have HK : Keep w [] [] w9 := by rw [hw9]; exact Keep.begin hE [] (by intro r hr; cases hr)
  suffices hgo : Calls Tryd.prog 43 #[.string s] w9 RR by rw [hw9] at hgo; exact hgo
  clear hw9 hRR hE
  have hne : (s.toList == ([] : List UInt8)) = false := by rw [Lib.toList_data]; show (bl s == []) = false; rw [h0]; rfl
  obtain ⟨hg1, hg2⟩ := at_bl s 0 b (by rw [h0]; rfl)
  have hb2 := b.toNat_lt
  have ht1 : bl (s.extract 1 s.size) = t := by rw [bl_from, h0]; rfl
  have hRL := num_ReadLenG (s.extract 1 s.size)
  rw [ht1, hlr] at hRL
  have HRL := Lib.hid (show ∀ w9, Calls Tryd.prog 66 #[.string (s.extract 1 s.size)] w9 (fun e9 w8 => e9 = .returned (.tuple #[.int .i64 (n : Int), .int .i64 (u : Int), .int .i64 ((0 : Nat) : Int)]) ∧ w9 = w8) from fun w9 => hRL w9)
  have hu1 : 1 ≤ s.size := by rw [← bl_len, h0]; simp
  obtain ⟨hu2, hu4, hu5, _, hn5⟩ := lenR_inv hlr
  have hsz : s.size = t.length + 1 := by rw [← bl_len, h0]; rfl
  have hv : (s[0]'hg1).toNat = b.toNat := by rw [hg2]
  clear hg2
  generalize b.toNat = x at hfo hv hb2
  clear h0 ht1 hRL hlr
  go_enter Tryd.func43, Tryd.ntmps43
  refine wp_forget (n := 124) (L := [(0, .string s)]) (FrL.add (FrL.nil ?_ ?_) _ _ ?_) ?_
  iterate 3 rfl
  intro a9 F
  refine wp_seq ?_
  refine wp_region_lit ?_
  obtain ⟨i0, hi, hz0, hz1, hz2⟩ := info_parts infoPkR
  refine fr_alloc F HK 2 (by decide) rfl 27 rfl rfl i0 _ hi hz0 ?_
  rintro V a10 w10 hV F' HK' hb
  clear HK F hb hV hi hz0 hz1 hz2 i0
  clear a9 w9
  rename World => w9
  rename Act => a9
  have HK := HK'
  have F := F'
  clear HK' F'
  replace HK : Keep w [(V, pkV Pk.zero none 0, 27)] [] w9 := HK
  refine fr_ch F 2 [(4, .int .i64 0), (3, .int .i64 0)] (by kernel_rfl) ?_
  clear F a9
  intro a9 F
  refine wpList_nil ?_
  show Code.wp _ _ _ _ _
  replace F := F.cut [(2, .pointer (some ⟨V, 0, none⟩)), (0, .string s)] (by kernel_rfl)
  refine wp_seq ?_
  refine wp_seq ?_
  refine wp_region_lit ?_
  refine fr_ch F 1 [(8, .string s)] (by kernel_rfl) ?_
  clear F a9
  intro a9 F
  refine fr_do F (wanted_free rfl) 9 rfl (by decide) (.bool false) (by intro a' F'; have h8 := F'.at' 8 _ rfl; go_simp) ?_
  clear F a9
  intro a9 F
  refine wpList_nil ?_
  show Code.wp _ _ _ _ _
  refine wp_cond_false (F.ev 9 rfl) ?_
  refine wp_skip ?_
  show Code.wp _ _ _ _ _
  refine wp_seq ?_
  refine wp_seq ?_
  refine wp_region_lit ?_
  refine fr_ch F 1 [(11, .string s)] (by kernel_rfl) ?_
  clear F a9
  intro a9 F
  refine fr_do F (wanted_free rfl) 12 rfl (by decide) (.int .u8 (x : Int)) (by intro a' F'; have h11 := F'.at' 11 _ rfl; go_simp) ?_
  clear F a9
  intro a9 F
  refine fr_call F (wanted_free rfl) 13 rfl (by decide) 65 #[.int .u8 (x : Int)] (by intro a' F'; have h12 := F'.at' 12 _ rfl; go_simp) (read_First x hb2 w9) ?_
  rintro e w8 ⟨rfl, rfl⟩
  rw [hfo]
  refine ⟨_, rfl, ?_⟩
  clear F a9
  intro a9 F
  refine fr_ch F 1 [(14, .bool false)] (by kernel_rfl) ?_
  clear F a9
  intro a9 F
  refine wpList_nil ?_
  show Code.wp _ _ _ _ _
  refine wp_cond_false (F.ev 14 rfl) ?_
  refine wp_skip ?_
  show Code.wp _ _ _ _ _
  refine wp_seq ?_
  refine wp_region_lit ?_
  refine fr_ch F 1 [(17, .string s)] (by kernel_rfl) ?_
  clear F a9
  intro a9 F
  refine fr_do F (wanted_free rfl) 18 rfl (by decide) (.string (s.extract 1 s.size)) (by intro a' F'; have h17 := F'.at' 17 _ rfl; go_simp <;> omega) ?_
  clear F a9
  intro a9 F
  refine fr_call F (wanted_free rfl) 19 rfl (by decide) 66 #[.string (s.extract 1 s.size)] (by intro a' F'; have h18 := F'.at' 18 _ rfl; go_simp) (HRL.out w9) ?_
  rintro e9 w8 ⟨rfl, rfl⟩
  refine ⟨_, rfl, ?_⟩
  clear F a9
  intro a9 F
  refine fr_ch F 7 [(4, .int .i64 ((0 : Nat) : Int)), (6, .int .i64 (u : Int)), (5, .int .i64 (n : Int)), (22, .int .i64 ((0 : Nat) : Int)), (21, .int .i64 (u : Int)), (20, .int .i64 (n : Int)), (16, .tuple #[.int .i64 (n : Int), .int .i64 (u : Int), .int .i64 ((0 : Nat) : Int)])] (by kernel_rfl) ?_
  clear F a9
  intro a9 F
  refine wpList_nil ?_
  show Code.wp _ _ _ _ _
  replace F := F.cut [(6, .int .i64 (u : Int)), (5, .int .i64 (n : Int)), (4, .int .i64 ((0 : Nat) : Int)), (2, .pointer (some ⟨V, 0, none⟩)), (0, .string s)] (by kernel_rfl)
  refine wp_seq ?_
  refine wp_seq ?_
  refine wp_region_lit ?_
  refine fr_ch F 2 [(24, .bool false)] (by kernel_rfl) ?_
  clear F a9
  intro a9 F
  refine wpList_nil ?_
  show Code.wp _ _ _ _ _
  refine wp_cond_false (F.ev 24 rfl) ?_
  refine wp_skip ?_
  show Code.wp _ _ _ _ _
  replace F := F.cut [(6, .int .i64 (u : Int)), (5, .int .i64 (n : Int)), (4, .int .i64 ((0 : Nat) : Int)), (2, .pointer (some ⟨V, 0, none⟩)), (0, .string s)] (by kernel_rfl)
  refine wp_seq ?_
  refine wp_region_lit ?_
  refine fr_ch F 1 [(27, .int .i64 (u : Int))] (by kernel_rfl) ?_
  clear F a9
  intro a9 F
  refine fr_do F (wanted_free rfl) 28 rfl (by decide) (.int .i64 ((u + 1 : Nat) : Int)) (by intro a' F'; have h27 := F'.at' 27 _ rfl; go_simp <;> (rw [IntKind.wrap_i64]; omega)) ?_
  clear F a9
  intro a9 F
  refine fr_ch F 1 [(6, .int .i64 ((u + 1 : Nat) : Int))] (by kernel_rfl) ?_
  clear F a9
  intro a9 F
  refine wpList_nil ?_
  show Code.wp _ _ _ _ _
  replace F := F.cut [(6, .int .i64 ((u + 1 : Nat) : Int)), (5, .int .i64 (n : Int)), (4, .int .i64 ((0 : Nat) : Int)), (2, .pointer (some ⟨V, 0, none⟩)), (0, .string s)] (by kernel_rfl)
  refine wp_seq ?_
  refine wp_seq ?_
  refine wp_region_lit ?_
  refine fr_ch F 3 [(31, .int .i64 ((u + 1 : Nat) : Int)), (30, .int .i64 (s.size : Int))] (by kernel_rfl) ?_
  clear F a9
  intro a9 F
  refine fr_do F (wanted_free rfl) 32 rfl (by decide) (.int .i64 ((s.size : Int) - ((u + 1 : Nat) : Int))) (by intro a' F'; have h30 := F'.at' 30 _ rfl; have h31 := F'.at' 31 _ rfl; go_simp <;> (rw [IntKind.wrap_i64]; omega)) ?_
  clear F a9
  intro a9 F
  refine fr_ch F 1 [(33, .int .i64 (n : Int))] (by kernel_rfl) ?_
  clear F a9
  intro a9 F
  refine fr_do F (wanted_free rfl) 34 rfl (by decide) (.bool true) (by intro a' F'; have h32 := F'.at' 32 _ rfl; have h33 := F'.at' 33 _ rfl; go_simp <;> omega) ?_
  clear F a9
  intro a9 F
  refine wpList_nil ?_
  show Code.wp _ _ _ _ _
  refine wp_cond_true (F.ev 34 rfl) ?_
  refine wp_seq ?_
  refine wp_region_lit ?_
  refine fr_do F (wanted_free rfl) 35 rfl (by decide) (.agg (pkV Pk.zero none 0)) (fun a' F' => run_build_to rfl (by simp only [List.map_toArray, List.map_nil]; exact built_zero)) ?_
  clear F a9
  intro a9 F
  refine fr_storeO F HK 0 rfl rfl rfl 27 (.tmp 2) (.tmp 35) rfl (pkV Pk.zero none 0) (fun a' F' => F'.ev 2 rfl) (fun a' F' => F'.ev 35 rfl) infoPk rfl (pk_one _ _ _) ?_
  intro a10 w10 F' HK' HO
  clear HK F HO
  clear a9 w9
  rename World => w9
  rename Act => a9
  have HK := HK'
  have F := F'
  clear HK' F'
  refine fr_ch F 2 [(4, .int .i64 2), (3, .int .i64 0)] (by kernel_rfl) ?_
  clear F a9
  intro a9 F
  refine wpList_nil ?_
  show Code.wp _ _ _ _ _
  refine wp_ret ?_
  exact fr_ret3 F rfl rfl (HK.at 0 rfl) Tryd.underlying27 rfl infoPk _ _ rfl rfl (FIN.out _ HK.low)
set_option maxRecDepth 100000 in
set_option maxHeartbeats 4000000 in
theorem dec_level (s : ByteArray) (hs : s.size ≤ 90000000) (w : World) (hE : Env w) (b : UInt8) (t : Bs) (h0 : bl s = b :: t) (hfo : firstOk b.toNat = true) (n u : Nat) (hlr : lenR t = (n, u, 0)) (hsh : ¬ t.length - u < n) (hb16 : b.toNat / 16 = 1) (hn6 : 6 < n) (h6 : ((t.drop u).take n).take 6 = dataB mqtt) (l : UInt8) (hl6 : ((t.drop u).take n)[6]? = some l) (hl4 : l ≠ 4) (hsp : bodyR b.toNat ((t.drop u).take n) = ({ Pk.zero with ty := 1, level := l.toNat }, 0)) : Calls Tryd.prog 43 #[.string s] w (RetDec w (decR (bl s))) := by
  have FIN : ∀ w', Below w.heap.size w w' → RetDec w (decR (bl s)) (.returned (.tuple #[.agg (pkV { Pk.zero with ty := 1, level := l.toNat } none 0), .int .i64 ((u + 1 + n : Nat) : Int), .int .i64 0])) w' := fun w' h => ret_dec { Pk.zero with ty := 1, level := l.toNat } (u + 1 + n) 0 (by
    rw [h0]
    simp only [decR]
    rw [if_neg (by rw [hfo]; decide), hlr, if_neg (by simp), if_neg hsh, hsp, if_neg (by simp)]
    simp only [Prod.mk.injEq, true_and, and_true]
    omega) rfl h _ _ rfl rfl
  have hE2 := hE
  obtain ⟨RR, hRR⟩ : ∃ RR, RR = RetDec w (decR (bl s)) := ⟨_, rfl⟩
  rw [← hRR] at FIN
  have FIN := Lib.hid FIN
  rw [← hRR]
  obtain ⟨w9, hw9⟩ : ∃ w9, w9 = w := ⟨_, rfl⟩
  have HK : Keep w [] [] w9 := by rw [hw9]; exact Keep.begin hE [] (by intro r hr; cases hr)
  suffices hgo : Calls Tryd.prog 43 #[.string s] w9 RR by rw [hw9] at hgo; exact hgo
  clear hw9 hRR hE
  have hr : bl (s.extract (u + 1) (u + 1 + n)) = (t.drop u).take n := by rw [bl_extract, h0, List.drop_succ_cons]; congr 1; omega
  have hne : (s.toList == ([] : List UInt8)) = false := by rw [Lib.toList_data]; show (bl s == []) = false; rw [h0]; rfl
  obtain ⟨hg1, hg2⟩ := at_bl s 0 b (by rw [h0]; rfl)
  have hb2 := b.toNat_lt
  have ht1 : bl (s.extract 1 s.size) = t := by rw [bl_from, h0]; rfl
  have hRL := num_ReadLenG (s.extract 1 s.size)
  rw [ht1, hlr] at hRL
  have HRL := Lib.hid (show ∀ w9, Calls Tryd.prog 66 #[.string (s.extract 1 s.size)] w9 (fun e9 w8 => e9 = .returned (.tuple #[.int .i64 (n : Int), .int .i64 (u : Int), .int .i64 ((0 : Nat) : Int)]) ∧ w9 = w8) from fun w9 => hRL w9)
  have hu1 : 1 ≤ s.size := by rw [← bl_len, h0]; simp
  obtain ⟨hu2, hu4, hu5, _, hn5⟩ := lenR_inv hlr
  have hsz : s.size = t.length + 1 := by rw [← bl_len, h0]; rfl
  have hrl : ((t.drop u).take n).length = n := by rw [List.length_take, List.length_drop]; omega
  rw [← hr] at hrl
  have HRS := Lib.hid (show bl (s.extract (u + 1) (u + 1 + n)) = (t.drop u).take n from hr)
  obtain ⟨r, hrr⟩ : ∃ r, s.extract (u + 1) (u + 1 + n) = r := ⟨_, rfl⟩
  have HRR := Lib.hid hrr
  rw [hrr] at hrl
  have hrsz : r.size = n := by rw [← bl_len]; exact hrl
  have hle : u + 1 + n ≤ s.size := by omega
  have hle2 : u + 1 ≤ u + 1 + n := by omega
  have hx16 : b.toNat / 16 = 1 := hb16
  have ht6 : bl (r.extract 0 6) = dataB mqtt := by rw [bl_extract, ← hrr, hr]; exact h6
  have hr6 : (bl r)[6]? = some l := by rw [← hrr, hr]; exact hl6
  obtain ⟨hl1, hl2⟩ := at_bl r 6 l hr6
  have hlv : (r[6]'hl1).toNat = l.toNat := by rw [hl2]
  have hl3 := l.toNat_lt
  have hl4n : l.toNat ≠ 4 := fun h => hl4 (UInt8.toNat_inj.1 h)
  have hpr : r.extract 0 6 = ⟨#[0, 4, 77, 81, 84, 84]⟩ := by
    apply bl_inj
    rw [ht6]
    rfl
  have hprq : ((r.extract 0 6).toList == (⟨#[0, 4, 77, 81, 84, 84]⟩ : ByteArray).toList) = true := by rw [hpr]; simp
  have hn6 : 6 < n := hn6
  have hv : (s[0]'hg1).toNat = b.toNat := by rw [hg2]
  clear hg2
  generalize b.toNat = x at *
  generalize l.toNat = y at *
  have hlt : 6 < r.size := hl1
  clear h0 ht1 hRL hlr hr hrr h6 hl6 hr6 ht6 hsp hl2
  go_enter Tryd.func43, Tryd.ntmps43
  refine wp_forget (n := 124) (L := [(0, .string s)]) (FrL.add (FrL.nil ?_ ?_) _ _ ?_) ?_
  iterate 3 rfl
  intro a9 F
  refine wp_seq ?_
  refine wp_region_lit ?_
  obtain ⟨i0, hi, hz0, hz1, hz2⟩ := info_parts infoPkR
  refine fr_alloc F HK 2 (by decide) rfl 27 rfl rfl i0 _ hi hz0 ?_
  rintro V a10 w10 hV F' HK' hb
  clear HK F hb hV hi hz0 hz1 hz2 i0
  clear a9 w9
  rename World => w9
  rename Act => a9
  have HK := HK'
  have F := F'
  clear HK' F'
  replace HK : Keep w [(V, pkV Pk.zero none 0, 27)] [] w9 := HK
  refine fr_ch F 2 [(4, .int .i64 0), (3, .int .i64 0)] (by kernel_rfl) ?_
  clear F a9
  intro a9 F
  refine wpList_nil ?_
  show Code.wp _ _ _ _ _
  replace F := F.cut [(2, .pointer (some ⟨V, 0, none⟩)), (0, .string s)] (by kernel_rfl)
  refine wp_seq ?_
  refine wp_seq ?_
  refine wp_region_lit ?_
  refine fr_ch F 1 [(8, .string s)] (by kernel_rfl) ?_
  clear F a9
  intro a9 F
  refine fr_do F (wanted_free rfl) 9 rfl (by decide) (.bool false) (by intro a' F'; have h8 := F'.at' 8 _ rfl; go_simp) ?_
  clear F a9
  intro a9 F
  refine wpList_nil ?_
  show Code.wp _ _ _ _ _
  refine wp_cond_false (F.ev 9 rfl) ?_
  refine wp_skip ?_
  show Code.wp _ _ _ _ _
  refine wp_seq ?_
  refine wp_seq ?_
  refine wp_region_lit ?_
  refine fr_ch F 1 [(11, .string s)] (by kernel_rfl) ?_
  clear F a9
  intro a9 F
  refine fr_do F (wanted_free rfl) 12 rfl (by decide) (.int .u8 (x : Int)) (by intro a' F'; have h11 := F'.at' 11 _ rfl; go_simp) ?_
  clear F a9
  intro a9 F
  refine fr_call F (wanted_free rfl) 13 rfl (by decide) 65 #[.int .u8 (x : Int)] (by intro a' F'; have h12 := F'.at' 12 _ rfl; go_simp) (read_First x hb2 w9) ?_
  rintro e w8 ⟨rfl, rfl⟩
  rw [hfo]
  refine ⟨_, rfl, ?_⟩
  clear F a9
  intro a9 F
  refine fr_ch F 1 [(14, .bool false)] (by kernel_rfl) ?_
  clear F a9
  intro a9 F
  refine wpList_nil ?_
  show Code.wp _ _ _ _ _
  refine wp_cond_false (F.ev 14 rfl) ?_
  refine wp_skip ?_
  show Code.wp _ _ _ _ _
  refine wp_seq ?_
  refine wp_region_lit ?_
  refine fr_ch F 1 [(17, .string s)] (by kernel_rfl) ?_
  clear F a9
  intro a9 F
  refine fr_do F (wanted_free rfl) 18 rfl (by decide) (.string (s.extract 1 s.size)) (by intro a' F'; have h17 := F'.at' 17 _ rfl; go_simp <;> omega) ?_
  clear F a9
  intro a9 F
  refine fr_call F (wanted_free rfl) 19 rfl (by decide) 66 #[.string (s.extract 1 s.size)] (by intro a' F'; have h18 := F'.at' 18 _ rfl; go_simp) (HRL.out w9) ?_
  rintro e9 w8 ⟨rfl, rfl⟩
  refine ⟨_, rfl, ?_⟩
  clear F a9
  intro a9 F
  refine fr_ch F 7 [(4, .int .i64 ((0 : Nat) : Int)), (6, .int .i64 (u : Int)), (5, .int .i64 (n : Int)), (22, .int .i64 ((0 : Nat) : Int)), (21, .int .i64 (u : Int)), (20, .int .i64 (n : Int)), (16, .tuple #[.int .i64 (n : Int), .int .i64 (u : Int), .int .i64 ((0 : Nat) : Int)])] (by kernel_rfl) ?_
  clear F a9
  intro a9 F
  refine wpList_nil ?_
  show Code.wp _ _ _ _ _
  replace F := F.cut [(6, .int .i64 (u : Int)), (5, .int .i64 (n : Int)), (4, .int .i64 ((0 : Nat) : Int)), (2, .pointer (some ⟨V, 0, none⟩)), (0, .string s)] (by kernel_rfl)
  refine wp_seq ?_
  refine wp_seq ?_
  refine wp_region_lit ?_
  refine fr_ch F 2 [(24, .bool false)] (by kernel_rfl) ?_
  clear F a9
  intro a9 F
  refine wpList_nil ?_
  show Code.wp _ _ _ _ _
  refine wp_cond_false (F.ev 24 rfl) ?_
  refine wp_skip ?_
  show Code.wp _ _ _ _ _
  replace F := F.cut [(6, .int .i64 (u : Int)), (5, .int .i64 (n : Int)), (4, .int .i64 ((0 : Nat) : Int)), (2, .pointer (some ⟨V, 0, none⟩)), (0, .string s)] (by kernel_rfl)
  refine wp_seq ?_
  refine wp_region_lit ?_
  refine fr_ch F 1 [(27, .int .i64 (u : Int))] (by kernel_rfl) ?_
  clear F a9
  intro a9 F
  refine fr_do F (wanted_free rfl) 28 rfl (by decide) (.int .i64 ((u + 1 : Nat) : Int)) (by intro a' F'; have h27 := F'.at' 27 _ rfl; go_simp <;> (rw [IntKind.wrap_i64]; omega)) ?_
  clear F a9
  intro a9 F
  refine fr_ch F 1 [(6, .int .i64 ((u + 1 : Nat) : Int))] (by kernel_rfl) ?_
  clear F a9
  intro a9 F
  refine wpList_nil ?_
  show Code.wp _ _ _ _ _
  replace F := F.cut [(6, .int .i64 ((u + 1 : Nat) : Int)), (5, .int .i64 (n : Int)), (4, .int .i64 ((0 : Nat) : Int)), (2, .pointer (some ⟨V, 0, none⟩)), (0, .string s)] (by kernel_rfl)
  refine wp_seq ?_
  refine wp_seq ?_
  refine wp_region_lit ?_
  refine fr_ch F 3 [(31, .int .i64 ((u + 1 : Nat) : Int)), (30, .int .i64 (s.size : Int))] (by kernel_rfl) ?_
  clear F a9
  intro a9 F
  refine fr_do F (wanted_free rfl) 32 rfl (by decide) (.int .i64 ((s.size : Int) - ((u + 1 : Nat) : Int))) (by intro a' F'; have h30 := F'.at' 30 _ rfl; have h31 := F'.at' 31 _ rfl; go_simp <;> (rw [IntKind.wrap_i64]; omega)) ?_
  clear F a9
  intro a9 F
  refine fr_ch F 1 [(33, .int .i64 (n : Int))] (by kernel_rfl) ?_
  clear F a9
  intro a9 F
  refine fr_do F (wanted_free rfl) 34 rfl (by decide) (.bool false) (by intro a' F'; have h32 := F'.at' 32 _ rfl; have h33 := F'.at' 33 _ rfl; go_simp <;> omega) ?_
  clear F a9
  intro a9 F
  refine wpList_nil ?_
  show Code.wp _ _ _ _ _
  refine wp_cond_false (F.ev 34 rfl) ?_
  refine wp_skip ?_
  show Code.wp _ _ _ _ _
  replace F := F.cut [(6, .int .i64 ((u + 1 : Nat) : Int)), (5, .int .i64 (n : Int)), (2, .pointer (some ⟨V, 0, none⟩)), (0, .string s)] (by kernel_rfl)
  refine wp_seq ?_
  refine wp_region_lit ?_
  refine fr_ch F 4 [(39, .int .i64 (n : Int)), (38, .int .i64 ((u + 1 : Nat) : Int)), (37, .int .i64 ((u + 1 : Nat) : Int)), (36, .string s)] (by kernel_rfl) ?_
  clear F a9
  intro a9 F
  refine fr_do F (wanted_free rfl) 40 rfl (by decide) (.int .i64 ((u + 1 + n : Nat) : Int)) (by intro a' F'; have h38 := F'.at' 38 _ rfl; have h39 := F'.at' 39 _ rfl; go_simp <;> (rw [IntKind.wrap_i64]; omega)) ?_
  clear F a9
  intro a9 F
  refine fr_do F (wanted_free rfl) 41 rfl (by decide) (.string r) (by intro a' F'; have h36 := F'.at' 36 _ rfl; have h37 := F'.at' 37 _ rfl; have h40 := F'.at' 40 _ rfl; have hq := HRR.out; go_simp <;> (rw [if_pos (by omega), if_pos (by omega), show ((u : Int) + 1 + (n : Int)).toNat = u + 1 + n by omega, hq]; done)) ?_
  clear F a9
  intro a9 F
  refine fr_ch F 2 [(43, .agg (curC (bl r, false) (pkV Pk.zero none 0).toList)), (42, .agg #[.string r, .bool false])] (by kernel_rfl) ?_
  clear F a9
  intro a9 F
  refine fr_box F HK 44 (by decide) rfl 100 _ rfl rfl (curC (bl r, false) (pkV Pk.zero none 0).toList) (fun a' F' => F'.ev 43 rfl) ?_
  rintro X a10 w10 hX F' HK' hb
  clear HK F hb hX
  clear a9 w9
  rename World => w9
  rename Act => a9
  have HK := HK'
  have F := F'
  clear HK' F'
  replace HK : Keep w [(X, curC (bl r, false) (pkV Pk.zero none 0).toList, 100), (V, pkV Pk.zero none 0, 27)] [] w9 := HK
  refine fr_ch F 1 [(7, .pointer (some ⟨X, 0, none⟩))] (by kernel_rfl) ?_
  clear F a9
  intro a9 F
  refine wpList_nil ?_
  show Code.wp _ _ _ _ _
  replace F := F.cut [(7, .pointer (some ⟨X, 0, none⟩)), (6, .int .i64 ((u + 1 : Nat) : Int)), (5, .int .i64 (n : Int)), (2, .pointer (some ⟨V, 0, none⟩)), (0, .string s)] (by kernel_rfl)
  refine wp_seq ?_
  refine wp_region_lit ?_
  refine fr_ch F 2 [(46, .string s), (45, .pointer (some ⟨X, 0, none⟩))] (by kernel_rfl) ?_
  clear F a9
  intro a9 F
  refine fr_do F (wanted_free rfl) 47 rfl (by decide) (.int .u8 (x : Int)) (by intro a' F'; have h46 := F'.at' 46 _ rfl; go_simp) ?_
  clear F a9
  intro a9 F
  refine fr_do F (wanted_free rfl) 48 rfl (by decide) (.int .u8 ((x / 16 : Nat) : Int)) (by intro a' F'; have h47 := F'.at' 47 _ rfl; go_simp <;> omega) ?_
  clear F a9
  intro a9 F
  refine fr_ch F 3 [(51, .pointer (some ⟨X, 2, none⟩)), (50, .pointer (some ⟨X, 2, none⟩)), (49, .pointer (some ⟨X, 0, none⟩))] (by kernel_rfl) ?_
  clear F a9
  intro a9 F
  refine fr_put F HK 0 rfl rfl rfl 5 _ _ rfl 2 (.int .u8 ((x / 16 : Nat) : Int)) (fun a' F' => F'.ev 51 rfl) (fun a' F' => F'.ev 48 rfl) z_u8 (Nat.le_of_ble_eq_true (by kernel_rfl)) (by kernel_rfl) ?_
  clear F HK a9 w9
  intro a9 w9 F HK
  replace HK : Keep w [(X, curC ((bl r), false) (pkV { Pk.zero with ty := (x / 16 : Nat) } none 0).toList, 100), (V, pkV Pk.zero none 0, 27)] [] w9 := HK
  refine wpList_nil ?_
  show Code.wp _ _ _ _ _
  replace F := F.cut [(7, .pointer (some ⟨X, 0, none⟩)), (6, .int .i64 ((u + 1 : Nat) : Int)), (5, .int .i64 (n : Int)), (2, .pointer (some ⟨V, 0, none⟩)), (0, .string s)] (by kernel_rfl)
  refine wp_seq ?_
  refine wp_seq ?_
  refine wp_region_lit ?_
  refine fr_ch F 4 [(55, .pointer (some ⟨X, 2, none⟩))] (by kernel_rfl) ?_
  clear F a9
  intro a9 F
  have hc : w9.cell? ⟨X, 2, none⟩ = some (.int .u8 ((x / 16 : Nat) : Int)) := (HK.at 0 rfl).cells 2
  refine fr_do F (wanted_free rfl) 56 rfl (by decide) (.int .u8 ((x / 16 : Nat) : Int)) (by intro a' F'; have h55 := F'.at' 55 _ rfl; go_simp) ?_
  clear F a9
  intro a9 F
  clear hc
  refine fr_do F (wanted_free rfl) 57 rfl (by decide) (.bool true) (by intro a' F'; have h56 := F'.at' 56 _ rfl; go_simp) ?_
  clear F a9
  intro a9 F
  refine fr_ch F 2 [(59, .int .i64 (n : Int)), (58, .bool true)] (by kernel_rfl) ?_
  clear F a9
  intro a9 F
  refine fr_do F (by rw [wanted_at F rfl (t := 58) (b := true) (by kernel_rfl) rfl]; rfl) 60 rfl (by decide) (.bool true) (by intro a' F'; have h59 := F'.at' 59 _ rfl; go_simp <;> omega) ?_
  clear F a9
  intro a9 F
  refine fr_ch F 6 [(66, .pointer (some ⟨X, 0, none⟩)), (65, .pointer (some ⟨X, 0, none⟩)), (64, .pointer (some ⟨X, 0, none⟩)), (63, .pointer (some ⟨X, 0, none⟩)), (62, .bool true), (61, .bool true)] (by kernel_rfl) ?_
  clear F a9
  intro a9 F
  have hc : w9.cell? ⟨X, 0, none⟩ = some (.string r) := (HK.at 0 rfl).cells 0
  refine fr_do F (by rw [wanted_at F rfl (t := 62) (b := true) (by kernel_rfl) rfl]; rfl) 67 rfl (by decide) (.string r) (by intro a' F'; have h66 := F'.at' 66 _ rfl; go_simp) ?_
  clear F a9
  intro a9 F
  clear hc
  refine fr_do F (by rw [wanted_at F rfl (t := 62) (b := true) (by kernel_rfl) rfl]; rfl) 68 rfl (by decide) (.string (r.extract 0 6)) (by intro a' F'; have h67 := F'.at' 67 _ rfl; go_simp <;> omega) ?_
  clear F a9
  intro a9 F
  refine fr_do F (by rw [wanted_at F rfl (t := 62) (b := true) (by kernel_rfl) rfl]; rfl) 69 rfl (by decide) (.bool true) (by intro a' F'; have h68 := F'.at' 68 _ rfl; go_simp) ?_
  clear F a9
  intro a9 F
  refine fr_ch F 6 [(75, .pointer (some ⟨X, 0, none⟩)), (74, .pointer (some ⟨X, 0, none⟩)), (73, .pointer (some ⟨X, 0, none⟩)), (72, .pointer (some ⟨X, 0, none⟩)), (71, .bool true), (70, .bool true)] (by kernel_rfl) ?_
  clear F a9
  intro a9 F
  have hc : w9.cell? ⟨X, 0, none⟩ = some (.string r) := (HK.at 0 rfl).cells 0
  refine fr_do F (by rw [wanted_at F rfl (t := 71) (b := true) (by kernel_rfl) rfl]; rfl) 76 rfl (by decide) (.string r) (by intro a' F'; have h75 := F'.at' 75 _ rfl; go_simp) ?_
  clear F a9
  intro a9 F
  clear hc
  refine fr_do F (by rw [wanted_at F rfl (t := 71) (b := true) (by kernel_rfl) rfl]; rfl) 77 rfl (by decide) (.int .u8 (y : Int)) (by intro a' F'; have h76 := F'.at' 76 _ rfl; go_simp <;> omega) ?_
  clear F a9
  intro a9 F
  refine fr_do F (by rw [wanted_at F rfl (t := 71) (b := true) (by kernel_rfl) rfl]; rfl) 78 rfl (by decide) (.bool true) (by intro a' F'; have h77 := F'.at' 77 _ rfl; go_simp <;> omega) ?_
  clear F a9
  intro a9 F
  refine fr_ch F 1 [(79, .bool true)] (by kernel_rfl) ?_
  clear F a9
  intro a9 F
  refine wpList_nil ?_
  show Code.wp _ _ _ _ _
  refine wp_cond_true (F.ev 79 rfl) ?_
  replace F := F.cut [(7, .pointer (some ⟨X, 0, none⟩)), (6, .int .i64 ((u + 1 : Nat) : Int)), (5, .int .i64 (n : Int)), (2, .pointer (some ⟨V, 0, none⟩)), (0, .string s)] (by kernel_rfl)
  refine wp_seq ?_
  refine wp_region_lit ?_
  refine fr_ch F 4 [(83, .pointer (some ⟨X, 0, none⟩))] (by kernel_rfl) ?_
  clear F a9
  intro a9 F
  have hc : w9.cell? ⟨X, 0, none⟩ = some (.string r) := (HK.at 0 rfl).cells 0
  refine fr_do F (wanted_free rfl) 84 rfl (by decide) (.string r) (by intro a' F'; have h83 := F'.at' 83 _ rfl; go_simp) ?_
  clear F a9
  intro a9 F
  clear hc
  refine fr_do F (wanted_free rfl) 85 rfl (by decide) (.int .u8 (y : Int)) (by intro a' F'; have h84 := F'.at' 84 _ rfl; go_simp <;> omega) ?_
  clear F a9
  intro a9 F
  refine fr_ch F 3 [(88, .int .i64 (n : Int)), (87, .int .i64 ((u + 1 : Nat) : Int)), (86, .agg (pkV { Pk.zero with ty := 1, level := y } none 0))] (by kernel_rfl) ?_
  clear F a9
  intro a9 F
  refine fr_do F (wanted_free rfl) 89 rfl (by decide) (.int .i64 ((u + 1 + n : Nat) : Int)) (by intro a' F'; have h87 := F'.at' 87 _ rfl; have h88 := F'.at' 88 _ rfl; go_simp <;> (rw [IntKind.wrap_i64]; omega)) ?_
  clear F a9
  intro a9 F
  refine fr_storeO F HK 1 rfl rfl rfl 27 (.tmp 2) (.tmp 86) rfl (pkV { Pk.zero with ty := 1, level := y } none 0) (fun a' F' => F'.ev 2 rfl) (fun a' F' => F'.ev 86 rfl) infoPk rfl (pk_one _ _ _) ?_
  intro a10 w10 F' HK' HO
  clear HK F HO
  clear a9 w9
  rename World => w9
  rename Act => a9
  have HK := HK'
  have F := F'
  clear HK' F'
  refine fr_ch F 2 [(4, .int .i64 0), (3, .int .i64 ((u + 1 + n : Nat) : Int))] (by kernel_rfl) ?_
  clear F a9
  intro a9 F
  refine wpList_nil ?_
  show Code.wp _ _ _ _ _
  refine wp_ret ?_
  exact fr_ret3 F rfl rfl (HK.at 1 rfl) Tryd.underlying27 rfl infoPk _ _ rfl rfl (FIN.out _ HK.low)
set_option maxRecDepth 100000 in
set_option maxHeartbeats 4000000 in
theorem dec_body (s : ByteArray) (hs : s.size ≤ 90000000) (w : World) (hE : Env w) (b : UInt8) (t : Bs) (h0 : bl s = b :: t) (hfo : firstOk b.toNat = true) (n u : Nat) (hlr : lenR t = (n, u, 0)) (hsh : ¬ t.length - u < n) (hns : ¬ (b.toNat / 16 = 1 ∧ 6 < ((t.drop u).take n).length ∧ ((t.drop u).take n).take 6 = dataB mqtt ∧ ((t.drop u).take n)[6]? ≠ some 4)) (p : Pk) (L2 : Bs) (k2 : Bool) (hal : allR (b.toNat / 16) (b.toNat % 16) ((t.drop u).take n, false) = (p, (L2, k2))) : Calls Tryd.prog 43 #[.string s] w (RetDec w (decR (bl s))) := by
  have FBAD : (k2 = true ∨ L2 ≠ [] ∨ restP p < 0) → ∀ w', Below w.heap.size w w' → RetDec w (decR (bl s)) (.returned (.tuple #[.agg (pkV Pk.zero none 0), .int .i64 0, .int .i64 4])) w' := fun hbad w' h => ret_dec Pk.zero 0 4 (by
    rw [h0]
    simp only [decR]
    rw [if_neg (by rw [hfo]; decide), hlr, if_neg (by simp), if_neg hsh]
    have e : bodyR b.toNat ((t.drop u).take n) = (Pk.zero, 4) := by
      unfold bodyR
      rw [if_neg hns, hal]
      simp only
      rw [if_pos hbad]
    rw [e, if_pos (by simp)]) rfl h _ _ rfl rfl
  have FOK : k2 = false → L2 = [] → 0 ≤ restP p → ∀ w' al cap, w'.ownsRow w.heap.size 31 2 (.slice al p.subs.length cap) p.subs.length (subCells p.subs) → Below w.heap.size w w' → RetDec w (decR (bl s)) (.returned (.tuple #[.agg (pkV p al cap), .int .i64 ((u + 1 + n : Nat) : Int), .int .i64 0])) w' := fun h1 h2 h3 w' al cap ho hb => by
    have e : decR (bl s) = (p, u + 1 + n, 0) := by
      rw [h0]
      simp only [decR]
      rw [if_neg (by rw [hfo]; decide), hlr, if_neg (by simp), if_neg hsh]
      have e : bodyR b.toNat ((t.drop u).take n) = (p, 0) := by
        unfold bodyR
        rw [if_neg hns, hal]
        simp only
        rw [if_neg (by rw [h1, h2]; simp; omega)]
      rw [e, if_neg (by simp)]
      simp only [Prod.mk.injEq, true_and, and_true]
      omega
    rw [e]
    exact ⟨al, cap, rfl, ho, hb⟩
  obtain ⟨RR, hRR⟩ : ∃ RR, RR = RetDec w (decR (bl s)) := ⟨_, rfl⟩
  rw [← hRR] at FBAD FOK
  have FBAD := Lib.hid FBAD
  have FOK := Lib.hid FOK
  rw [← hRR]
  obtain ⟨w9, hw9⟩ : ∃ w9, w9 = w := ⟨_, rfl⟩
  have HK : Keep w [] [] w9 := by rw [hw9]; exact Keep.begin hE [] (by intro r hr; cases hr)
  suffices hgo : Calls Tryd.prog 43 #[.string s] w9 RR by rw [hw9] at hgo; exact hgo
  clear hw9 hRR hE
  have hr : bl (s.extract (u + 1) (u + 1 + n)) = (t.drop u).take n := by rw [bl_extract, h0, List.drop_succ_cons]; congr 1; omega
  have hne : (s.toList == ([] : List UInt8)) = false := by rw [Lib.toList_data]; show (bl s == []) = false; rw [h0]; rfl
  obtain ⟨hg1, hg2⟩ := at_bl s 0 b (by rw [h0]; rfl)
  have hb2 := b.toNat_lt
  have ht1 : bl (s.extract 1 s.size) = t := by rw [bl_from, h0]; rfl
  have hRL := num_ReadLenG (s.extract 1 s.size)
  rw [ht1, hlr] at hRL
  have HRL := Lib.hid (show ∀ w9, Calls Tryd.prog 66 #[.string (s.extract 1 s.size)] w9 (fun e9 w8 => e9 = .returned (.tuple #[.int .i64 (n : Int), .int .i64 (u : Int), .int .i64 ((0 : Nat) : Int)]) ∧ w9 = w8) from fun w9 => hRL w9)
  have hu1 : 1 ≤ s.size := by rw [← bl_len, h0]; simp
  obtain ⟨hu2, hu4, hu5, _, hn5⟩ := lenR_inv hlr
  have hsz : s.size = t.length + 1 := by rw [← bl_len, h0]; rfl
  have hrl : ((t.drop u).take n).length = n := by rw [List.length_take, List.length_drop]; omega
  rw [← hr] at hrl
  have HRS := Lib.hid (show bl (s.extract (u + 1) (u + 1 + n)) = (t.drop u).take n from hr)
  obtain ⟨r, hrr⟩ : ∃ r, s.extract (u + 1) (u + 1 + n) = r := ⟨_, rfl⟩
  have HRR := Lib.hid hrr
  rw [hrr] at hrl
  have hrsz : r.size = n := by rw [← bl_len]; exact hrl
  have hle : u + 1 + n ≤ s.size := by omega
  have hle2 : u + 1 ≤ u + 1 + n := by omega
  have hpk := allR_pk (b.toNat / 16) (b.toNat % 16) (by have := b.toNat_lt; omega) ((t.drop u).take n, false) (by simp only; rw [← hr, hrr, hrl]; omega)
  rw [hal] at hpk
  have hrt : (t.drop u).take n = bl r := by rw [← hrr, hr]
  rw [hrt] at hal hns
  have HPK := Lib.hid hpk
  have HALL := Lib.hid (show ∀ (X V : Nat) w9, Keep w [(X, curC (bl r, false) (pkV { Pk.zero with ty := b.toNat / 16 } none 0).toList, 100), (V, pkV Pk.zero none 0, 27)] [] w9 → Calls Tryd.prog 67 #[.pointer (some ⟨X, 0, none⟩), .int .u8 ((b.toNat % 16 : Nat) : Int)] w9 fun e w' => e = .returned (.tuple #[]) ∧ ∃ (al : Option Addr) (cap : Nat), Keep w [(X, curC (L2, k2) (pkV p al cap).toList, 100), (V, pkV Pk.zero none 0, 27)] [] w' ∧ w'.ownsRow w.heap.size 31 2 (.slice al p.subs.length cap) p.subs.length (subCells p.subs) from fun X V w9 h => by
    have h2 := rest_all (b.toNat / 16) (b.toNat % 16) (by omega) (bl r, false) (by simp only; rw [hrl]; omega) h (by decide) (by intro x hx; simp at hx; subst hx; exact (by decide : 27 ≠ 31))
    rw [hal] at h2
    exact h2)
  have H15 := Lib.hid (and15 b.toNat b.toNat_lt)
  obtain ⟨c1, hc1⟩ : ∃ c, decide (b.toNat / 16 = 1) = c := ⟨_, rfl⟩
  obtain ⟨c3, hc3⟩ : ∃ c, ((r.extract 0 6).toList == (⟨#[0, 4, 77, 81, 84, 84]⟩ : ByteArray).toList) = c := ⟨_, rfl⟩
  have hns2 : c1 = true → 6 < n → c3 = true → ∀ h : 6 < r.size, (r[6]'h).toNat = 4 := fun h1 h2 h3 h => by
    subst h1 h3
    apply Classical.byContradiction
    intro hne
    apply hns
    refine ⟨of_decide_eq_true hc1, by rw [hrl]; exact h2, ?_, ?_⟩
    · rw [beq_iff_eq, Lib.toList_data, Lib.toList_data] at hc3
      have e : bl (r.extract 0 6) = dataB mqtt := hc3
      rw [bl_extract] at e
      exact e
    · rw [get_bl r 6 h]
      intro e
      injection e with e
      apply hne
      rw [e]
      rfl
  have HNS := Lib.hid hns2
  have HC3 := Lib.hid hc3
  clear hc3 hns2
  have hv : (s[0]'hg1).toNat = b.toNat := by rw [hg2]
  clear hg2
  generalize b.toNat = x at *
  clear h0 ht1 hRL hlr hr hrr hrt hal hns hpk
  go_enter Tryd.func43, Tryd.ntmps43
  refine wp_forget (n := 124) (L := [(0, .string s)]) (FrL.add (FrL.nil ?_ ?_) _ _ ?_) ?_
  iterate 3 rfl
  intro a9 F
  refine wp_seq ?_
  refine wp_region_lit ?_
  obtain ⟨i0, hi, hz0, hz1, hz2⟩ := info_parts infoPkR
  refine fr_alloc F HK 2 (by decide) rfl 27 rfl rfl i0 _ hi hz0 ?_
  rintro V a10 w10 hV F' HK' hb
  clear HK F hb hV hi hz0 hz1 hz2 i0
  clear a9 w9
  rename World => w9
  rename Act => a9
  have HK := HK'
  have F := F'
  clear HK' F'
  replace HK : Keep w [(V, pkV Pk.zero none 0, 27)] [] w9 := HK
  refine fr_ch F 2 [(4, .int .i64 0), (3, .int .i64 0)] (by kernel_rfl) ?_
  clear F a9
  intro a9 F
  refine wpList_nil ?_
  show Code.wp _ _ _ _ _
  replace F := F.cut [(2, .pointer (some ⟨V, 0, none⟩)), (0, .string s)] (by kernel_rfl)
  refine wp_seq ?_
  refine wp_seq ?_
  refine wp_region_lit ?_
  refine fr_ch F 1 [(8, .string s)] (by kernel_rfl) ?_
  clear F a9
  intro a9 F
  refine fr_do F (wanted_free rfl) 9 rfl (by decide) (.bool false) (by intro a' F'; have h8 := F'.at' 8 _ rfl; go_simp) ?_
  clear F a9
  intro a9 F
  refine wpList_nil ?_
  show Code.wp _ _ _ _ _
  refine wp_cond_false (F.ev 9 rfl) ?_
  refine wp_skip ?_
  show Code.wp _ _ _ _ _
  refine wp_seq ?_
  refine wp_seq ?_
  refine wp_region_lit ?_
  refine fr_ch F 1 [(11, .string s)] (by kernel_rfl) ?_
  clear F a9
  intro a9 F
  refine fr_do F (wanted_free rfl) 12 rfl (by decide) (.int .u8 (x : Int)) (by intro a' F'; have h11 := F'.at' 11 _ rfl; go_simp) ?_
  clear F a9
  intro a9 F
  refine fr_call F (wanted_free rfl) 13 rfl (by decide) 65 #[.int .u8 (x : Int)] (by intro a' F'; have h12 := F'.at' 12 _ rfl; go_simp) (read_First x hb2 w9) ?_
  rintro e w8 ⟨rfl, rfl⟩
  rw [hfo]
  refine ⟨_, rfl, ?_⟩
  clear F a9
  intro a9 F
  refine fr_ch F 1 [(14, .bool false)] (by kernel_rfl) ?_
  clear F a9
  intro a9 F
  refine wpList_nil ?_
  show Code.wp _ _ _ _ _
  refine wp_cond_false (F.ev 14 rfl) ?_
  refine wp_skip ?_
  show Code.wp _ _ _ _ _
  refine wp_seq ?_
  refine wp_region_lit ?_
  refine fr_ch F 1 [(17, .string s)] (by kernel_rfl) ?_
  clear F a9
  intro a9 F
  refine fr_do F (wanted_free rfl) 18 rfl (by decide) (.string (s.extract 1 s.size)) (by intro a' F'; have h17 := F'.at' 17 _ rfl; go_simp <;> omega) ?_
  clear F a9
  intro a9 F
  refine fr_call F (wanted_free rfl) 19 rfl (by decide) 66 #[.string (s.extract 1 s.size)] (by intro a' F'; have h18 := F'.at' 18 _ rfl; go_simp) (HRL.out w9) ?_
  rintro e9 w8 ⟨rfl, rfl⟩
  refine ⟨_, rfl, ?_⟩
  clear F a9
  intro a9 F
  refine fr_ch F 7 [(4, .int .i64 ((0 : Nat) : Int)), (6, .int .i64 (u : Int)), (5, .int .i64 (n : Int)), (22, .int .i64 ((0 : Nat) : Int)), (21, .int .i64 (u : Int)), (20, .int .i64 (n : Int)), (16, .tuple #[.int .i64 (n : Int), .int .i64 (u : Int), .int .i64 ((0 : Nat) : Int)])] (by kernel_rfl) ?_
  clear F a9
  intro a9 F
  refine wpList_nil ?_
  show Code.wp _ _ _ _ _
  replace F := F.cut [(6, .int .i64 (u : Int)), (5, .int .i64 (n : Int)), (4, .int .i64 ((0 : Nat) : Int)), (2, .pointer (some ⟨V, 0, none⟩)), (0, .string s)] (by kernel_rfl)
  refine wp_seq ?_
  refine wp_seq ?_
  refine wp_region_lit ?_
  refine fr_ch F 2 [(24, .bool false)] (by kernel_rfl) ?_
  clear F a9
  intro a9 F
  refine wpList_nil ?_
  show Code.wp _ _ _ _ _
  refine wp_cond_false (F.ev 24 rfl) ?_
  refine wp_skip ?_
  show Code.wp _ _ _ _ _
  replace F := F.cut [(6, .int .i64 (u : Int)), (5, .int .i64 (n : Int)), (4, .int .i64 ((0 : Nat) : Int)), (2, .pointer (some ⟨V, 0, none⟩)), (0, .string s)] (by kernel_rfl)
  refine wp_seq ?_
  refine wp_region_lit ?_
  refine fr_ch F 1 [(27, .int .i64 (u : Int))] (by kernel_rfl) ?_
  clear F a9
  intro a9 F
  refine fr_do F (wanted_free rfl) 28 rfl (by decide) (.int .i64 ((u + 1 : Nat) : Int)) (by intro a' F'; have h27 := F'.at' 27 _ rfl; go_simp <;> (rw [IntKind.wrap_i64]; omega)) ?_
  clear F a9
  intro a9 F
  refine fr_ch F 1 [(6, .int .i64 ((u + 1 : Nat) : Int))] (by kernel_rfl) ?_
  clear F a9
  intro a9 F
  refine wpList_nil ?_
  show Code.wp _ _ _ _ _
  replace F := F.cut [(6, .int .i64 ((u + 1 : Nat) : Int)), (5, .int .i64 (n : Int)), (4, .int .i64 ((0 : Nat) : Int)), (2, .pointer (some ⟨V, 0, none⟩)), (0, .string s)] (by kernel_rfl)
  refine wp_seq ?_
  refine wp_seq ?_
  refine wp_region_lit ?_
  refine fr_ch F 3 [(31, .int .i64 ((u + 1 : Nat) : Int)), (30, .int .i64 (s.size : Int))] (by kernel_rfl) ?_
  clear F a9
  intro a9 F
  refine fr_do F (wanted_free rfl) 32 rfl (by decide) (.int .i64 ((s.size : Int) - ((u + 1 : Nat) : Int))) (by intro a' F'; have h30 := F'.at' 30 _ rfl; have h31 := F'.at' 31 _ rfl; go_simp <;> (rw [IntKind.wrap_i64]; omega)) ?_
  clear F a9
  intro a9 F
  refine fr_ch F 1 [(33, .int .i64 (n : Int))] (by kernel_rfl) ?_
  clear F a9
  intro a9 F
  refine fr_do F (wanted_free rfl) 34 rfl (by decide) (.bool false) (by intro a' F'; have h32 := F'.at' 32 _ rfl; have h33 := F'.at' 33 _ rfl; go_simp <;> omega) ?_
  clear F a9
  intro a9 F
  refine wpList_nil ?_
  show Code.wp _ _ _ _ _
  refine wp_cond_false (F.ev 34 rfl) ?_
  refine wp_skip ?_
  show Code.wp _ _ _ _ _
  replace F := F.cut [(6, .int .i64 ((u + 1 : Nat) : Int)), (5, .int .i64 (n : Int)), (2, .pointer (some ⟨V, 0, none⟩)), (0, .string s)] (by kernel_rfl)
  refine wp_seq ?_
  refine wp_region_lit ?_
  refine fr_ch F 4 [(39, .int .i64 (n : Int)), (38, .int .i64 ((u + 1 : Nat) : Int)), (37, .int .i64 ((u + 1 : Nat) : Int)), (36, .string s)] (by kernel_rfl) ?_
  clear F a9
  intro a9 F
  refine fr_do F (wanted_free rfl) 40 rfl (by decide) (.int .i64 ((u + 1 + n : Nat) : Int)) (by intro a' F'; have h38 := F'.at' 38 _ rfl; have h39 := F'.at' 39 _ rfl; go_simp <;> (rw [IntKind.wrap_i64]; omega)) ?_
  clear F a9
  intro a9 F
  refine fr_do F (wanted_free rfl) 41 rfl (by decide) (.string r) (by intro a' F'; have h36 := F'.at' 36 _ rfl; have h37 := F'.at' 37 _ rfl; have h40 := F'.at' 40 _ rfl; have hq := HRR.out; go_simp <;> (rw [if_pos (by omega), if_pos (by omega), show ((u : Int) + 1 + (n : Int)).toNat = u + 1 + n by omega, hq]; done)) ?_
  clear F a9
  intro a9 F
  refine fr_ch F 2 [(43, .agg (curC (bl r, false) (pkV Pk.zero none 0).toList)), (42, .agg #[.string r, .bool false])] (by kernel_rfl) ?_
  clear F a9
  intro a9 F
  refine fr_box F HK 44 (by decide) rfl 100 _ rfl rfl (curC (bl r, false) (pkV Pk.zero none 0).toList) (fun a' F' => F'.ev 43 rfl) ?_
  rintro X a10 w10 hX F' HK' hb
  clear HK F hb hX
  clear a9 w9
  rename World => w9
  rename Act => a9
  have HK := HK'
  have F := F'
  clear HK' F'
  replace HK : Keep w [(X, curC (bl r, false) (pkV Pk.zero none 0).toList, 100), (V, pkV Pk.zero none 0, 27)] [] w9 := HK
  refine fr_ch F 1 [(7, .pointer (some ⟨X, 0, none⟩))] (by kernel_rfl) ?_
  clear F a9
  intro a9 F
  refine wpList_nil ?_
  show Code.wp _ _ _ _ _
  replace F := F.cut [(7, .pointer (some ⟨X, 0, none⟩)), (6, .int .i64 ((u + 1 : Nat) : Int)), (5, .int .i64 (n : Int)), (2, .pointer (some ⟨V, 0, none⟩)), (0, .string s)] (by kernel_rfl)
  refine wp_seq ?_
  refine wp_region_lit ?_
  refine fr_ch F 2 [(46, .string s), (45, .pointer (some ⟨X, 0, none⟩))] (by kernel_rfl) ?_
  clear F a9
  intro a9 F
  refine fr_do F (wanted_free rfl) 47 rfl (by decide) (.int .u8 (x : Int)) (by intro a' F'; have h46 := F'.at' 46 _ rfl; go_simp) ?_
  clear F a9
  intro a9 F
  refine fr_do F (wanted_free rfl) 48 rfl (by decide) (.int .u8 ((x / 16 : Nat) : Int)) (by intro a' F'; have h47 := F'.at' 47 _ rfl; go_simp) ?_
  clear F a9
  intro a9 F
  refine fr_ch F 3 [(51, .pointer (some ⟨X, 2, none⟩)), (50, .pointer (some ⟨X, 2, none⟩)), (49, .pointer (some ⟨X, 0, none⟩))] (by kernel_rfl) ?_
  clear F a9
  intro a9 F
  refine fr_put F HK 0 rfl rfl rfl 5 _ _ rfl 2 (.int .u8 ((x / 16 : Nat) : Int)) (fun a' F' => F'.ev 51 rfl) (fun a' F' => F'.ev 48 rfl) z_u8 (Nat.le_of_ble_eq_true (by kernel_rfl)) (by kernel_rfl) ?_
  clear F HK a9 w9
  intro a9 w9 F HK
  replace HK : Keep w [(X, curC ((bl r), false) (pkV { Pk.zero with ty := (x / 16 : Nat) } none 0).toList, 100), (V, pkV Pk.zero none 0, 27)] [] w9 := HK
  refine wpList_nil ?_
  show Code.wp _ _ _ _ _
  replace F := F.cut [(7, .pointer (some ⟨X, 0, none⟩)), (6, .int .i64 ((u + 1 : Nat) : Int)), (5, .int .i64 (n : Int)), (2, .pointer (some ⟨V, 0, none⟩)), (0, .string s)] (by kernel_rfl)
  refine wp_seq_meet (fun a' w' => FrL 124 [(7, .pointer (some ⟨X, 0, none⟩)), (6, .int .i64 ((u + 1 : Nat) : Int)), (5, .int .i64 (n : Int)), (2, .pointer (some ⟨V, 0, none⟩)), (0, .string s)] a' ∧ Keep w [(X, curC ((bl r), false) (pkV { Pk.zero with ty := (x / 16 : Nat) } none 0).toList, 100), (V, pkV Pk.zero none 0, 27)] [] w') ?_ ?_
  · skip
    cases c1
    · have hcc := of_decide_eq_false hc1
      clear hc1
      refine wp_seq ?_
      refine wp_region_lit ?_
      refine fr_ch F 4 [(55, .pointer (some ⟨X, 2, none⟩)), (54, .pointer (some ⟨X, 2, none⟩)), (53, .pointer (some ⟨X, 0, none⟩)), (52, .pointer (some ⟨X, 0, none⟩))] (by kernel_rfl) ?_
      clear F a9
      intro a9 F
      have hc : w9.cell? ⟨X, 2, none⟩ = some (.int .u8 ((x / 16 : Nat) : Int)) := (HK.at 0 rfl).cells 2
      refine fr_do F (wanted_free rfl) 56 rfl (by decide) (.int .u8 ((x / 16 : Nat) : Int)) (by intro a' F'; have h55 := F'.at' 55 _ rfl; go_simp) ?_
      clear F a9
      intro a9 F
      clear hc
      refine fr_do F (wanted_free rfl) 57 rfl (by decide) (.bool false) (by intro a' F'; have h56 := F'.at' 56 _ rfl; go_simp <;> omega) ?_
      clear F a9
      intro a9 F
      refine fr_ch F 22 [(79, .bool false), (78, undef), (77, undef), (76, undef), (75, undef), (74, undef), (73, undef), (72, undef), (71, .bool false), (70, .bool false), (69, undef), (68, undef), (67, undef), (66, undef), (65, undef), (64, undef), (63, undef), (62, .bool false), (61, .bool false), (60, undef), (59, undef), (58, .bool false)] (by kernel_rfl) ?_
      clear F a9
      intro a9 F
      refine wpList_nil ?_
      show Code.wp _ _ _ _ _
      refine wp_cond_false (F.ev 79 rfl) ?_
      refine wp_skip ?_
      exact ⟨((((((FrL.nil F.size F.defers).add 0 _ (F.at' 0 _ rfl)).add 2 _ (F.at' 2 _ rfl)).add 5 _ (F.at' 5 _ rfl)).add 6 _ (F.at' 6 _ rfl)).add 7 _ (F.at' 7 _ rfl)), HK⟩
    · have hcc := of_decide_eq_true hc1
      clear hc1
      by_cases hn6 : 6 < n
      · have hlt : 6 < r.size := by omega
        cases c3
        · skip
          refine wp_seq ?_
          refine wp_region_lit ?_
          refine fr_ch F 4 [(55, .pointer (some ⟨X, 2, none⟩)), (54, .pointer (some ⟨X, 2, none⟩)), (53, .pointer (some ⟨X, 0, none⟩)), (52, .pointer (some ⟨X, 0, none⟩))] (by kernel_rfl) ?_
          clear F a9
          intro a9 F
          have hc : w9.cell? ⟨X, 2, none⟩ = some (.int .u8 ((x / 16 : Nat) : Int)) := (HK.at 0 rfl).cells 2
          refine fr_do F (wanted_free rfl) 56 rfl (by decide) (.int .u8 ((x / 16 : Nat) : Int)) (by intro a' F'; have h55 := F'.at' 55 _ rfl; go_simp) ?_
          clear F a9
          intro a9 F
          clear hc
          refine fr_do F (wanted_free rfl) 57 rfl (by decide) (.bool true) (by intro a' F'; have h56 := F'.at' 56 _ rfl; go_simp) ?_
          clear F a9
          intro a9 F
          refine fr_ch F 2 [(59, .int .i64 (n : Int)), (58, .bool true)] (by kernel_rfl) ?_
          clear F a9
          intro a9 F
          refine fr_do F (by rw [wanted_at F rfl (t := 58) (b := true) (by kernel_rfl) rfl]; rfl) 60 rfl (by decide) (.bool true) (by intro a' F'; have h59 := F'.at' 59 _ rfl; go_simp <;> omega) ?_
          clear F a9
          intro a9 F
          refine fr_ch F 6 [(66, .pointer (some ⟨X, 0, none⟩)), (65, .pointer (some ⟨X, 0, none⟩)), (64, .pointer (some ⟨X, 0, none⟩)), (63, .pointer (some ⟨X, 0, none⟩)), (62, .bool true), (61, .bool true)] (by kernel_rfl) ?_
          clear F a9
          intro a9 F
          have hc : w9.cell? ⟨X, 0, none⟩ = some (.string r) := (HK.at 0 rfl).cells 0
          refine fr_do F (by rw [wanted_at F rfl (t := 62) (b := true) (by kernel_rfl) rfl]; rfl) 67 rfl (by decide) (.string r) (by intro a' F'; have h66 := F'.at' 66 _ rfl; go_simp) ?_
          clear F a9
          intro a9 F
          clear hc
          refine fr_do F (by rw [wanted_at F rfl (t := 62) (b := true) (by kernel_rfl) rfl]; rfl) 68 rfl (by decide) (.string (r.extract 0 6)) (by intro a' F'; have h67 := F'.at' 67 _ rfl; go_simp <;> omega) ?_
          clear F a9
          intro a9 F
          refine fr_do F (by rw [wanted_at F rfl (t := 62) (b := true) (by kernel_rfl) rfl]; rfl) 69 rfl (by decide) (.bool false) (by intro a' F'; have h68 := F'.at' 68 _ rfl; have hq := HC3.out; go_simp <;> simpa using hq) ?_
          clear F a9
          intro a9 F
          refine fr_ch F 10 [(79, .bool false), (78, undef), (77, undef), (76, undef), (75, undef), (74, undef), (73, undef), (72, undef), (71, .bool false), (70, .bool false)] (by kernel_rfl) ?_
          clear F a9
          intro a9 F
          refine wpList_nil ?_
          show Code.wp _ _ _ _ _
          refine wp_cond_false (F.ev 79 rfl) ?_
          refine wp_skip ?_
          exact ⟨((((((FrL.nil F.size F.defers).add 0 _ (F.at' 0 _ rfl)).add 2 _ (F.at' 2 _ rfl)).add 5 _ (F.at' 5 _ rfl)).add 6 _ (F.at' 6 _ rfl)).add 7 _ (F.at' 7 _ rfl)), HK⟩
        · have hlv : (r[6]'hlt).toNat = 4 := HNS.out rfl hn6 rfl hlt
          refine wp_seq ?_
          refine wp_region_lit ?_
          refine fr_ch F 4 [(55, .pointer (some ⟨X, 2, none⟩)), (54, .pointer (some ⟨X, 2, none⟩)), (53, .pointer (some ⟨X, 0, none⟩)), (52, .pointer (some ⟨X, 0, none⟩))] (by kernel_rfl) ?_
          clear F a9
          intro a9 F
          have hc : w9.cell? ⟨X, 2, none⟩ = some (.int .u8 ((x / 16 : Nat) : Int)) := (HK.at 0 rfl).cells 2
          refine fr_do F (wanted_free rfl) 56 rfl (by decide) (.int .u8 ((x / 16 : Nat) : Int)) (by intro a' F'; have h55 := F'.at' 55 _ rfl; go_simp) ?_
          clear F a9
          intro a9 F
          clear hc
          refine fr_do F (wanted_free rfl) 57 rfl (by decide) (.bool true) (by intro a' F'; have h56 := F'.at' 56 _ rfl; go_simp) ?_
          clear F a9
          intro a9 F
          refine fr_ch F 2 [(59, .int .i64 (n : Int)), (58, .bool true)] (by kernel_rfl) ?_
          clear F a9
          intro a9 F
          refine fr_do F (by rw [wanted_at F rfl (t := 58) (b := true) (by kernel_rfl) rfl]; rfl) 60 rfl (by decide) (.bool true) (by intro a' F'; have h59 := F'.at' 59 _ rfl; go_simp <;> omega) ?_
          clear F a9
          intro a9 F
          refine fr_ch F 6 [(66, .pointer (some ⟨X, 0, none⟩)), (65, .pointer (some ⟨X, 0, none⟩)), (64, .pointer (some ⟨X, 0, none⟩)), (63, .pointer (some ⟨X, 0, none⟩)), (62, .bool true), (61, .bool true)] (by kernel_rfl) ?_
          clear F a9
          intro a9 F
          have hc : w9.cell? ⟨X, 0, none⟩ = some (.string r) := (HK.at 0 rfl).cells 0
          refine fr_do F (by rw [wanted_at F rfl (t := 62) (b := true) (by kernel_rfl) rfl]; rfl) 67 rfl (by decide) (.string r) (by intro a' F'; have h66 := F'.at' 66 _ rfl; go_simp) ?_
          clear F a9
          intro a9 F
          clear hc
          refine fr_do F (by rw [wanted_at F rfl (t := 62) (b := true) (by kernel_rfl) rfl]; rfl) 68 rfl (by decide) (.string (r.extract 0 6)) (by intro a' F'; have h67 := F'.at' 67 _ rfl; go_simp <;> omega) ?_
          clear F a9
          intro a9 F
          refine fr_do F (by rw [wanted_at F rfl (t := 62) (b := true) (by kernel_rfl) rfl]; rfl) 69 rfl (by decide) (.bool true) (by intro a' F'; have h68 := F'.at' 68 _ rfl; have hq := HC3.out; go_simp <;> simpa using hq) ?_
          clear F a9
          intro a9 F
          refine fr_ch F 6 [(75, .pointer (some ⟨X, 0, none⟩)), (74, .pointer (some ⟨X, 0, none⟩)), (73, .pointer (some ⟨X, 0, none⟩)), (72, .pointer (some ⟨X, 0, none⟩)), (71, .bool true), (70, .bool true)] (by kernel_rfl) ?_
          clear F a9
          intro a9 F
          have hc : w9.cell? ⟨X, 0, none⟩ = some (.string r) := (HK.at 0 rfl).cells 0
          refine fr_do F (by rw [wanted_at F rfl (t := 71) (b := true) (by kernel_rfl) rfl]; rfl) 76 rfl (by decide) (.string r) (by intro a' F'; have h75 := F'.at' 75 _ rfl; go_simp) ?_
          clear F a9
          intro a9 F
          clear hc
          refine fr_do F (by rw [wanted_at F rfl (t := 71) (b := true) (by kernel_rfl) rfl]; rfl) 77 rfl (by decide) (.int .u8 (4 : Int)) (by intro a' F'; have h76 := F'.at' 76 _ rfl; go_simp <;> omega) ?_
          clear F a9
          intro a9 F
          refine fr_ch F 2 [(79, .bool false), (78, .bool false)] (by kernel_rfl) ?_
          clear F a9
          intro a9 F
          refine wpList_nil ?_
          show Code.wp _ _ _ _ _
          refine wp_cond_false (F.ev 79 rfl) ?_
          refine wp_skip ?_
          exact ⟨((((((FrL.nil F.size F.defers).add 0 _ (F.at' 0 _ rfl)).add 2 _ (F.at' 2 _ rfl)).add 5 _ (F.at' 5 _ rfl)).add 6 _ (F.at' 6 _ rfl)).add 7 _ (F.at' 7 _ rfl)), HK⟩
      · skip
        refine wp_seq ?_
        refine wp_region_lit ?_
        refine fr_ch F 4 [(55, .pointer (some ⟨X, 2, none⟩)), (54, .pointer (some ⟨X, 2, none⟩)), (53, .pointer (some ⟨X, 0, none⟩)), (52, .pointer (some ⟨X, 0, none⟩))] (by kernel_rfl) ?_
        clear F a9
        intro a9 F
        have hc : w9.cell? ⟨X, 2, none⟩ = some (.int .u8 ((x / 16 : Nat) : Int)) := (HK.at 0 rfl).cells 2
        refine fr_do F (wanted_free rfl) 56 rfl (by decide) (.int .u8 ((x / 16 : Nat) : Int)) (by intro a' F'; have h55 := F'.at' 55 _ rfl; go_simp) ?_
        clear F a9
        intro a9 F
        clear hc
        refine fr_do F (wanted_free rfl) 57 rfl (by decide) (.bool true) (by intro a' F'; have h56 := F'.at' 56 _ rfl; go_simp) ?_
        clear F a9
        intro a9 F
        refine fr_ch F 2 [(59, .int .i64 (n : Int)), (58, .bool true)] (by kernel_rfl) ?_
        clear F a9
        intro a9 F
        refine fr_do F (by rw [wanted_at F rfl (t := 58) (b := true) (by kernel_rfl) rfl]; rfl) 60 rfl (by decide) (.bool false) (by intro a' F'; have h59 := F'.at' 59 _ rfl; go_simp <;> omega) ?_
        clear F a9
        intro a9 F
        refine fr_ch F 19 [(79, .bool false), (78, undef), (77, undef), (76, undef), (75, undef), (74, undef), (73, undef), (72, undef), (71, .bool false), (70, .bool false), (69, undef), (68, undef), (67, undef), (66, undef), (65, undef), (64, undef), (63, undef), (62, .bool false), (61, .bool false)] (by kernel_rfl) ?_
        clear F a9
        intro a9 F
        refine wpList_nil ?_
        show Code.wp _ _ _ _ _
        refine wp_cond_false (F.ev 79 rfl) ?_
        refine wp_skip ?_
        exact ⟨((((((FrL.nil F.size F.defers).add 0 _ (F.at' 0 _ rfl)).add 2 _ (F.at' 2 _ rfl)).add 5 _ (F.at' 5 _ rfl)).add 6 _ (F.at' 6 _ rfl)).add 7 _ (F.at' 7 _ rfl)), HK⟩
  clear HK F a9 w9 HNS HC3
  rintro a9 w9 ⟨F, HK⟩
  replace F := F.cut [(7, .pointer (some ⟨X, 0, none⟩)), (6, .int .i64 ((u + 1 : Nat) : Int)), (5, .int .i64 (n : Int)), (2, .pointer (some ⟨V, 0, none⟩)), (0, .string s)] (by kernel_rfl)
  replace HK : Keep w [(X, curC ((bl r), false) (pkV { Pk.zero with ty := (x / 16 : Nat) } none 0).toList, 100), (V, pkV Pk.zero none 0, 27)] [] w9 := HK
  refine wp_seq ?_
  refine wp_region_lit ?_
  refine fr_ch F 2 [(91, .string s), (90, .pointer (some ⟨X, 0, none⟩))] (by kernel_rfl) ?_
  clear F a9
  intro a9 F
  refine fr_do F (wanted_free rfl) 92 rfl (by decide) (.int .u8 (x : Int)) (by intro a' F'; have h91 := F'.at' 91 _ rfl; go_simp) ?_
  clear F a9
  intro a9 F
  refine fr_do F (wanted_free rfl) 93 rfl (by decide) (.int .u8 ((x % 16 : Nat) : Int)) (by intro a' F'; have h92 := F'.at' 92 _ rfl; have hq := H15.out; go_simp) ?_
  clear F a9
  intro a9 F
  refine fr_call F (wanted_free rfl) 94 rfl (by decide) 67 #[.pointer (some ⟨X, 0, none⟩), .int .u8 ((x % 16 : Nat) : Int)] (by intro a' F'; have h90 := F'.at' 90 _ rfl; have h93 := F'.at' 93 _ rfl; go_simp) (HALL.out X V _ HK) ?_
  clear HK
  rintro e9 w8 ⟨rfl, al, cap, HK, HOO⟩
  clear w9
  rename World => w9
  refine ⟨_, rfl, ?_⟩
  clear F a9
  intro a9 F
  refine wpList_nil ?_
  show Code.wp _ _ _ _ _
  replace F := F.cut [(7, .pointer (some ⟨X, 0, none⟩)), (6, .int .i64 ((u + 1 : Nat) : Int)), (5, .int .i64 (n : Int)), (2, .pointer (some ⟨V, 0, none⟩))] (by kernel_rfl)
  obtain ⟨b2, hb22⟩ : ∃ c, ((baB L2).toList != ([] : List UInt8)) = c := ⟨_, rfl⟩
  have HBE := Lib.hid hb22
  have HLE := Lib.hid (show b2 = false ↔ L2 = [] by rw [← hb22, bne_eq_false_iff_eq, Lib.toList_data]; show L2 = [] ↔ _; rfl)
  clear hb22
  obtain ⟨q, hqq⟩ : ∃ q, decide (0 ≤ restP p) = q := ⟨_, rfl⟩
  have HQ := Lib.hid (show q = false ↔ restP p < 0 by rw [← hqq, decide_eq_false_iff_not]; omega)
  have HRT := Lib.hid (show ∀ w9, Env w9 → CellsA w9 al (subCells p.subs) → Calls Tryd.prog 35 #[.agg (pkV p al cap)] w9 fun e w' => e = .returned (.bool q) ∧ Below w9.heap.size w9 w' from fun w9 h1 h2 => by
    have h3 := packet_Right p al cap w9 h1 HPK.out h2
    rw [hqq] at h3
    exact h3)
  clear hqq
  cases k2
  · cases b2
    · cases q
      · skip
        refine wp_seq ?_
        refine wp_seq ?_
        refine wp_region_lit ?_
        refine fr_ch F 4 [(98, .pointer (some ⟨X, 1, none⟩)), (97, .pointer (some ⟨X, 0, none⟩)), (96, .pointer (some ⟨X, 0, none⟩)), (95, .pointer (some ⟨X, 0, none⟩))] (by kernel_rfl) ?_
        clear F a9
        intro a9 F
        have hc : w9.cell? ⟨X, 1, none⟩ = some (.bool false) := (HK.at 0 rfl).cells 1
        refine fr_do F (wanted_free rfl) 99 rfl (by decide) (.bool false) (by intro a' F'; have h98 := F'.at' 98 _ rfl; go_simp) ?_
        clear F a9
        intro a9 F
        clear hc
        refine fr_ch F 5 [(104, .pointer (some ⟨X, 0, none⟩)), (103, .pointer (some ⟨X, 0, none⟩)), (102, .pointer (some ⟨X, 0, none⟩)), (101, .pointer (some ⟨X, 0, none⟩)), (100, .bool false)] (by kernel_rfl) ?_
        clear F a9
        intro a9 F
        have hc : w9.cell? ⟨X, 0, none⟩ = some (.string (baB L2)) := (HK.at 0 rfl).cells 0
        refine fr_do F (by rw [wanted_at F rfl (t := 100) (b := false) (by kernel_rfl) rfl]; rfl) 105 rfl (by decide) (.string (baB L2)) (by intro a' F'; have h104 := F'.at' 104 _ rfl; go_simp) ?_
        clear F a9
        intro a9 F
        clear hc
        refine fr_do F (by rw [wanted_at F rfl (t := 100) (b := false) (by kernel_rfl) rfl]; rfl) 106 rfl (by decide) (.bool false) (by intro a' F'; have h105 := F'.at' 105 _ rfl; have hq := HBE.out; go_simp <;> simpa using hq) ?_
        clear F a9
        intro a9 F
        refine fr_ch F 5 [(111, .pointer (some ⟨X, 2, none⟩)), (110, .pointer (some ⟨X, 0, none⟩)), (109, .pointer (some ⟨X, 0, none⟩)), (108, .bool false), (107, .bool false)] (by kernel_rfl) ?_
        clear F a9
        intro a9 F
        have hrg := cur_range (HK.at 0 rfl)
        refine fr_do F (by rw [wanted_at F rfl (t := 108) (b := false) (by kernel_rfl) rfl]; rfl) 112 rfl (by decide) (.agg (pkV p al cap)) (fun a' F' => run_load_midF 27 _ rfl X 2 (F'.ev 111 rfl) (pkV p al cap).toList _ hrg Tryd.underlying27 rfl infoPk) ?_
        clear F a9
        intro a9 F
        clear hrg
        refine fr_call F (by rw [wanted_at F rfl (t := 108) (b := false) (by kernel_rfl) rfl]; rfl) 113 rfl (by decide) 35 #[.agg (pkV p al cap)] (by intro a' F'; have h112 := F'.at' 112 _ rfl; go_simp) (HRT.out _ HK.env (own_cells HOO)) ?_
        rintro e9 w8 ⟨rfl, hb8⟩
        replace HK := HK.below hb8
        replace HOO := own_only HOO (Only.of_below hb8 (fun _ => False)) (fun _ _ h => h)
        clear hb8
        clear w9
        rename World => w9
        refine ⟨_, rfl, ?_⟩
        clear F a9
        intro a9 F
        refine fr_ch F 2 [(115, .bool true), (114, .bool true)] (by kernel_rfl) ?_
        clear F a9
        intro a9 F
        refine wpList_nil ?_
        show Code.wp _ _ _ _ _
        refine wp_cond_true (F.ev 115 rfl) ?_
        replace F := F.cut [(7, .pointer (some ⟨X, 0, none⟩)), (6, .int .i64 ((u + 1 : Nat) : Int)), (5, .int .i64 (n : Int)), (2, .pointer (some ⟨V, 0, none⟩))] (by kernel_rfl)
        clear HOO
        refine wp_seq ?_
        refine wp_region_lit ?_
        refine fr_do F (wanted_free rfl) 116 rfl (by decide) (.agg (pkV Pk.zero none 0)) (fun a' F' => run_build_to rfl (by simp only [List.map_toArray, List.map_nil]; exact built_zero)) ?_
        clear F a9
        intro a9 F
        refine fr_storeO F HK 1 rfl rfl rfl 27 (.tmp 2) (.tmp 116) rfl (pkV Pk.zero none 0) (fun a' F' => F'.ev 2 rfl) (fun a' F' => F'.ev 116 rfl) infoPk rfl (pk_one _ _ _) ?_
        intro a10 w10 F' HK' HO
        clear HK F HO
        clear a9 w9
        rename World => w9
        rename Act => a9
        have HK := HK'
        have F := F'
        clear HK' F'
        refine fr_ch F 2 [(4, .int .i64 4), (3, .int .i64 0)] (by kernel_rfl) ?_
        clear F a9
        intro a9 F
        refine wpList_nil ?_
        show Code.wp _ _ _ _ _
        refine wp_ret ?_
        exact fr_ret3 F rfl rfl (HK.at 1 rfl) Tryd.underlying27 rfl infoPk _ _ rfl rfl (FBAD.out (Or.inr (Or.inr (HQ.out.1 rfl))) _ HK.low)
      · skip
        refine wp_seq ?_
        refine wp_seq ?_
        refine wp_region_lit ?_
        refine fr_ch F 4 [(98, .pointer (some ⟨X, 1, none⟩)), (97, .pointer (some ⟨X, 0, none⟩)), (96, .pointer (some ⟨X, 0, none⟩)), (95, .pointer (some ⟨X, 0, none⟩))] (by kernel_rfl) ?_
        clear F a9
        intro a9 F
        have hc : w9.cell? ⟨X, 1, none⟩ = some (.bool false) := (HK.at 0 rfl).cells 1
        refine fr_do F (wanted_free rfl) 99 rfl (by decide) (.bool false) (by intro a' F'; have h98 := F'.at' 98 _ rfl; go_simp) ?_
        clear F a9
        intro a9 F
        clear hc
        refine fr_ch F 5 [(104, .pointer (some ⟨X, 0, none⟩)), (103, .pointer (some ⟨X, 0, none⟩)), (102, .pointer (some ⟨X, 0, none⟩)), (101, .pointer (some ⟨X, 0, none⟩)), (100, .bool false)] (by kernel_rfl) ?_
        clear F a9
        intro a9 F
        have hc : w9.cell? ⟨X, 0, none⟩ = some (.string (baB L2)) := (HK.at 0 rfl).cells 0
        refine fr_do F (by rw [wanted_at F rfl (t := 100) (b := false) (by kernel_rfl) rfl]; rfl) 105 rfl (by decide) (.string (baB L2)) (by intro a' F'; have h104 := F'.at' 104 _ rfl; go_simp) ?_
        clear F a9
        intro a9 F
        clear hc
        refine fr_do F (by rw [wanted_at F rfl (t := 100) (b := false) (by kernel_rfl) rfl]; rfl) 106 rfl (by decide) (.bool false) (by intro a' F'; have h105 := F'.at' 105 _ rfl; have hq := HBE.out; go_simp <;> simpa using hq) ?_
        clear F a9
        intro a9 F
        refine fr_ch F 5 [(111, .pointer (some ⟨X, 2, none⟩)), (110, .pointer (some ⟨X, 0, none⟩)), (109, .pointer (some ⟨X, 0, none⟩)), (108, .bool false), (107, .bool false)] (by kernel_rfl) ?_
        clear F a9
        intro a9 F
        have hrg := cur_range (HK.at 0 rfl)
        refine fr_do F (by rw [wanted_at F rfl (t := 108) (b := false) (by kernel_rfl) rfl]; rfl) 112 rfl (by decide) (.agg (pkV p al cap)) (fun a' F' => run_load_midF 27 _ rfl X 2 (F'.ev 111 rfl) (pkV p al cap).toList _ hrg Tryd.underlying27 rfl infoPk) ?_
        clear F a9
        intro a9 F
        clear hrg
        refine fr_call F (by rw [wanted_at F rfl (t := 108) (b := false) (by kernel_rfl) rfl]; rfl) 113 rfl (by decide) 35 #[.agg (pkV p al cap)] (by intro a' F'; have h112 := F'.at' 112 _ rfl; go_simp) (HRT.out _ HK.env (own_cells HOO)) ?_
        rintro e9 w8 ⟨rfl, hb8⟩
        replace HK := HK.below hb8
        replace HOO := own_only HOO (Only.of_below hb8 (fun _ => False)) (fun _ _ h => h)
        clear hb8
        clear w9
        rename World => w9
        refine ⟨_, rfl, ?_⟩
        clear F a9
        intro a9 F
        refine fr_ch F 2 [(115, .bool false), (114, .bool false)] (by kernel_rfl) ?_
        clear F a9
        intro a9 F
        refine wpList_nil ?_
        show Code.wp _ _ _ _ _
        refine wp_cond_false (F.ev 115 rfl) ?_
        replace F := F.cut [(7, .pointer (some ⟨X, 0, none⟩)), (6, .int .i64 ((u + 1 : Nat) : Int)), (5, .int .i64 (n : Int)), (2, .pointer (some ⟨V, 0, none⟩))] (by kernel_rfl)
        refine wp_skip ?_
        show Code.wp _ _ _ _ _
        refine wp_seq ?_
        refine wp_region_lit ?_
        refine fr_ch F 3 [(119, .pointer (some ⟨X, 2, none⟩))] (by kernel_rfl) ?_
        clear F a9
        intro a9 F
        have hrg := cur_range (HK.at 0 rfl)
        refine fr_do F (wanted_free rfl) 120 rfl (by decide) (.agg (pkV p al cap)) (fun a' F' => run_load_midF 27 _ rfl X 2 (F'.ev 119 rfl) (pkV p al cap).toList _ hrg Tryd.underlying27 rfl infoPk) ?_
        clear F a9
        intro a9 F
        clear hrg
        refine fr_ch F 2 [(122, .int .i64 (n : Int)), (121, .int .i64 ((u + 1 : Nat) : Int))] (by kernel_rfl) ?_
        clear F a9
        intro a9 F
        refine fr_do F (wanted_free rfl) 123 rfl (by decide) (.int .i64 ((u + 1 + n : Nat) : Int)) (by intro a' F'; have h121 := F'.at' 121 _ rfl; have h122 := F'.at' 122 _ rfl; go_simp <;> (rw [IntKind.wrap_i64]; omega)) ?_
        clear F a9
        intro a9 F
        refine fr_storeO F HK 1 rfl rfl rfl 27 (.tmp 2) (.tmp 120) rfl (pkV p al cap) (fun a' F' => F'.ev 2 rfl) (fun a' F' => F'.ev 120 rfl) infoPk rfl (pk_one _ _ _) ?_
        intro a10 w10 F' HK' HO
        replace HOO := own_only HOO (HO) (fun g hg => BoxAt.ne_own (HK.at 1 rfl) HOO (by decide) g hg)
        clear HK F HO
        clear a9 w9
        rename World => w9
        rename Act => a9
        have HK := HK'
        have F := F'
        clear HK' F'
        refine fr_ch F 2 [(4, .int .i64 0), (3, .int .i64 ((u + 1 + n : Nat) : Int))] (by kernel_rfl) ?_
        clear F a9
        intro a9 F
        refine wpList_nil ?_
        show Code.wp _ _ _ _ _
        refine wp_ret ?_
        exact fr_ret3 F rfl rfl (HK.at 1 rfl) Tryd.underlying27 rfl infoPk _ _ rfl rfl (FOK.out rfl (HLE.out.1 rfl) (by have := HQ.out; simp at this; exact this) _ _ _ HOO HK.low)
    · skip
      refine wp_seq ?_
      refine wp_seq ?_
      refine wp_region_lit ?_
      refine fr_ch F 4 [(98, .pointer (some ⟨X, 1, none⟩)), (97, .pointer (some ⟨X, 0, none⟩)), (96, .pointer (some ⟨X, 0, none⟩)), (95, .pointer (some ⟨X, 0, none⟩))] (by kernel_rfl) ?_
      clear F a9
      intro a9 F
      have hc : w9.cell? ⟨X, 1, none⟩ = some (.bool false) := (HK.at 0 rfl).cells 1
      refine fr_do F (wanted_free rfl) 99 rfl (by decide) (.bool false) (by intro a' F'; have h98 := F'.at' 98 _ rfl; go_simp) ?_
      clear F a9
      intro a9 F
      clear hc
      refine fr_ch F 5 [(104, .pointer (some ⟨X, 0, none⟩)), (103, .pointer (some ⟨X, 0, none⟩)), (102, .pointer (some ⟨X, 0, none⟩)), (101, .pointer (some ⟨X, 0, none⟩)), (100, .bool false)] (by kernel_rfl) ?_
      clear F a9
      intro a9 F
      have hc : w9.cell? ⟨X, 0, none⟩ = some (.string (baB L2)) := (HK.at 0 rfl).cells 0
      refine fr_do F (by rw [wanted_at F rfl (t := 100) (b := false) (by kernel_rfl) rfl]; rfl) 105 rfl (by decide) (.string (baB L2)) (by intro a' F'; have h104 := F'.at' 104 _ rfl; go_simp) ?_
      clear F a9
      intro a9 F
      clear hc
      refine fr_do F (by rw [wanted_at F rfl (t := 100) (b := false) (by kernel_rfl) rfl]; rfl) 106 rfl (by decide) (.bool true) (by intro a' F'; have h105 := F'.at' 105 _ rfl; have hq := HBE.out; go_simp <;> simpa using hq) ?_
      clear F a9
      intro a9 F
      refine fr_ch F 9 [(115, .bool true), (114, undef), (113, undef), (112, undef), (111, undef), (110, undef), (109, undef), (108, .bool true), (107, .bool true)] (by kernel_rfl) ?_
      clear F a9
      intro a9 F
      refine wpList_nil ?_
      show Code.wp _ _ _ _ _
      refine wp_cond_true (F.ev 115 rfl) ?_
      replace F := F.cut [(7, .pointer (some ⟨X, 0, none⟩)), (6, .int .i64 ((u + 1 : Nat) : Int)), (5, .int .i64 (n : Int)), (2, .pointer (some ⟨V, 0, none⟩))] (by kernel_rfl)
      clear HOO
      refine wp_seq ?_
      refine wp_region_lit ?_
      refine fr_do F (wanted_free rfl) 116 rfl (by decide) (.agg (pkV Pk.zero none 0)) (fun a' F' => run_build_to rfl (by simp only [List.map_toArray, List.map_nil]; exact built_zero)) ?_
      clear F a9
      intro a9 F
      refine fr_storeO F HK 1 rfl rfl rfl 27 (.tmp 2) (.tmp 116) rfl (pkV Pk.zero none 0) (fun a' F' => F'.ev 2 rfl) (fun a' F' => F'.ev 116 rfl) infoPk rfl (pk_one _ _ _) ?_
      intro a10 w10 F' HK' HO
      clear HK F HO
      clear a9 w9
      rename World => w9
      rename Act => a9
      have HK := HK'
      have F := F'
      clear HK' F'
      refine fr_ch F 2 [(4, .int .i64 4), (3, .int .i64 0)] (by kernel_rfl) ?_
      clear F a9
      intro a9 F
      refine wpList_nil ?_
      show Code.wp _ _ _ _ _
      refine wp_ret ?_
      exact fr_ret3 F rfl rfl (HK.at 1 rfl) Tryd.underlying27 rfl infoPk _ _ rfl rfl (FBAD.out (Or.inr (Or.inl (fun h => by have := HLE.out.2 h; cases this))) _ HK.low)
  · skip
    refine wp_seq ?_
    refine wp_seq ?_
    refine wp_region_lit ?_
    refine fr_ch F 4 [(98, .pointer (some ⟨X, 1, none⟩)), (97, .pointer (some ⟨X, 0, none⟩)), (96, .pointer (some ⟨X, 0, none⟩)), (95, .pointer (some ⟨X, 0, none⟩))] (by kernel_rfl) ?_
    clear F a9
    intro a9 F
    have hc : w9.cell? ⟨X, 1, none⟩ = some (.bool true) := (HK.at 0 rfl).cells 1
    refine fr_do F (wanted_free rfl) 99 rfl (by decide) (.bool true) (by intro a' F'; have h98 := F'.at' 98 _ rfl; go_simp) ?_
    clear F a9
    intro a9 F
    clear hc
    refine fr_ch F 16 [(115, .bool true), (114, undef), (113, undef), (112, undef), (111, undef), (110, undef), (109, undef), (108, .bool true), (107, .bool true), (106, undef), (105, undef), (104, undef), (103, undef), (102, undef), (101, undef), (100, .bool true)] (by kernel_rfl) ?_
    clear F a9
    intro a9 F
    refine wpList_nil ?_
    show Code.wp _ _ _ _ _
    refine wp_cond_true (F.ev 115 rfl) ?_
    replace F := F.cut [(7, .pointer (some ⟨X, 0, none⟩)), (6, .int .i64 ((u + 1 : Nat) : Int)), (5, .int .i64 (n : Int)), (2, .pointer (some ⟨V, 0, none⟩))] (by kernel_rfl)
    clear HOO
    refine wp_seq ?_
    refine wp_region_lit ?_
    refine fr_do F (wanted_free rfl) 116 rfl (by decide) (.agg (pkV Pk.zero none 0)) (fun a' F' => run_build_to rfl (by simp only [List.map_toArray, List.map_nil]; exact built_zero)) ?_
    clear F a9
    intro a9 F
    refine fr_storeO F HK 1 rfl rfl rfl 27 (.tmp 2) (.tmp 116) rfl (pkV Pk.zero none 0) (fun a' F' => F'.ev 2 rfl) (fun a' F' => F'.ev 116 rfl) infoPk rfl (pk_one _ _ _) ?_
    intro a10 w10 F' HK' HO
    clear HK F HO
    clear a9 w9
    rename World => w9
    rename Act => a9
    have HK := HK'
    have F := F'
    clear HK' F'
    refine fr_ch F 2 [(4, .int .i64 4), (3, .int .i64 0)] (by kernel_rfl) ?_
    clear F a9
    intro a9 F
    refine wpList_nil ?_
    show Code.wp _ _ _ _ _
    refine wp_ret ?_
    exact fr_ret3 F rfl rfl (HK.at 1 rfl) Tryd.underlying27 rfl infoPk _ _ rfl rfl (FBAD.out (Or.inl rfl) _ HK.low)
/-- read.Decode is decR. -/
theorem read_Decode (s : ByteArray) (hs : s.size ≤ 90000000) (w : World) (hE : Env w) : Calls Tryd.prog 43 #[.string s] w (RetDec w (decR (bl s))) := by
  rcases h0 : bl s with _ | ⟨b, t⟩
  · rw [← h0]
    exact dec_empty s hs w hE h0
  rw [← h0]
  cases hfo : firstOk b.toNat
  · exact dec_first s hs w hE b t h0 hfo
  rcases hlr : lenR t with ⟨n, u, e⟩
  by_cases he : e ≠ 0
  · exact dec_len s hs w hE b t h0 hfo n u e hlr he
  have he0 : e = 0 := by omega
  subst he0
  by_cases hsh : t.length - u < n
  · exact dec_cutoff s hs w hE b t h0 hfo n u hlr hsh
  by_cases hns : b.toNat / 16 = 1 ∧ 6 < ((t.drop u).take n).length ∧ ((t.drop u).take n).take 6 = dataB mqtt ∧ ((t.drop u).take n)[6]? ≠ some 4
  · obtain ⟨h1, h2, h3, h4⟩ := hns
    obtain ⟨l, hl⟩ : ∃ l, ((t.drop u).take n)[6]? = some l := ⟨_, List.getElem?_eq_getElem h2⟩
    have hn6 : 6 < n := by rw [List.length_take] at h2; omega
    refine dec_level s hs w hE b t h0 hfo n u hlr hsh h1 hn6 h3 l hl (fun h => h4 (by rw [hl, h])) ?_
    unfold bodyR
    rw [if_pos ⟨h1, h2, h3, h4⟩, List.getD_eq_getElem?_getD, hl]
    rfl
  · rcases hal : allR (b.toNat / 16) (b.toNat % 16) ((t.drop u).take n, false) with ⟨p, L2, k2⟩
    exact dec_body s hs w hE b t h0 hfo n u hlr hsh hns p L2 k2 hal
end Go.Proofs.YtfljdlaelanliaaDoor
