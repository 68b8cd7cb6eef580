/- The walk of PacketKnown. Conditions: the decoder's tables lie as Go lays them. -/
import Derived.Test.YtfljdlaelanliaaDoorAllocs
import Derived.Test.YtfljdlaelanliaaDoorLaw03
import Derived.Test.YtfljdlaelanliaaDoorJoinF
import Derived.Test.YtfljdlaelanliaaDoorJoinC
import Derived.Test.YtfljdlaelanliaaDoorReadLists
import Derived.Test.YtfljdlaelanliaaDoorLess
namespace Go.Proofs.YtfljdlaelanliaaDoor
open Go.RowKit
theorem Keep.withBox {w0 w : World} {L : List Box} (h : Keep w0 L [] w) (b : Box) (hb : BoxAt w b.1 b.2.1 b.2.2) (hu : w0.heap.size ≤ b.1) (hn : ∀ x ∈ L, x.1 ≠ b.1) : Keep w0 (b :: L) [] w :=
  ⟨h.env0, h.low, fun x hx => (by rcases List.mem_cons.1 hx with rfl | hx; exact hb; exact h.box x hx), fun x hx => (by rcases List.mem_cons.1 hx with rfl | hx; exact hu; exact h.up x hx), (by
    rw [List.map_cons, List.nodup_cons]
    refine ⟨fun hm => ?_, h.nod⟩
    obtain ⟨x, hx, e⟩ := List.mem_map.1 hm
    exact hn x hx e), fun r hr => (by cases hr), fun r hr => (by cases hr)⟩
theorem box_cellsA {w : World} {X : Nat} {cs : Array Value} {T : TypeId} (h : BoxAt w X cs T) : CellsA w (some ⟨X, 0, none⟩) cs.toList := fun j v hv => ⟨X, 0, rfl, by rw [Nat.zero_add, h.cells]; simpa using hv⟩
theorem row_cell0 {w : World} {b k : Nat} {vs : List Value} {v : Value} (h : CellsA w (some ⟨b, 0, none⟩) vs) (hk : vs[k]? = some v) : w.cell? ⟨b, k, none⟩ = some v := by
  obtain ⟨b2, o2, h1, h2⟩ := h k v hk
  injection h1 with h1
  injection h1 with h3 h4 _
  rw [← h3, ← h4, Nat.zero_add] at h2
  exact h2
theorem run_sliceN {P : Program} {w : World} {o : Oper} {ρ : Operand → Value} (t e : TypeId) (n : Nat) (parts : Array (Nat × Operand)) (ho : o.op = .buildSlice t n parts) (vals : List (Nat × Value)) (hv : (parts.map fun (i, x) => (i, ρ x)) = vals.toArray) (cells : Array Value) (ie : TypeInfo) (zz : Value)
    (hu : P.underlying t = some (.slice e)) (hie : P.info? e = some ie) (hz : ie.zero = some zz) (hsmall : ¬ n * ie.size > 2 ^ 24) (hpos : ¬ n * ie.size = 0)
    (h : Instr.fill (fun i => some (i * ie.size, ie.size)) ((Array.range (n * ie.size)).map (zz.cells[· % zz.cells.size]!)) vals = some cells) :
    (execOp ρ o).run P w = .ok (.value (.slice (some ⟨w.heap.size, 0, none⟩) n n)) (w.alloc (.cells cells e)) := by
  have hr := run_buildSlice (P := P) w t e n vals.toArray cells ie zz hu hie hz hsmall hpos (by simpa using h)
  unfold execOp
  simp only [ho, hv, Sem.run_bind, hr, Result.andThen_ok, Sem.run_pure]
theorem rest_yes (p : Pk) (n : Int) (h : decide (restP p = n) = true) (hp : PkOk p) (hs : p.subs = []) (w : World) (hE : Env w) : Calls Tryd.prog 10 #[.agg (pkV p none 0), .int .i64 n] w fun e w' => e = .returned (.bool true) ∧ Below w.heap.size w w' := by
  have h2 := law03_rest p none 0 n w hE hp (by rw [hs]; exact CellsA.nil _ _)
  rw [h] at h2
  exact h2
theorem rest_row (p : Pk) (a : Option Addr) (n : Int) (h : decide (restP p = n) = true) (hp : PkOk p) (w : World) (hE : Env w) (hs : CellsA w a (subCells p.subs)) : Calls Tryd.prog 10 #[.agg (pkV p a 2), .int .i64 n] w fun e w' => e = .returned (.bool true) ∧ Below w.heap.size w w' := by
  have h2 := law03_rest p a 2 n w hE hp hs
  rw [h] at h2
  exact h2
def goodL : List ByteArray := [⟨#[97]⟩, ⟨#[47]⟩, ⟨#[97, 47, 98]⟩, ⟨#[43]⟩, ⟨#[35]⟩, ⟨#[97, 47, 43]⟩, ⟨#[43, 47, 43]⟩, ⟨#[43, 47, 35]⟩, ⟨#[97, 47, 47, 35]⟩, ⟨#[47, 43]⟩, ⟨#[36, 120, 47, 35]⟩, ⟨#[97, 32, 98]⟩, ⟨#[47, 47]⟩]
def badL3 : List ByteArray := [⟨#[]⟩, ⟨#[97, 43]⟩, ⟨#[43, 97]⟩, ⟨#[97, 35]⟩, ⟨#[35, 97]⟩, ⟨#[35, 47]⟩, ⟨#[97, 47, 35, 47, 98]⟩, ⟨#[97, 47, 98, 43, 47, 99]⟩, ⟨#[43, 43]⟩, ⟨#[35, 35]⟩, ⟨#[43, 35]⟩, ⟨#[97, 47, 35, 35]⟩, ⟨#[0]⟩, ⟨#[97, 47, 255]⟩, ⟨#[47, 35, 47]⟩]
def sP (t : Nat) (x y : ByteArray) (q : Nat) : Pk := { Pk.zero with ty := t, id := 9, subs := [(x, q), (y, 0)] }
theorem sP_ok (t : Nat) (x y : ByteArray) (q : Nat) (ht : t < 256) (hq : q < 256) (hx : x.size ≤ 10) (hy : y.size ≤ 10) : PkOk (sP t x y q) := by
  constructor <;> first | (simp [sP, Pk.zero, e0_size]; done) | (simp [sP]; omega)
theorem nP_ok (x : ByteArray) (hx : x.size ≤ 10) : PkOk { Pk.zero with ty := 3, topic := x } := by
  constructor <;> first | (simp [Pk.zero, e0_size]; done) | (simp only; omega)
theorem good_all (x : ByteArray) (hx : x ∈ goodL) : x.size ≤ 10 ∧ restP (sP 8 x ⟨#[122]⟩ 2) = ((9 + x.size : Nat) : Int) ∧ restP (sP 10 x ⟨#[122]⟩ 2) = -1 ∧ restP (sP 10 x ⟨#[122]⟩ 0) = ((7 + x.size : Nat) : Int) := by
  have h := List.all_eq_true.1 (show goodL.all (fun x => decide (x.size ≤ 10) && decide (restP (sP 8 x ⟨#[122]⟩ 2) = ((9 + x.size : Nat) : Int)) && decide (restP (sP 10 x ⟨#[122]⟩ 2) = -1) && decide (restP (sP 10 x ⟨#[122]⟩ 0) = ((7 + x.size : Nat) : Int))) = true by kernel_rfl) x hx
  simp only [Bool.and_eq_true, decide_eq_true_eq] at h
  exact ⟨h.1.1.1, h.1.1.2, h.1.2, h.2⟩
theorem bad_all (x : ByteArray) (hx : x ∈ badL3) : x.size ≤ 10 ∧ restP (sP 8 ⟨#[122]⟩ x 0) = -1 ∧ restP { Pk.zero with ty := 3, topic := x } = -1 := by
  have h := List.all_eq_true.1 (show badL3.all (fun x => decide (x.size ≤ 10) && decide (restP (sP 8 ⟨#[122]⟩ x 0) = -1) && decide (restP { Pk.zero with ty := 3, topic := x } = -1)) = true by kernel_rfl) x hx
  simp only [Bool.and_eq_true, decide_eq_true_eq] at h
  exact ⟨h.1.1, h.1.2, h.2⟩
def wantK (k : Nat) : Int := if k = 4 ∨ k = 5 ∨ k = 6 ∨ k = 7 ∨ k = 11 then 2 else -1
def noneA (k : Nat) : Int := if 12 ≤ k ∧ k ≤ 14 then 0 else -1
def noneK (k : Nat) : Int := if k = 2 then 2 else noneA k
theorem kind_all (k : Nat) (hk : k < 20) : restP { Pk.zero with ty := k, id := 65535 } = wantK k ∧ restP { Pk.zero with ty := k } = noneK k := by
  have h := List.all_eq_true.1 (show (List.range 20).all (fun k => decide (restP { Pk.zero with ty := k, id := 65535 } = wantK k) && decide (restP { Pk.zero with ty := k } = noneK k)) = true by kernel_rfl) k (List.mem_range.2 hk)
  simp only [Bool.and_eq_true, decide_eq_true_eq] at h
  exact h
theorem kA_ok (k : Nat) (hk : k < 20) : PkOk { Pk.zero with ty := k, id := 65535 } := by
  constructor <;> first | (simp [Pk.zero, e0_size]; done) | (simp only; omega)
theorem kB_ok (k : Nat) (hk : k < 20) : PkOk { Pk.zero with ty := k } := by
  constructor <;> first | (simp [Pk.zero, e0_size]; done) | (simp only; omega)
def qC : Pk := { Pk.zero with ty := 1, level := 4, client := ⟨#[99]⟩ }
def qD : Pk := { qC with level := 3 }
def qE : Pk := { qC with pass := ⟨#[120]⟩ }
def qF1 : Pk := { qC with hasPass := true }
def qF : Pk := { qC with hasPass := true, pass := ⟨#[120]⟩ }
def qG1 : Pk := { qC with hasUser := true }
def qG : Pk := { qC with hasUser := true, hasPass := true }
def qH1 : Pk := { qC with hasWill := true }
def qH : Pk := { qC with hasWill := true, wtopic := ⟨#[119]⟩, wpayload := ⟨#[112, 112]⟩, wqos := 2, wret := true }
def qH2 : Pk := { qH with hasWill := false }
def qG2 : Pk := { qG with wret := true }
def q65 : Pk := { Pk.zero with ty := 1, level := 4, hasWill := true }
def q70 : Pk := { Pk.zero with ty := 1, level := 4 }
def f0 : Pk := { Pk.zero with ty := 9, id := 1, codes := ⟨#[0, 128]⟩ }
def f1 : Pk := { Pk.zero with ty := 9, id := 1, codes := ⟨#[3]⟩ }
def f2 : Pk := { Pk.zero with ty := 2, code := 5 }
def f3 : Pk := { Pk.zero with ty := 2, code := 6 }
def f4 : Pk := { Pk.zero with ty := 2, code := 1, present := true }
def f5 : Pk := { Pk.zero with ty := 3, topic := ⟨#[116]⟩, dup := true }
def f6 : Pk := { Pk.zero with ty := 3, topic := ⟨#[116]⟩, qos := 3, id := 1 }
theorem qD_ok : PkOk qD := by constructor <;> decide
theorem qE_ok : PkOk qE := by constructor <;> decide
theorem qF_ok : PkOk qF := by constructor <;> decide
theorem qG_ok : PkOk qG := by constructor <;> decide
theorem qH_ok : PkOk qH := by constructor <;> decide
theorem qH2_ok : PkOk qH2 := by constructor <;> decide
theorem qG2_ok : PkOk qG2 := by constructor <;> decide
theorem q65_ok : PkOk q65 := by constructor <;> decide
theorem q70_ok : PkOk q70 := by constructor <;> decide
theorem f0_ok : PkOk f0 := by constructor <;> decide
theorem f1_ok : PkOk f1 := by constructor <;> decide
theorem f2_ok : PkOk f2 := by constructor <;> decide
theorem f3_ok : PkOk f3 := by constructor <;> decide
theorem f4_ok : PkOk f4 := by constructor <;> decide
theorem f5_ok : PkOk f5 := by constructor <;> decide
theorem f6_ok : PkOk f6 := by constructor <;> decide
def muK (n : Nat) (s : Nat) (a : Act) : Nat := match a.tmps[s]? with | some (.int .u8 i) => n - i.toNat | _ => 0
theorem muK_at {n L : Nat} {K : List (Nat × Value)} {a : Act} (F : FrL L K a) (s k : Nat) (h : K.lookup s = some (.int .u8 (k : Int))) : muK n s a = n - k := by
  unfold muK
  rw [F.at' s _ h]
  simp
set_option maxRecDepth 100000 in
set_option maxHeartbeats 4000000 in
theorem law03_PacketKnown (w : World) (hE : Env w) : Calls Tryd.prog 3 #[] w fun e w' => e = .returned (.bool true) ∧ Below w.heap.size w w' := by
  obtain ⟨RR, hRR⟩ : ∃ RR : Ending → World → Prop, RR = fun e w' => e = .returned (.bool true) ∧ Below w.heap.size w w' := ⟨_, rfl⟩
  have FIN := Lib.hid (show ∀ w', Below w.heap.size w w' → RR (.returned (.bool true)) w' from fun w' hb => by rw [hRR]; exact ⟨rfl, hb⟩)
  rw [← hRR]
  obtain ⟨w9, hw9⟩ : ∃ w9, w9 = w := ⟨_, rfl⟩
  have HK : Keep w [] [] w9 := by rw [hw9]; exact Keep.begin hE _ (by intro r hr; cases hr)
  suffices hgo : Calls Tryd.prog 3 #[] w9 RR by rw [hw9] at hgo; exact hgo
  clear hw9 hRR hE
  go_enter Tryd.func3, Tryd.ntmps3
  refine wp_forget (n := 212) (L := []) (FrL.nil ?_ ?_) ?_
  iterate 2 rfl
  intro a9 F
  refine wp_seq ?_
  refine wp_region_lit ?_
  refine fr_ch F 1 [(0, .bool false)] (by kernel_rfl) ?_
  clear F a9
  intro a9 F
  refine wpList_nil ?_
  show Code.wp _ _ _ _ _
  replace F : FrL 212 [] a9 := FrL.nil F.size F.defers
  refine wp_seq ?_
  refine wp_region_lit ?_
  refine fr_ch F 1 [(15, .agg (pkV (qC) none 0))] (by kernel_rfl) ?_
  clear F a9
  intro a9 F
  obtain ⟨i0, hi, hz0, hz1, hz2⟩ := info_parts infoPkR
  refine fr_new F HK 1 (by decide) rfl 27 rfl rfl rfl (.tmp 15) rfl rfl i0 _ hi hz0 (cells := (pkV (qC) none 0)) hz1 rfl (pk_one _ _ _) (fun a' Y F' => F'.ev 15 rfl) ?_
  rintro X1 a10 w10 hX F' HK' hb
  clear HK F hb hX hi hz0 hz1 hz2 i0
  clear a9 w9
  rename World => w9
  rename Act => a9
  have HK := HK'
  have F := F'
  clear HK' F'
  replace HK : Keep w [(X1, (pkV (qC) none 0), 27)] [] w9 := HK
  refine wpList_nil ?_
  show Code.wp _ _ _ _ _
  replace F := F.cut [(1, .pointer (some ⟨X1, 0, none⟩))] (by kernel_rfl)
  refine wp_seq ?_
  refine wp_region_noPanic ?_
  have hb8 : Below w9.heap.size w9 w9.drew := below_draws (n := 1) rfl
  replace HK := HK.below hb8
  clear hb8
  refine AnyT.begin (S := fun w' => BoxAt w' X1 (pkV qC none 0) 27) (z := 1000) (by kernel_rfl) (HK.at 0 rfl) (fun hS0 => ?_)
  clear hS0
  generalize w9.drew = w8 at *
  clear w9
  rename World => w9
  refine fr_takeG (i := 0) (o := ⟨some 16, _, _, _, _, _⟩) F (HK.at 0 rfl) rfl (wanted_free rfl) 16 rfl (by decide) (.agg (pkV qC none 0)) (fun w9 hS => (by intro a' F'; exact run_load_box rfl (F'.ev 1 rfl) hS Tryd.underlying27 rfl infoPk)) ?_
  clear F a9
  intro a9 F
  refine fr_takeG (i := 1) (o := ⟨some 17, _, _, _, _, _⟩) F (HK.at 0 rfl) rfl (wanted_free rfl) 17 rfl (by decide) (.agg (pkV qC none 0)) (fun w9 hS => (by intro a' F'; exact run_load_box rfl (F'.ev 1 rfl) hS Tryd.underlying27 rfl infoPk)) ?_
  clear F a9
  intro a9 F
  refine fr_takeG (i := 2) (o := ⟨some 18, _, _, _, _, _⟩) F (HK.at 0 rfl) rfl (wanted_free rfl) 18 rfl (by decide) (.agg (pkV qC none 0)) (fun w9 hS => (by intro a' F'; exact run_load_box rfl (F'.ev 1 rfl) hS Tryd.underlying27 rfl infoPk)) ?_
  clear F a9
  intro a9 F
  refine fr_takeG (i := 3) (o := ⟨some 19, _, _, _, _, _⟩) F (HK.at 0 rfl) rfl (wanted_free rfl) 19 rfl (by decide) (.agg (pkV qC none 0)) (fun w9 hS => (by intro a' F'; exact run_load_box rfl (F'.ev 1 rfl) hS Tryd.underlying27 rfl infoPk)) ?_
  clear F a9
  intro a9 F
  refine fr_takeG (i := 4) (o := ⟨some 20, _, _, _, _, _⟩) F (HK.at 0 rfl) rfl (wanted_free rfl) 20 rfl (by decide) (.agg (pkV qC none 0)) (fun w9 hS => (by intro a' F'; exact run_load_box rfl (F'.ev 1 rfl) hS Tryd.underlying27 rfl infoPk)) ?_
  clear F a9
  intro a9 F
  obtain ⟨i0, hi, hz0, hz1, hz2⟩ := info_parts infoPkR
  have HX1 := Lib.hid (HK.lt (x := (X1, (pkV qC none 0), 27)) (List.mem_cons_self ..))
  refine allocs_go (N := 212) hi hz0 #[true, true, true, true, true, false, false, false, false, false, false, false, false, false, false] [(5, 2), (6, 3), (7, 4), (8, 5), (9, 6)] (by kernel_rfl) (fun w' h => h.at 0 rfl) (by intro x hx; simp at hx; rcases hx with rfl | rfl | rfl | rfl | rfl <;> rfl) 5 rfl (by kernel_rfl) F HK ?_
  clear F HK a9
  rintro f a9 w8 F HM HK
  clear hi hz0 hz1 hz2 i0
  have s2 := HM.slot (5, 2) (by decide) (by decide)
  have b2 := HM.box (5, 2) (by decide) (by decide)
  have u2 := HM.up (5, 2) (by decide) (by decide)
  have s3 := HM.slot (6, 3) (by decide) (by decide)
  have b3 := HM.box (6, 3) (by decide) (by decide)
  have u3 := HM.up (6, 3) (by decide) (by decide)
  have n23 := HM.apart (5, 2) (by decide) (6, 3) (by decide) (by decide) (by decide) (by decide)
  have s4 := HM.slot (7, 4) (by decide) (by decide)
  have b4 := HM.box (7, 4) (by decide) (by decide)
  have u4 := HM.up (7, 4) (by decide) (by decide)
  have n24 := HM.apart (5, 2) (by decide) (7, 4) (by decide) (by decide) (by decide) (by decide)
  have n34 := HM.apart (6, 3) (by decide) (7, 4) (by decide) (by decide) (by decide) (by decide)
  have s5 := HM.slot (8, 5) (by decide) (by decide)
  have b5 := HM.box (8, 5) (by decide) (by decide)
  have u5 := HM.up (8, 5) (by decide) (by decide)
  have n25 := HM.apart (5, 2) (by decide) (8, 5) (by decide) (by decide) (by decide) (by decide)
  have n35 := HM.apart (6, 3) (by decide) (8, 5) (by decide) (by decide) (by decide) (by decide)
  have n45 := HM.apart (7, 4) (by decide) (8, 5) (by decide) (by decide) (by decide) (by decide)
  have s6 := HM.slot (9, 6) (by decide) (by decide)
  have b6 := HM.box (9, 6) (by decide) (by decide)
  have u6 := HM.up (9, 6) (by decide) (by decide)
  have n26 := HM.apart (5, 2) (by decide) (9, 6) (by decide) (by decide) (by decide) (by decide)
  have n36 := HM.apart (6, 3) (by decide) (9, 6) (by decide) (by decide) (by decide) (by decide)
  have n46 := HM.apart (7, 4) (by decide) (9, 6) (by decide) (by decide) (by decide) (by decide)
  have n56 := HM.apart (8, 5) (by decide) (9, 6) (by decide) (by decide) (by decide) (by decide)
  have hx1 := HX1.out
  clear HM HX1
  simp only at s2 b2 u2 s3 b3 u3 s4 b4 u4 s5 b5 u5 s6 b6 u6 n23 n24 n34 n25 n35 n45 n26 n36 n46 n56
  generalize f 2 = X2 at *
  generalize f 3 = X3 at *
  generalize f 4 = X4 at *
  generalize f 5 = X5 at *
  generalize f 6 = X6 at *
  have hlow := HK.low.size
  have hup := HK.up (X1, (pkV qC none 0), 27) (List.mem_cons_self ..)
  replace HK := HK.withBox (X2, (pkV Pk.zero none 0), 27) b2 (by simp only; omega) (by intro x hx; simp at hx; rcases hx with rfl <;> (simp only; omega))
  replace HK := HK.withBox (X3, (pkV Pk.zero none 0), 27) b3 (by simp only; omega) (by intro x hx; simp at hx; rcases hx with rfl | rfl <;> (simp only; omega))
  replace HK := HK.withBox (X4, (pkV Pk.zero none 0), 27) b4 (by simp only; omega) (by intro x hx; simp at hx; rcases hx with rfl | rfl | rfl <;> (simp only; omega))
  replace HK := HK.withBox (X5, (pkV Pk.zero none 0), 27) b5 (by simp only; omega) (by intro x hx; simp at hx; rcases hx with rfl | rfl | rfl | rfl <;> (simp only; omega))
  replace HK := HK.withBox (X6, (pkV Pk.zero none 0), 27) b6 (by simp only; omega) (by intro x hx; simp at hx; rcases hx with rfl | rfl | rfl | rfl | rfl <;> (simp only; omega))
  replace F := F.add 2 _ s2
  replace F := F.add 3 _ s3
  replace F := F.add 4 _ s4
  replace F := F.add 5 _ s5
  replace F := F.add 6 _ s6
  clear f hx1 hlow hup s2 b2 u2 s3 b3 u3 s4 b4 u4 s5 b5 u5 s6 b6 u6 n23 n24 n34 n25 n35 n45 n26 n36 n46 n56 w9
  rename World => w9
  refine fr_stepSt (i := 10) (o := ⟨none, _, _, _, _, _⟩) F HK 4 rfl rfl rfl rfl 27 (.tmp 2) (.tmp 16) rfl (pkV qC none 0) (fun a' F' => F'.ev 2 rfl) (fun a' F' => F'.ev 16 rfl) infoPk rfl (pk_one _ _ _) ?_
  intro a10 w10 F' HK' HO2
  refine ⟨HK'.at 5 rfl, ?_⟩
  clear HK F HO2
  clear a9 w9
  rename World => w9
  rename Act => a9
  have HK := HK'
  have F := F'
  clear HK' F'
  replace HK : Keep w [(X6, (pkV Pk.zero none 0), 27), (X5, (pkV Pk.zero none 0), 27), (X4, (pkV Pk.zero none 0), 27), (X3, (pkV Pk.zero none 0), 27), (X2, (pkV qC none 0), 27), (X1, (pkV qC none 0), 27)] [] w9 := HK
  refine fr_stepSt (i := 11) (o := ⟨none, _, _, _, _, _⟩) F HK 3 rfl rfl rfl rfl 27 (.tmp 3) (.tmp 17) rfl (pkV qC none 0) (fun a' F' => F'.ev 3 rfl) (fun a' F' => F'.ev 17 rfl) infoPk rfl (pk_one _ _ _) ?_
  intro a10 w10 F' HK' HO2
  refine ⟨HK'.at 5 rfl, ?_⟩
  clear HK F HO2
  clear a9 w9
  rename World => w9
  rename Act => a9
  have HK := HK'
  have F := F'
  clear HK' F'
  replace HK : Keep w [(X6, (pkV Pk.zero none 0), 27), (X5, (pkV Pk.zero none 0), 27), (X4, (pkV Pk.zero none 0), 27), (X3, (pkV qC none 0), 27), (X2, (pkV qC none 0), 27), (X1, (pkV qC none 0), 27)] [] w9 := HK
  refine fr_stepSt (i := 12) (o := ⟨none, _, _, _, _, _⟩) F HK 2 rfl rfl rfl rfl 27 (.tmp 4) (.tmp 18) rfl (pkV qC none 0) (fun a' F' => F'.ev 4 rfl) (fun a' F' => F'.ev 18 rfl) infoPk rfl (pk_one _ _ _) ?_
  intro a10 w10 F' HK' HO2
  refine ⟨HK'.at 5 rfl, ?_⟩
  clear HK F HO2
  clear a9 w9
  rename World => w9
  rename Act => a9
  have HK := HK'
  have F := F'
  clear HK' F'
  replace HK : Keep w [(X6, (pkV Pk.zero none 0), 27), (X5, (pkV Pk.zero none 0), 27), (X4, (pkV qC none 0), 27), (X3, (pkV qC none 0), 27), (X2, (pkV qC none 0), 27), (X1, (pkV qC none 0), 27)] [] w9 := HK
  refine fr_stepSt (i := 13) (o := ⟨none, _, _, _, _, _⟩) F HK 1 rfl rfl rfl rfl 27 (.tmp 5) (.tmp 19) rfl (pkV qC none 0) (fun a' F' => F'.ev 5 rfl) (fun a' F' => F'.ev 19 rfl) infoPk rfl (pk_one _ _ _) ?_
  intro a10 w10 F' HK' HO2
  refine ⟨HK'.at 5 rfl, ?_⟩
  clear HK F HO2
  clear a9 w9
  rename World => w9
  rename Act => a9
  have HK := HK'
  have F := F'
  clear HK' F'
  replace HK : Keep w [(X6, (pkV Pk.zero none 0), 27), (X5, (pkV qC none 0), 27), (X4, (pkV qC none 0), 27), (X3, (pkV qC none 0), 27), (X2, (pkV qC none 0), 27), (X1, (pkV qC none 0), 27)] [] w9 := HK
  refine fr_stepSt (i := 14) (o := ⟨none, _, _, _, _, _⟩) F HK 0 rfl rfl rfl rfl 27 (.tmp 6) (.tmp 20) rfl (pkV qC none 0) (fun a' F' => F'.ev 6 rfl) (fun a' F' => F'.ev 20 rfl) infoPk rfl (pk_one _ _ _) ?_
  intro a10 w10 F' HK' HO2
  refine ⟨HK'.at 5 rfl, ?_⟩
  clear HK F HO2
  clear a9 w9
  rename World => w9
  rename Act => a9
  have HK := HK'
  have F := F'
  clear HK' F'
  replace HK : Keep w [(X6, (pkV qC none 0), 27), (X5, (pkV qC none 0), 27), (X4, (pkV qC none 0), 27), (X3, (pkV qC none 0), 27), (X2, (pkV qC none 0), 27), (X1, (pkV qC none 0), 27)] [] w9 := HK
  refine AnyT.done (by kernel_rfl) ?_ _
  refine NoPanic.normal ?_
  show Code.wp _ _ _ _ _
  replace F := F.cut [(6, .pointer (some ⟨X6, 0, none⟩)), (5, .pointer (some ⟨X5, 0, none⟩)), (4, .pointer (some ⟨X4, 0, none⟩)), (3, .pointer (some ⟨X3, 0, none⟩)), (2, .pointer (some ⟨X2, 0, none⟩))] (by kernel_rfl)
  refine wp_seq ?_
  refine wp_region_lit ?_
  refine fr_ch F 1 [(21, .pointer (some ⟨X2, 7, none⟩))] (by kernel_rfl) ?_
  clear F a9
  intro a9 F
  refine fr_putO F HK 4 rfl rfl rfl 5 _ _ rfl 7 (.int .u8 3) (fun a' F' => F'.ev 21 rfl) (fun a' F' => rfl) z_u8 (Nat.le_of_ble_eq_true (by kernel_rfl)) (by kernel_rfl) ?_
  intro a10 w10 F' HK' HO
  clear HK F HO
  clear a9 w9
  rename World => w9
  rename Act => a9
  have HK := HK'
  have F := F'
  clear HK' F'
  replace HK : Keep w [(X6, (pkV qC none 0), 27), (X5, (pkV qC none 0), 27), (X4, (pkV qC none 0), 27), (X3, (pkV qC none 0), 27), (X2, (pkV qD none 0), 27), (X1, (pkV qC none 0), 27)] [] w9 := HK
  refine wpList_nil ?_
  show Code.wp _ _ _ _ _
  replace F := F.cut [(6, .pointer (some ⟨X6, 0, none⟩)), (5, .pointer (some ⟨X5, 0, none⟩)), (4, .pointer (some ⟨X4, 0, none⟩)), (3, .pointer (some ⟨X3, 0, none⟩)), (2, .pointer (some ⟨X2, 0, none⟩))] (by kernel_rfl)
  refine wp_seq ?_
  refine wp_region_lit ?_
  refine fr_ch F 1 [(22, .pointer (some ⟨X3, 19, none⟩))] (by kernel_rfl) ?_
  clear F a9
  intro a9 F
  refine fr_putO F HK 3 rfl rfl rfl 9 _ _ rfl 19 (.string ⟨#[120]⟩) (fun a' F' => F'.ev 22 rfl) (fun a' F' => rfl) z_str (Nat.le_of_ble_eq_true (by kernel_rfl)) (by kernel_rfl) ?_
  intro a10 w10 F' HK' HO
  clear HK F HO
  clear a9 w9
  rename World => w9
  rename Act => a9
  have HK := HK'
  have F := F'
  clear HK' F'
  replace HK : Keep w [(X6, (pkV qC none 0), 27), (X5, (pkV qC none 0), 27), (X4, (pkV qC none 0), 27), (X3, (pkV qE none 0), 27), (X2, (pkV qD none 0), 27), (X1, (pkV qC none 0), 27)] [] w9 := HK
  refine wpList_nil ?_
  show Code.wp _ _ _ _ _
  replace F := F.cut [(6, .pointer (some ⟨X6, 0, none⟩)), (5, .pointer (some ⟨X5, 0, none⟩)), (4, .pointer (some ⟨X4, 0, none⟩)), (3, .pointer (some ⟨X3, 0, none⟩)), (2, .pointer (some ⟨X2, 0, none⟩))] (by kernel_rfl)
  refine wp_seq ?_
  refine wp_region_lit ?_
  refine fr_ch F 1 [(23, .pointer (some ⟨X4, 17, none⟩))] (by kernel_rfl) ?_
  clear F a9
  intro a9 F
  refine fr_putO F HK 2 rfl rfl rfl 4 _ _ rfl 17 (.bool true) (fun a' F' => F'.ev 23 rfl) (fun a' F' => rfl) z_bool (Nat.le_of_ble_eq_true (by kernel_rfl)) (by kernel_rfl) ?_
  intro a10 w10 F' HK' HO
  clear HK F HO
  clear a9 w9
  rename World => w9
  rename Act => a9
  have HK := HK'
  have F := F'
  clear HK' F'
  replace HK : Keep w [(X6, (pkV qC none 0), 27), (X5, (pkV qC none 0), 27), (X4, (pkV qF1 none 0), 27), (X3, (pkV qE none 0), 27), (X2, (pkV qD none 0), 27), (X1, (pkV qC none 0), 27)] [] w9 := HK
  refine wpList_nil ?_
  show Code.wp _ _ _ _ _
  replace F := F.cut [(6, .pointer (some ⟨X6, 0, none⟩)), (5, .pointer (some ⟨X5, 0, none⟩)), (4, .pointer (some ⟨X4, 0, none⟩)), (3, .pointer (some ⟨X3, 0, none⟩)), (2, .pointer (some ⟨X2, 0, none⟩))] (by kernel_rfl)
  refine wp_seq ?_
  refine wp_region_lit ?_
  refine fr_ch F 1 [(24, .pointer (some ⟨X4, 19, none⟩))] (by kernel_rfl) ?_
  clear F a9
  intro a9 F
  refine fr_putO F HK 2 rfl rfl rfl 9 _ _ rfl 19 (.string ⟨#[120]⟩) (fun a' F' => F'.ev 24 rfl) (fun a' F' => rfl) z_str (Nat.le_of_ble_eq_true (by kernel_rfl)) (by kernel_rfl) ?_
  intro a10 w10 F' HK' HO
  clear HK F HO
  clear a9 w9
  rename World => w9
  rename Act => a9
  have HK := HK'
  have F := F'
  clear HK' F'
  replace HK : Keep w [(X6, (pkV qC none 0), 27), (X5, (pkV qC none 0), 27), (X4, (pkV qF none 0), 27), (X3, (pkV qE none 0), 27), (X2, (pkV qD none 0), 27), (X1, (pkV qC none 0), 27)] [] w9 := HK
  refine wpList_nil ?_
  show Code.wp _ _ _ _ _
  replace F := F.cut [(6, .pointer (some ⟨X6, 0, none⟩)), (5, .pointer (some ⟨X5, 0, none⟩)), (4, .pointer (some ⟨X4, 0, none⟩)), (3, .pointer (some ⟨X3, 0, none⟩)), (2, .pointer (some ⟨X2, 0, none⟩))] (by kernel_rfl)
  refine wp_seq ?_
  refine wp_region_lit ?_
  refine fr_ch F 1 [(25, .pointer (some ⟨X5, 16, none⟩))] (by kernel_rfl) ?_
  clear F a9
  intro a9 F
  refine fr_putO F HK 1 rfl rfl rfl 4 _ _ rfl 16 (.bool true) (fun a' F' => F'.ev 25 rfl) (fun a' F' => rfl) z_bool (Nat.le_of_ble_eq_true (by kernel_rfl)) (by kernel_rfl) ?_
  intro a10 w10 F' HK' HO
  clear HK F HO
  clear a9 w9
  rename World => w9
  rename Act => a9
  have HK := HK'
  have F := F'
  clear HK' F'
  replace HK : Keep w [(X6, (pkV qC none 0), 27), (X5, (pkV qG1 none 0), 27), (X4, (pkV qF none 0), 27), (X3, (pkV qE none 0), 27), (X2, (pkV qD none 0), 27), (X1, (pkV qC none 0), 27)] [] w9 := HK
  refine wpList_nil ?_
  show Code.wp _ _ _ _ _
  replace F := F.cut [(6, .pointer (some ⟨X6, 0, none⟩)), (5, .pointer (some ⟨X5, 0, none⟩)), (4, .pointer (some ⟨X4, 0, none⟩)), (3, .pointer (some ⟨X3, 0, none⟩)), (2, .pointer (some ⟨X2, 0, none⟩))] (by kernel_rfl)
  refine wp_seq ?_
  refine wp_region_lit ?_
  refine fr_ch F 1 [(26, .pointer (some ⟨X5, 17, none⟩))] (by kernel_rfl) ?_
  clear F a9
  intro a9 F
  refine fr_putO F HK 1 rfl rfl rfl 4 _ _ rfl 17 (.bool true) (fun a' F' => F'.ev 26 rfl) (fun a' F' => rfl) z_bool (Nat.le_of_ble_eq_true (by kernel_rfl)) (by kernel_rfl) ?_
  intro a10 w10 F' HK' HO
  clear HK F HO
  clear a9 w9
  rename World => w9
  rename Act => a9
  have HK := HK'
  have F := F'
  clear HK' F'
  replace HK : Keep w [(X6, (pkV qC none 0), 27), (X5, (pkV qG none 0), 27), (X4, (pkV qF none 0), 27), (X3, (pkV qE none 0), 27), (X2, (pkV qD none 0), 27), (X1, (pkV qC none 0), 27)] [] w9 := HK
  refine wpList_nil ?_
  show Code.wp _ _ _ _ _
  replace F := F.cut [(6, .pointer (some ⟨X6, 0, none⟩)), (5, .pointer (some ⟨X5, 0, none⟩)), (4, .pointer (some ⟨X4, 0, none⟩)), (3, .pointer (some ⟨X3, 0, none⟩)), (2, .pointer (some ⟨X2, 0, none⟩))] (by kernel_rfl)
  refine wp_seq ?_
  refine wp_region_lit ?_
  refine fr_ch F 1 [(27, .pointer (some ⟨X6, 11, none⟩))] (by kernel_rfl) ?_
  clear F a9
  intro a9 F
  refine fr_putO F HK 0 rfl rfl rfl 4 _ _ rfl 11 (.bool true) (fun a' F' => F'.ev 27 rfl) (fun a' F' => rfl) z_bool (Nat.le_of_ble_eq_true (by kernel_rfl)) (by kernel_rfl) ?_
  intro a10 w10 F' HK' HO
  clear HK F HO
  clear a9 w9
  rename World => w9
  rename Act => a9
  have HK := HK'
  have F := F'
  clear HK' F'
  replace HK : Keep w [(X6, (pkV qH1 none 0), 27), (X5, (pkV qG none 0), 27), (X4, (pkV qF none 0), 27), (X3, (pkV qE none 0), 27), (X2, (pkV qD none 0), 27), (X1, (pkV qC none 0), 27)] [] w9 := HK
  refine wpList_nil ?_
  show Code.wp _ _ _ _ _
  replace F := F.cut [(6, .pointer (some ⟨X6, 0, none⟩)), (5, .pointer (some ⟨X5, 0, none⟩)), (4, .pointer (some ⟨X4, 0, none⟩)), (3, .pointer (some ⟨X3, 0, none⟩)), (2, .pointer (some ⟨X2, 0, none⟩))] (by kernel_rfl)
  refine wp_seq ?_
  refine wp_region_lit ?_
  refine fr_ch F 2 [(29, .pointer (some ⟨X6, 12, none⟩)), (28, .agg #[.string ⟨#[119]⟩, .string ⟨#[112, 112]⟩, .int .u8 2, .bool true])] (by kernel_rfl) ?_
  clear F a9
  intro a9 F
  refine fr_putO F HK 0 rfl rfl rfl 24 _ _ rfl 12 (.agg #[.string ⟨#[119]⟩, .string ⟨#[112, 112]⟩, .int .u8 2, .bool true]) (fun a' F' => F'.ev 29 rfl) (fun a' F' => F'.ev 28 rfl) z_msg (Nat.le_of_ble_eq_true (by kernel_rfl)) (by kernel_rfl) ?_
  intro a10 w10 F' HK' HO
  clear HK F HO
  clear a9 w9
  rename World => w9
  rename Act => a9
  have HK := HK'
  have F := F'
  clear HK' F'
  replace HK : Keep w [(X6, (pkV qH none 0), 27), (X5, (pkV qG none 0), 27), (X4, (pkV qF none 0), 27), (X3, (pkV qE none 0), 27), (X2, (pkV qD none 0), 27), (X1, (pkV qC none 0), 27)] [] w9 := HK
  refine wpList_nil ?_
  show Code.wp _ _ _ _ _
  replace F := F.cut [(6, .pointer (some ⟨X6, 0, none⟩)), (5, .pointer (some ⟨X5, 0, none⟩)), (4, .pointer (some ⟨X4, 0, none⟩)), (3, .pointer (some ⟨X3, 0, none⟩)), (2, .pointer (some ⟨X2, 0, none⟩))] (by kernel_rfl)
  refine wp_seq ?_
  refine wp_seq ?_
  refine wp_region_lit ?_
  refine fr_do F (wanted_free rfl) 30 rfl (by decide) (.agg ((pkV qD none 0))) (by intro a' F'; exact run_load_box rfl (F'.ev 2 rfl) (HK.at 4 rfl) Tryd.underlying27 rfl infoPk) ?_
  clear F a9
  intro a9 F
  refine fr_call F (wanted_free rfl) 31 rfl (by decide) 10 #[.agg (pkV qD none 0), .int .i64 (-1)] (by intro a' F'; have h30 := F'.at' 30 _ rfl; go_simp) (rest_yes qD (-1) (by kernel_rfl) qD_ok rfl _ HK.env) ?_
  rintro e9 w8 ⟨rfl, hb8⟩
  replace HK := HK.below hb8
  clear hb8
  clear w9
  rename World => w9
  refine ⟨_, rfl, ?_⟩
  clear F a9
  intro a9 F
  refine fr_ch F 2 [(33, .bool false), (32, .bool false)] (by kernel_rfl) ?_
  clear F a9
  intro a9 F
  refine fr_do F (by rw [wanted_at F rfl (t := 33) (b := false) (by kernel_rfl) rfl]; rfl) 34 rfl (by decide) (.agg ((pkV qE none 0))) (by intro a' F'; exact run_load_box rfl (F'.ev 3 rfl) (HK.at 3 rfl) Tryd.underlying27 rfl infoPk) ?_
  clear F a9
  intro a9 F
  refine fr_call F (by rw [wanted_at F rfl (t := 33) (b := false) (by kernel_rfl) rfl]; rfl) 35 rfl (by decide) 10 #[.agg (pkV qE none 0), .int .i64 (-1)] (by intro a' F'; have h34 := F'.at' 34 _ rfl; go_simp) (rest_yes qE (-1) (by kernel_rfl) qE_ok rfl _ HK.env) ?_
  rintro e9 w8 ⟨rfl, hb8⟩
  replace HK := HK.below hb8
  clear hb8
  clear w9
  rename World => w9
  refine ⟨_, rfl, ?_⟩
  clear F a9
  intro a9 F
  refine fr_ch F 3 [(38, .bool false), (37, .bool false), (36, .bool false)] (by kernel_rfl) ?_
  clear F a9
  intro a9 F
  refine fr_do F (by rw [wanted_at F rfl (t := 38) (b := false) (by kernel_rfl) rfl]; rfl) 39 rfl (by decide) (.agg ((pkV qF none 0))) (by intro a' F'; exact run_load_box rfl (F'.ev 4 rfl) (HK.at 2 rfl) Tryd.underlying27 rfl infoPk) ?_
  clear F a9
  intro a9 F
  refine fr_call F (by rw [wanted_at F rfl (t := 38) (b := false) (by kernel_rfl) rfl]; rfl) 40 rfl (by decide) 10 #[.agg (pkV qF none 0), .int .i64 (-1)] (by intro a' F'; have h39 := F'.at' 39 _ rfl; go_simp) (rest_yes qF (-1) (by kernel_rfl) qF_ok rfl _ HK.env) ?_
  rintro e9 w8 ⟨rfl, hb8⟩
  replace HK := HK.below hb8
  clear hb8
  clear w9
  rename World => w9
  refine ⟨_, rfl, ?_⟩
  clear F a9
  intro a9 F
  refine fr_ch F 3 [(43, .bool false), (42, .bool false), (41, .bool false)] (by kernel_rfl) ?_
  clear F a9
  intro a9 F
  refine fr_do F (by rw [wanted_at F rfl (t := 43) (b := false) (by kernel_rfl) rfl]; rfl) 44 rfl (by decide) (.agg ((pkV qG none 0))) (by intro a' F'; exact run_load_box rfl (F'.ev 5 rfl) (HK.at 1 rfl) Tryd.underlying27 rfl infoPk) ?_
  clear F a9
  intro a9 F
  refine fr_call F (by rw [wanted_at F rfl (t := 43) (b := false) (by kernel_rfl) rfl]; rfl) 45 rfl (by decide) 10 #[.agg (pkV qG none 0), .int .i64 17] (by intro a' F'; have h44 := F'.at' 44 _ rfl; go_simp) (rest_yes qG (17) (by kernel_rfl) qG_ok rfl _ HK.env) ?_
  rintro e9 w8 ⟨rfl, hb8⟩
  replace HK := HK.below hb8
  clear hb8
  clear w9
  rename World => w9
  refine ⟨_, rfl, ?_⟩
  clear F a9
  intro a9 F
  refine fr_ch F 3 [(48, .bool false), (47, .bool false), (46, .bool false)] (by kernel_rfl) ?_
  clear F a9
  intro a9 F
  refine fr_do F (by rw [wanted_at F rfl (t := 48) (b := false) (by kernel_rfl) rfl]; rfl) 49 rfl (by decide) (.agg ((pkV qH none 0))) (by intro a' F'; exact run_load_box rfl (F'.ev 6 rfl) (HK.at 0 rfl) Tryd.underlying27 rfl infoPk) ?_
  clear F a9
  intro a9 F
  refine fr_call F (by rw [wanted_at F rfl (t := 48) (b := false) (by kernel_rfl) rfl]; rfl) 50 rfl (by decide) 10 #[.agg (pkV qH none 0), .int .i64 20] (by intro a' F'; have h49 := F'.at' 49 _ rfl; go_simp) (rest_yes qH (20) (by kernel_rfl) qH_ok rfl _ HK.env) ?_
  rintro e9 w8 ⟨rfl, hb8⟩
  replace HK := HK.below hb8
  clear hb8
  clear w9
  rename World => w9
  refine ⟨_, rfl, ?_⟩
  clear F a9
  intro a9 F
  refine fr_ch F 2 [(52, .bool false), (51, .bool false)] (by kernel_rfl) ?_
  clear F a9
  intro a9 F
  refine wpList_nil ?_
  show Code.wp _ _ _ _ _
  refine wp_cond_false (F.ev 52 rfl) ?_
  refine wp_skip ?_
  show Code.wp _ _ _ _ _
  replace F := F.cut [(6, .pointer (some ⟨X6, 0, none⟩)), (5, .pointer (some ⟨X5, 0, none⟩)), (4, .pointer (some ⟨X4, 0, none⟩)), (3, .pointer (some ⟨X3, 0, none⟩)), (2, .pointer (some ⟨X2, 0, none⟩))] (by kernel_rfl)
  refine wp_seq ?_
  refine wp_region_lit ?_
  refine fr_ch F 1 [(53, .pointer (some ⟨X6, 11, none⟩))] (by kernel_rfl) ?_
  clear F a9
  intro a9 F
  refine fr_putO F HK 0 rfl rfl rfl 4 _ _ rfl 11 (.bool false) (fun a' F' => F'.ev 53 rfl) (fun a' F' => rfl) z_bool (Nat.le_of_ble_eq_true (by kernel_rfl)) (by kernel_rfl) ?_
  intro a10 w10 F' HK' HO
  clear HK F HO
  clear a9 w9
  rename World => w9
  rename Act => a9
  have HK := HK'
  have F := F'
  clear HK' F'
  replace HK : Keep w [(X6, (pkV qH2 none 0), 27), (X5, (pkV qG none 0), 27), (X4, (pkV qF none 0), 27), (X3, (pkV qE none 0), 27), (X2, (pkV qD none 0), 27), (X1, (pkV qC none 0), 27)] [] w9 := HK
  refine wpList_nil ?_
  show Code.wp _ _ _ _ _
  replace F := F.cut [(6, .pointer (some ⟨X6, 0, none⟩)), (5, .pointer (some ⟨X5, 0, none⟩)), (4, .pointer (some ⟨X4, 0, none⟩)), (3, .pointer (some ⟨X3, 0, none⟩)), (2, .pointer (some ⟨X2, 0, none⟩))] (by kernel_rfl)
  refine wp_seq ?_
  refine wp_region_lit ?_
  refine fr_ch F 2 [(55, .pointer (some ⟨X5, 15, none⟩))] (by kernel_rfl) ?_
  clear F a9
  intro a9 F
  refine fr_putO F HK 1 rfl rfl rfl 4 _ _ rfl 15 (.bool true) (fun a' F' => F'.ev 55 rfl) (fun a' F' => rfl) z_bool (Nat.le_of_ble_eq_true (by kernel_rfl)) (by kernel_rfl) ?_
  intro a10 w10 F' HK' HO
  clear HK F HO
  clear a9 w9
  rename World => w9
  rename Act => a9
  have HK := HK'
  have F := F'
  clear HK' F'
  replace HK : Keep w [(X6, (pkV qH2 none 0), 27), (X5, (pkV qG2 none 0), 27), (X4, (pkV qF none 0), 27), (X3, (pkV qE none 0), 27), (X2, (pkV qD none 0), 27), (X1, (pkV qC none 0), 27)] [] w9 := HK
  refine wpList_nil ?_
  show Code.wp _ _ _ _ _
  replace F := F.cut [(6, .pointer (some ⟨X6, 0, none⟩)), (5, .pointer (some ⟨X5, 0, none⟩)), (4, .pointer (some ⟨X4, 0, none⟩)), (3, .pointer (some ⟨X3, 0, none⟩)), (2, .pointer (some ⟨X2, 0, none⟩))] (by kernel_rfl)
  refine wp_seq ?_
  refine wp_seq ?_
  refine wp_region_lit ?_
  refine fr_do F (wanted_free rfl) 56 rfl (by decide) (.agg ((pkV qH2 none 0))) (by intro a' F'; exact run_load_box rfl (F'.ev 6 rfl) (HK.at 0 rfl) Tryd.underlying27 rfl infoPk) ?_
  clear F a9
  intro a9 F
  refine fr_call F (wanted_free rfl) 57 rfl (by decide) 10 #[.agg (pkV qH2 none 0), .int .i64 (-1)] (by intro a' F'; have h56 := F'.at' 56 _ rfl; go_simp) (rest_yes qH2 (-1) (by kernel_rfl) qH2_ok rfl _ HK.env) ?_
  rintro e9 w8 ⟨rfl, hb8⟩
  replace HK := HK.below hb8
  clear hb8
  clear w9
  rename World => w9
  refine ⟨_, rfl, ?_⟩
  clear F a9
  intro a9 F
  refine fr_ch F 2 [(59, .bool false), (58, .bool false)] (by kernel_rfl) ?_
  clear F a9
  intro a9 F
  refine fr_do F (by rw [wanted_at F rfl (t := 59) (b := false) (by kernel_rfl) rfl]; rfl) 60 rfl (by decide) (.agg ((pkV qG2 none 0))) (by intro a' F'; exact run_load_box rfl (F'.ev 5 rfl) (HK.at 1 rfl) Tryd.underlying27 rfl infoPk) ?_
  clear F a9
  intro a9 F
  refine fr_call F (by rw [wanted_at F rfl (t := 59) (b := false) (by kernel_rfl) rfl]; rfl) 61 rfl (by decide) 10 #[.agg (pkV qG2 none 0), .int .i64 (-1)] (by intro a' F'; have h60 := F'.at' 60 _ rfl; go_simp) (rest_yes qG2 (-1) (by kernel_rfl) qG2_ok rfl _ HK.env) ?_
  rintro e9 w8 ⟨rfl, hb8⟩
  replace HK := HK.below hb8
  clear hb8
  clear w9
  rename World => w9
  refine ⟨_, rfl, ?_⟩
  clear F a9
  intro a9 F
  refine fr_ch F 4 [(65, .agg (pkV (q65) none 0)), (64, .bool false), (63, .bool false), (62, .bool false)] (by kernel_rfl) ?_
  clear F a9
  intro a9 F
  refine fr_call F (by rw [wanted_at F rfl (t := 64) (b := false) (by kernel_rfl) rfl]; rfl) 66 rfl (by decide) 10 #[.agg (pkV q65 none 0), .int .i64 (-1)] (by intro a' F'; have h65 := F'.at' 65 _ rfl; go_simp) (rest_yes q65 (-1) (by kernel_rfl) q65_ok rfl _ HK.env) ?_
  rintro e9 w8 ⟨rfl, hb8⟩
  replace HK := HK.below hb8
  clear hb8
  clear w9
  rename World => w9
  refine ⟨_, rfl, ?_⟩
  clear F a9
  intro a9 F
  refine fr_ch F 4 [(70, .agg (pkV (q70) none 0)), (69, .bool false), (68, .bool false), (67, .bool false)] (by kernel_rfl) ?_
  clear F a9
  intro a9 F
  refine fr_call F (by rw [wanted_at F rfl (t := 69) (b := false) (by kernel_rfl) rfl]; rfl) 71 rfl (by decide) 10 #[.agg (pkV q70 none 0), .int .i64 12] (by intro a' F'; have h70 := F'.at' 70 _ rfl; go_simp) (rest_yes q70 (12) (by kernel_rfl) q70_ok rfl _ HK.env) ?_
  rintro e9 w8 ⟨rfl, hb8⟩
  replace HK := HK.below hb8
  clear hb8
  clear w9
  rename World => w9
  refine ⟨_, rfl, ?_⟩
  clear F a9
  intro a9 F
  refine fr_ch F 2 [(73, .bool false), (72, .bool false)] (by kernel_rfl) ?_
  clear F a9
  intro a9 F
  refine wpList_nil ?_
  show Code.wp _ _ _ _ _
  refine wp_cond_false (F.ev 73 rfl) ?_
  refine wp_skip ?_
  show Code.wp _ _ _ _ _
  replace F : FrL 212 [] a9 := (FrL.nil F.size F.defers)
  replace HK := HK.sub (List.nil_sublist _) (fun r hr => hr)
  replace HK : Keep w [] [] w9 := HK
  refine wp_seq ?_
  refine wp_region_lit ?_
  obtain ⟨i0, hi, hz0, hz1, hz2⟩ := info_parts infoStr
  refine fr_doW F (wanted_free rfl) 74 rfl (by decide) (.slice (some ⟨w9.heap.size, 0, none⟩) 13 13) (w9.alloc (.cells (goodL.map Value.string).toArray 9)) (fun a' F' => run_sliceN 29 9 13 _ rfl [(0, .string ⟨#[97]⟩), (1, .string ⟨#[47]⟩), (2, .string ⟨#[97, 47, 98]⟩), (3, .string ⟨#[43]⟩), (4, .string ⟨#[35]⟩), (5, .string ⟨#[97, 47, 43]⟩), (6, .string ⟨#[43, 47, 43]⟩), (7, .string ⟨#[43, 47, 35]⟩), (8, .string ⟨#[97, 47, 47, 35]⟩), (9, .string ⟨#[47, 43]⟩), (10, .string ⟨#[36, 120, 47, 35]⟩), (11, .string ⟨#[97, 32, 98]⟩), (12, .string ⟨#[47, 47]⟩)] (by simp only [List.map_toArray, List.map_cons, List.map_nil, Act.eval]) _ i0 _ Tryd.underlying29 hi hz0 (by rw [hz1]; decide) (by rw [hz1]; decide) (by rw [hz1]; kernel_rfl)) ?_
  clear F a9
  intro a9 F
  have HK2 := HK.allocRow (goodL.map Value.string) 9
  clear HK
  have HK := HK2
  clear HK2
  obtain ⟨ZG, hZ⟩ : ∃ Z, w9.heap.size = Z := ⟨_, rfl⟩
  rw [hZ] at HK F
  clear hZ hi hz0 hz1 hz2 i0
  generalize w9.alloc (.cells (goodL.map Value.string).toArray 9) = w8 at *
  clear w9
  rename World => w9
  replace HK : Keep w [] [(some ⟨ZG, 0, none⟩, goodL.map Value.string)] w9 := HK
  refine fr_as F (wanted_free rfl) 7 rfl (by decide) 74 rfl rfl ?_
  clear F a9
  intro a9 F
  refine wpList_nil ?_
  show Code.wp _ _ _ _ _
  replace F := F.cut [(7, .slice (some ⟨ZG, 0, none⟩) 13 13)] (by kernel_rfl)
  refine wp_seq ?_
  refine wp_region_lit ?_
  obtain ⟨i0, hi, hz0, hz1, hz2⟩ := info_parts infoStr
  refine fr_doW F (wanted_free rfl) 75 rfl (by decide) (.slice (some ⟨w9.heap.size, 0, none⟩) 15 15) (w9.alloc (.cells (badL3.map Value.string).toArray 9)) (fun a' F' => run_sliceN 29 9 15 _ rfl [(0, .string ⟨#[]⟩), (1, .string ⟨#[97, 43]⟩), (2, .string ⟨#[43, 97]⟩), (3, .string ⟨#[97, 35]⟩), (4, .string ⟨#[35, 97]⟩), (5, .string ⟨#[35, 47]⟩), (6, .string ⟨#[97, 47, 35, 47, 98]⟩), (7, .string ⟨#[97, 47, 98, 43, 47, 99]⟩), (8, .string ⟨#[43, 43]⟩), (9, .string ⟨#[35, 35]⟩), (10, .string ⟨#[43, 35]⟩), (11, .string ⟨#[97, 47, 35, 35]⟩), (12, .string ⟨#[0]⟩), (13, .string ⟨#[97, 47, 255]⟩), (14, .string ⟨#[47, 35, 47]⟩)] (by simp only [List.map_toArray, List.map_cons, List.map_nil, Act.eval]) _ i0 _ Tryd.underlying29 hi hz0 (by rw [hz1]; decide) (by rw [hz1]; decide) (by rw [hz1]; kernel_rfl)) ?_
  clear F a9
  intro a9 F
  have HK2 := HK.allocRow (badL3.map Value.string) 9
  clear HK
  have HK := HK2
  clear HK2
  obtain ⟨ZB, hZ⟩ : ∃ Z, w9.heap.size = Z := ⟨_, rfl⟩
  rw [hZ] at HK F
  clear hZ hi hz0 hz1 hz2 i0
  generalize w9.alloc (.cells (badL3.map Value.string).toArray 9) = w8 at *
  clear w9
  rename World => w9
  replace HK : Keep w [] [(some ⟨ZB, 0, none⟩, badL3.map Value.string), (some ⟨ZG, 0, none⟩, goodL.map Value.string)] w9 := HK
  refine fr_as F (wanted_free rfl) 8 rfl (by decide) 75 rfl rfl ?_
  clear F a9
  intro a9 F
  refine wpList_nil ?_
  show Code.wp _ _ _ _ _
  replace F := F.cut [(8, .slice (some ⟨ZB, 0, none⟩) 15 15), (7, .slice (some ⟨ZG, 0, none⟩) 13 13)] (by kernel_rfl)
  refine wp_seq ?_
  refine wp_seq ?_
  refine wp_region_lit ?_
  refine fr_ch F 1 [(9, .int .i64 0)] (by kernel_rfl) ?_
  clear F a9
  intro a9 F
  refine wpList_nil ?_
  show Code.wp _ _ _ _ _
  replace F := F.cut [(9, .int .i64 0), (8, .slice (some ⟨ZB, 0, none⟩) 15 15), (7, .slice (some ⟨ZG, 0, none⟩) 13 13)] (by kernel_rfl)
  refine wp_block_end (fun a' w' => FrL 212 [(8, .slice (some ⟨ZB, 0, none⟩) 15 15), (7, .slice (some ⟨ZG, 0, none⟩) 13 13)] a' ∧ Keep w [] [(some ⟨ZB, 0, none⟩, badL3.map Value.string), (some ⟨ZG, 0, none⟩, goodL.map Value.string)] w') ?_ ?_
  · skip
    refine wp_loop (fun a' w' => ∃ (k : Nat), k ≤ 13 ∧ FrL 212 [(9, .int .i64 (k : Int)), (8, .slice (some ⟨ZB, 0, none⟩) 15 15), (7, .slice (some ⟨ZG, 0, none⟩) 13 13)] a' ∧ Keep w [] [(some ⟨ZB, 0, none⟩, badL3.map Value.string), (some ⟨ZG, 0, none⟩, goodL.map Value.string)] w') (fun a' _ => muI 13 9 a') ⟨0, by decide, F, HK⟩ ?_
    clear F HK a9 w9
    rintro a9 w9 ⟨k, hk, F, HK⟩
    rw [muI_at F 9 k rfl]
    refine wp_seq ?_
    refine wp_seq ?_
    by_cases hlt : k < 13
    · skip
      refine wp_region_lit ?_
      refine fr_mv F (wanted_free rfl) 76 rfl (by decide) 9 rfl rfl ?_
      clear F a9
      intro a9 F
      refine fr_mv F (wanted_free rfl) 77 rfl (by decide) 7 rfl rfl ?_
      clear F a9
      intro a9 F
      refine fr_ch F 1 [(78, .int .i64 13)] (by kernel_rfl) ?_
      clear F a9
      intro a9 F
      refine fr_do F (wanted_free rfl) 79 rfl (by decide) (.bool true) (by intro a' F'; have h76 := F'.at' 76 _ rfl; have h78 := F'.at' 78 _ rfl; go_simp <;> omega) ?_
      clear F a9
      intro a9 F
      refine wpList_nil ?_
      show Code.wp _ _ _ _ _
      refine wp_cond_true (F.ev 79 rfl) ?_
      refine wp_skip ?_
      show Code.wp _ _ _ _ _
      replace F := F.cut [(9, .int .i64 (k : Int)), (8, .slice (some ⟨ZB, 0, none⟩) 15 15), (7, .slice (some ⟨ZG, 0, none⟩) 13 13)] (by kernel_rfl)
      obtain ⟨x, hx⟩ : ∃ x, goodL[k]? = some x := ⟨_, List.getElem?_eq_getElem (show k < goodL.length from hlt)⟩
      obtain ⟨hx5, hr1, hr2, hr3⟩ := good_all x (List.mem_of_getElem? hx)
      have HX := Lib.hid (show (goodL.map Value.string)[k]? = some (.string x) by rw [List.getElem?_map, hx]; rfl)
      have h122 : (⟨#[122]⟩ : ByteArray).size ≤ 10 := by decide
      have HR1 := Lib.hid (fun a w9 => rest_row (sP 8 x ⟨#[122]⟩ 2) a _ (decide_eq_true hr1) (sP_ok 8 x _ 2 (by decide) (by decide) hx5 h122) w9)
      have HR2 := Lib.hid (fun a w9 => rest_row (sP 10 x ⟨#[122]⟩ 2) a _ (decide_eq_true hr2) (sP_ok 10 x _ 2 (by decide) (by decide) hx5 h122) w9)
      have HR3 := Lib.hid (fun a w9 => rest_row (sP 10 x ⟨#[122]⟩ 0) a _ (decide_eq_true hr3) (sP_ok 10 x _ 0 (by decide) (by decide) hx5 h122) w9)
      clear hr1 hr2 hr3 hx h122
      refine wp_seq ?_
      refine wp_block_end (fun a' w' => FrL 212 [(9, .int .i64 (k : Int)), (8, .slice (some ⟨ZB, 0, none⟩) 15 15), (7, .slice (some ⟨ZG, 0, none⟩) 13 13)] a' ∧ Keep w [] [(some ⟨ZB, 0, none⟩, badL3.map Value.string), (some ⟨ZG, 0, none⟩, goodL.map Value.string)] w') ?_ ?_
      · skip
        refine wp_seq ?_
        refine wp_region_lit ?_
        refine fr_ch F 2 [(83, .int .i64 (k : Int)), (82, .slice (some ⟨ZG, 0, none⟩) 13 13)] (by kernel_rfl) ?_
        clear F a9
        intro a9 F
        refine fr_do F (wanted_free rfl) 84 rfl (by decide) (.pointer (some ⟨ZG, k, none⟩)) (by intro a' F'; have h82 := F'.at' 82 _ rfl; have h83 := F'.at' 83 _ rfl; go_simp <;> omega) ?_
        clear F a9
        intro a9 F
        refine fr_do F (wanted_free rfl) 85 rfl (by decide) (.string x) (by intro a' F'; have h84 := F'.at' 84 _ rfl; have hc := row_cell0 (HK.rowAt 1 rfl) HX.out; go_simp) ?_
        clear F a9
        intro a9 F
        refine fr_ch F 2 [(87, .agg #[.string ⟨#[122]⟩, .int .u8 ((0 : Nat) : Int)]), (86, .agg #[.string x, .int .u8 ((2 : Nat) : Int)])] (by kernel_rfl) ?_
        clear F a9
        intro a9 F
        obtain ⟨i0, hi, hz0, hz1, hz2⟩ := info_parts infoSub
        refine fr_doW F (wanted_free rfl) 88 rfl (by decide) (.slice (some ⟨w9.heap.size, 0, none⟩) 2 2) (w9.alloc (.cells #[.string x, .int .u8 ((2 : Nat) : Int), .string ⟨#[122]⟩, .int .u8 ((0 : Nat) : Int)] 31)) (fun a' F' => run_sliceN 25 31 2 _ rfl [(0, .agg #[.string x, .int .u8 ((2 : Nat) : Int)]), (1, .agg #[.string ⟨#[122]⟩, .int .u8 ((0 : Nat) : Int)])] (by have g1 := F'.get 86 rfl; have g2 := F'.get 87 rfl; simp only [List.map_toArray, List.map_cons, List.map_nil, Act.eval, g1, g2]) _ i0 _ Tryd.underlying25 hi hz0 (by rw [hz1]; decide) (by rw [hz1]; decide) (by rw [hz1]; kernel_rfl)) ?_
        clear F a9
        intro a9 F
        have HK2 := HK.alloc #[.string x, .int .u8 ((2 : Nat) : Int), .string ⟨#[122]⟩, .int .u8 ((0 : Nat) : Int)] 31
        clear HK
        have HK := HK2
        clear HK2
        obtain ⟨Z, hZ⟩ : ∃ Z, w9.heap.size = Z := ⟨_, rfl⟩
        rw [hZ] at HK F
        clear hZ hi hz0 hz1 hz2 i0
        generalize w9.alloc (.cells #[.string x, .int .u8 ((2 : Nat) : Int), .string ⟨#[122]⟩, .int .u8 ((0 : Nat) : Int)] 31) = w8 at *
        clear w9
        rename World => w9
        replace HK : Keep w [(Z, #[.string x, .int .u8 ((2 : Nat) : Int), .string ⟨#[122]⟩, .int .u8 ((0 : Nat) : Int)], 31)] [(some ⟨ZB, 0, none⟩, badL3.map Value.string), (some ⟨ZG, 0, none⟩, goodL.map Value.string)] w9 := HK
        refine fr_ch F 1 [(89, .agg (pkV (sP 8 x ⟨#[122]⟩ 2) (some ⟨Z, 0, none⟩) 2))] (by kernel_rfl) ?_
        clear F a9
        intro a9 F
        obtain ⟨i0, hi, hz0, hz1, hz2⟩ := info_parts infoPkR
        refine fr_new F HK 10 (by decide) rfl 27 rfl rfl rfl (.tmp 89) rfl rfl i0 _ hi hz0 (cells := (pkV (sP 8 x ⟨#[122]⟩ 2) (some ⟨Z, 0, none⟩) 2)) hz1 rfl (pk_one _ _ _) (fun a' Y F' => F'.ev 89 rfl) ?_
        rintro V a10 w10 hX F' HK' hb
        clear HK F hb hX hi hz0 hz1 hz2 i0
        clear a9 w9
        rename World => w9
        rename Act => a9
        have HK := HK'
        have F := F'
        clear HK' F'
        replace HK : Keep w [(V, (pkV (sP 8 x ⟨#[122]⟩ 2) (some ⟨Z, 0, none⟩) 2), 27), (Z, #[.string x, .int .u8 ((2 : Nat) : Int), .string ⟨#[122]⟩, .int .u8 ((0 : Nat) : Int)], 31)] [(some ⟨ZB, 0, none⟩, badL3.map Value.string), (some ⟨ZG, 0, none⟩, goodL.map Value.string)] w9 := HK
        refine wpList_nil ?_
        show Code.wp _ _ _ _ _
        replace F := F.cut [(10, .pointer (some ⟨V, 0, none⟩)), (9, .int .i64 (k : Int)), (8, .slice (some ⟨ZB, 0, none⟩) 15 15), (7, .slice (some ⟨ZG, 0, none⟩) 13 13)] (by kernel_rfl)
        refine wp_seq ?_
        refine wp_seq ?_
        refine wp_region_noPanic ?_
        have hb8 : Below w9.heap.size w9 w9.drew := below_draws (n := 1) rfl
        replace HK := HK.below hb8
        clear hb8
        refine AnyT.begin (S := fun w' => BoxAt w' V (pkV (sP 8 x ⟨#[122]⟩ 2) (some ⟨Z, 0, none⟩) 2) 27 ∧ w'.cell? ⟨ZG, k, none⟩ = some (.string x)) (z := 1000) (by kernel_rfl) ⟨HK.at 0 rfl, row_cell0 (HK.rowAt 1 rfl) HX.out⟩ (fun hS0 => ?_)
        clear hS0
        generalize w9.drew = w8 at *
        clear w9
        rename World => w9
        refine fr_takeG (i := 0) (o := ⟨some 90, _, _, _, _, _⟩) F ⟨HK.at 0 rfl, row_cell0 (HK.rowAt 1 rfl) HX.out⟩ rfl (wanted_free rfl) 90 rfl (by decide) (.agg (pkV (sP 8 x ⟨#[122]⟩ 2) (some ⟨Z, 0, none⟩) 2)) (fun w9 hS => (by intro a' F'; exact run_load_box rfl (F'.ev 10 rfl) hS.1 Tryd.underlying27 rfl infoPk)) ?_
        clear F a9
        intro a9 F
        refine fr_takeG (i := 1) (o := ⟨some 91, _, _, _, _, _⟩) F ⟨HK.at 0 rfl, row_cell0 (HK.rowAt 1 rfl) HX.out⟩ rfl (wanted_free rfl) 91 rfl (by decide) (.slice (some ⟨ZG, 0, none⟩) 13 13) (fun w9 hS => (by intro a' F'; have h7 := F'.at' 7 _ rfl; go_simp)) ?_
        clear F a9
        intro a9 F
        refine fr_takeG (i := 2) (o := ⟨some 92, _, _, _, _, _⟩) F ⟨HK.at 0 rfl, row_cell0 (HK.rowAt 1 rfl) HX.out⟩ rfl (wanted_free rfl) 92 rfl (by decide) (.int .i64 (k : Int)) (fun w9 hS => (by intro a' F'; have h9 := F'.at' 9 _ rfl; go_simp)) ?_
        clear F a9
        intro a9 F
        refine fr_takeG (i := 3) (o := ⟨some 93, _, _, _, _, _⟩) F ⟨HK.at 0 rfl, row_cell0 (HK.rowAt 1 rfl) HX.out⟩ rfl (wanted_free rfl) 93 rfl (by decide) (.pointer (some ⟨ZG, k, none⟩)) (fun w9 hS => (by intro a' F'; have h91 := F'.at' 91 _ rfl; have h92 := F'.at' 92 _ rfl; go_simp <;> omega)) ?_
        clear F a9
        intro a9 F
        refine fr_takeG (i := 4) (o := ⟨some 94, _, _, _, _, _⟩) F ⟨HK.at 0 rfl, row_cell0 (HK.rowAt 1 rfl) HX.out⟩ rfl (wanted_free rfl) 94 rfl (by decide) (.string x) (fun w9 hS => (by intro a' F'; have h93 := F'.at' 93 _ rfl; have hc := hS.2; go_simp)) ?_
        clear F a9
        intro a9 F
        refine fr_takeG (i := 5) (o := ⟨some 95, _, _, _, _, _⟩) F ⟨HK.at 0 rfl, row_cell0 (HK.rowAt 1 rfl) HX.out⟩ rfl (wanted_free rfl) 95 rfl (by decide) (.int .i64 (x.size : Int)) (fun w9 hS => (by intro a' F'; have h94 := F'.at' 94 _ rfl; go_simp)) ?_
        clear F a9
        intro a9 F
        refine fr_takeG (i := 6) (o := ⟨some 96, _, _, _, _, _⟩) F ⟨HK.at 0 rfl, row_cell0 (HK.rowAt 1 rfl) HX.out⟩ rfl (wanted_free rfl) 96 rfl (by decide) (.int .i64 ((9 + x.size : Nat) : Int)) (fun w9 hS => (by intro a' F'; have h95 := F'.at' 95 _ rfl; go_simp <;> (rw [IntKind.wrap_i64]; omega))) ?_
        clear F a9
        intro a9 F
        refine fr_stepC (i := 7) (o := ⟨some 97, _, _, _, _, _⟩) F rfl (wanted_free rfl) 97 rfl (by decide) 10 #[.agg (pkV (sP 8 x ⟨#[122]⟩ 2) (some ⟨Z, 0, none⟩) 2), .int .i64 ((9 + x.size : Nat) : Int)] (by intro a' F'; have h90 := F'.at' 90 _ rfl; have h96 := F'.at' 96 _ rfl; go_simp) (HR1.out _ _ HK.env (box_cellsA (HK.at 1 rfl))) ?_
        rintro e9 w8 ⟨rfl, hb8⟩
        replace HK := HK.below hb8
        clear hb8
        clear w9
        rename World => w9
        refine ⟨_, rfl, ⟨HK.at 0 rfl, row_cell0 (HK.rowAt 1 rfl) HX.out⟩, ?_⟩
        clear F a9
        intro a9 F
        refine fr_takeG (i := 8) (o := ⟨some 98, _, _, _, _, _⟩) F ⟨HK.at 0 rfl, row_cell0 (HK.rowAt 1 rfl) HX.out⟩ rfl (wanted_free rfl) 98 rfl (by decide) (.bool false) (fun w9 hS => (by intro a' F'; have h97 := F'.at' 97 _ rfl; go_simp)) ?_
        clear F a9
        intro a9 F
        refine AnyT.done (by kernel_rfl) ?_ _
        refine NoPanic.normal ?_
        show Code.wp _ _ _ _ _
        refine wp_cond_false (F.ev 98 rfl) ?_
        refine wp_skip ?_
        show Code.wp _ _ _ _ _
        replace F := F.cut [(10, .pointer (some ⟨V, 0, none⟩)), (9, .int .i64 (k : Int)), (8, .slice (some ⟨ZB, 0, none⟩) 15 15), (7, .slice (some ⟨ZG, 0, none⟩) 13 13)] (by kernel_rfl)
        refine wp_seq ?_
        refine wp_region_lit ?_
        refine fr_ch F 1 [(99, .pointer (some ⟨V, 0, none⟩))] (by kernel_rfl) ?_
        clear F a9
        intro a9 F
        refine fr_putO F HK 0 rfl rfl rfl 5 _ _ rfl 0 (.int .u8 10) (fun a' F' => F'.ev 99 rfl) (fun a' F' => rfl) z_u8 (Nat.le_of_ble_eq_true (by kernel_rfl)) (by kernel_rfl) ?_
        intro a10 w10 F' HK' HO
        clear HK F HO
        clear a9 w9
        rename World => w9
        rename Act => a9
        have HK := HK'
        have F := F'
        clear HK' F'
        replace HK : Keep w [(V, (pkV (sP 10 x ⟨#[122]⟩ 2) (some ⟨Z, 0, none⟩) 2), 27), (Z, #[.string x, .int .u8 ((2 : Nat) : Int), .string ⟨#[122]⟩, .int .u8 ((0 : Nat) : Int)], 31)] [(some ⟨ZB, 0, none⟩, badL3.map Value.string), (some ⟨ZG, 0, none⟩, goodL.map Value.string)] w9 := HK
        refine wpList_nil ?_
        show Code.wp _ _ _ _ _
        replace F := F.cut [(10, .pointer (some ⟨V, 0, none⟩)), (9, .int .i64 (k : Int)), (8, .slice (some ⟨ZB, 0, none⟩) 15 15), (7, .slice (some ⟨ZG, 0, none⟩) 13 13)] (by kernel_rfl)
        refine wp_seq ?_
        refine wp_seq ?_
        refine wp_region_lit ?_
        refine fr_do F (wanted_free rfl) 100 rfl (by decide) (.agg ((pkV (sP 10 x ⟨#[122]⟩ 2) (some ⟨Z, 0, none⟩) 2))) (by intro a' F'; exact run_load_box rfl (F'.ev 10 rfl) (HK.at 0 rfl) Tryd.underlying27 rfl infoPk) ?_
        clear F a9
        intro a9 F
        refine fr_call F (wanted_free rfl) 101 rfl (by decide) 10 #[.agg (pkV (sP 10 x ⟨#[122]⟩ 2) (some ⟨Z, 0, none⟩) 2), .int .i64 (-1)] (by intro a' F'; have h100 := F'.at' 100 _ rfl; go_simp) (HR2.out _ _ HK.env (box_cellsA (HK.at 1 rfl))) ?_
        rintro e9 w8 ⟨rfl, hb8⟩
        replace HK := HK.below hb8
        clear hb8
        clear w9
        rename World => w9
        refine ⟨_, rfl, ?_⟩
        clear F a9
        intro a9 F
        refine fr_ch F 1 [(102, .bool false)] (by kernel_rfl) ?_
        clear F a9
        intro a9 F
        refine wpList_nil ?_
        show Code.wp _ _ _ _ _
        refine wp_cond_false (F.ev 102 rfl) ?_
        refine wp_skip ?_
        show Code.wp _ _ _ _ _
        replace F := F.cut [(10, .pointer (some ⟨V, 0, none⟩)), (9, .int .i64 (k : Int)), (8, .slice (some ⟨ZB, 0, none⟩) 15 15), (7, .slice (some ⟨ZG, 0, none⟩) 13 13)] (by kernel_rfl)
        refine wp_seq ?_
        refine wp_region_lit ?_
        refine fr_ch F 1 [(103, .pointer (some ⟨V, 22, none⟩))] (by kernel_rfl) ?_
        clear F a9
        intro a9 F
        refine fr_do F (wanted_free rfl) 104 rfl (by decide) (.slice (some ⟨Z, 0, none⟩) 2 2) (by intro a' F'; have hc : w9.cell? ⟨V, 22, none⟩ = some (.slice (some ⟨Z, 0, none⟩) 2 2) := (HK.at 0 rfl).cells 22; have h103 := F'.at' 103 _ rfl; go_simp) ?_
        clear F a9
        intro a9 F
        refine fr_ch F 2 [(106, .pointer (some ⟨Z, 1, none⟩)), (105, .pointer (some ⟨Z, 0, none⟩))] (by kernel_rfl) ?_
        clear F a9
        intro a9 F
        refine fr_putO F HK 1 rfl rfl rfl 5 _ _ rfl 1 (.int .u8 0) (fun a' F' => F'.ev 106 rfl) (fun a' F' => rfl) z_u8 (Nat.le_of_ble_eq_true (by kernel_rfl)) (by kernel_rfl) ?_
        intro a10 w10 F' HK' HO
        clear HK F HO
        clear a9 w9
        rename World => w9
        rename Act => a9
        have HK := HK'
        have F := F'
        clear HK' F'
        replace HK : Keep w [(V, (pkV (sP 10 x ⟨#[122]⟩ 2) (some ⟨Z, 0, none⟩) 2), 27), (Z, #[.string x, .int .u8 ((0 : Nat) : Int), .string ⟨#[122]⟩, .int .u8 ((0 : Nat) : Int)], 31)] [(some ⟨ZB, 0, none⟩, badL3.map Value.string), (some ⟨ZG, 0, none⟩, goodL.map Value.string)] w9 := HK
        replace HK : Keep w [(V, (pkV (sP 10 x ⟨#[122]⟩ 0) (some ⟨Z, 0, none⟩) 2), 27), (Z, #[.string x, .int .u8 ((0 : Nat) : Int), .string ⟨#[122]⟩, .int .u8 ((0 : Nat) : Int)], 31)] [(some ⟨ZB, 0, none⟩, badL3.map Value.string), (some ⟨ZG, 0, none⟩, goodL.map Value.string)] w9 := HK
        refine wpList_nil ?_
        show Code.wp _ _ _ _ _
        replace F := F.cut [(10, .pointer (some ⟨V, 0, none⟩)), (9, .int .i64 (k : Int)), (8, .slice (some ⟨ZB, 0, none⟩) 15 15), (7, .slice (some ⟨ZG, 0, none⟩) 13 13)] (by kernel_rfl)
        refine wp_seq ?_
        refine wp_region_noPanic ?_
        have hb8 : Below w9.heap.size w9 w9.drew := below_draws (n := 1) rfl
        replace HK := HK.below hb8
        clear hb8
        refine AnyT.begin (S := fun w' => BoxAt w' V (pkV (sP 10 x ⟨#[122]⟩ 0) (some ⟨Z, 0, none⟩) 2) 27 ∧ w'.cell? ⟨ZG, k, none⟩ = some (.string x)) (z := 1000) (by kernel_rfl) ⟨HK.at 0 rfl, row_cell0 (HK.rowAt 1 rfl) HX.out⟩ (fun hS0 => ?_)
        clear hS0
        generalize w9.drew = w8 at *
        clear w9
        rename World => w9
        refine fr_takeG (i := 0) (o := ⟨some 107, _, _, _, _, _⟩) F ⟨HK.at 0 rfl, row_cell0 (HK.rowAt 1 rfl) HX.out⟩ rfl (wanted_free rfl) 107 rfl (by decide) (.agg (pkV (sP 10 x ⟨#[122]⟩ 0) (some ⟨Z, 0, none⟩) 2)) (fun w9 hS => (by intro a' F'; exact run_load_box rfl (F'.ev 10 rfl) hS.1 Tryd.underlying27 rfl infoPk)) ?_
        clear F a9
        intro a9 F
        refine fr_takeG (i := 1) (o := ⟨some 108, _, _, _, _, _⟩) F ⟨HK.at 0 rfl, row_cell0 (HK.rowAt 1 rfl) HX.out⟩ rfl (wanted_free rfl) 108 rfl (by decide) (.slice (some ⟨ZG, 0, none⟩) 13 13) (fun w9 hS => (by intro a' F'; have h7 := F'.at' 7 _ rfl; go_simp)) ?_
        clear F a9
        intro a9 F
        refine fr_takeG (i := 2) (o := ⟨some 109, _, _, _, _, _⟩) F ⟨HK.at 0 rfl, row_cell0 (HK.rowAt 1 rfl) HX.out⟩ rfl (wanted_free rfl) 109 rfl (by decide) (.int .i64 (k : Int)) (fun w9 hS => (by intro a' F'; have h9 := F'.at' 9 _ rfl; go_simp)) ?_
        clear F a9
        intro a9 F
        refine fr_takeG (i := 3) (o := ⟨some 110, _, _, _, _, _⟩) F ⟨HK.at 0 rfl, row_cell0 (HK.rowAt 1 rfl) HX.out⟩ rfl (wanted_free rfl) 110 rfl (by decide) (.pointer (some ⟨ZG, k, none⟩)) (fun w9 hS => (by intro a' F'; have h108 := F'.at' 108 _ rfl; have h109 := F'.at' 109 _ rfl; go_simp <;> omega)) ?_
        clear F a9
        intro a9 F
        refine fr_takeG (i := 4) (o := ⟨some 111, _, _, _, _, _⟩) F ⟨HK.at 0 rfl, row_cell0 (HK.rowAt 1 rfl) HX.out⟩ rfl (wanted_free rfl) 111 rfl (by decide) (.string x) (fun w9 hS => (by intro a' F'; have h110 := F'.at' 110 _ rfl; have hc := hS.2; go_simp)) ?_
        clear F a9
        intro a9 F
        refine fr_takeG (i := 5) (o := ⟨some 112, _, _, _, _, _⟩) F ⟨HK.at 0 rfl, row_cell0 (HK.rowAt 1 rfl) HX.out⟩ rfl (wanted_free rfl) 112 rfl (by decide) (.int .i64 (x.size : Int)) (fun w9 hS => (by intro a' F'; have h111 := F'.at' 111 _ rfl; go_simp)) ?_
        clear F a9
        intro a9 F
        refine fr_takeG (i := 6) (o := ⟨some 113, _, _, _, _, _⟩) F ⟨HK.at 0 rfl, row_cell0 (HK.rowAt 1 rfl) HX.out⟩ rfl (wanted_free rfl) 113 rfl (by decide) (.int .i64 ((7 + x.size : Nat) : Int)) (fun w9 hS => (by intro a' F'; have h112 := F'.at' 112 _ rfl; go_simp <;> (rw [IntKind.wrap_i64]; omega))) ?_
        clear F a9
        intro a9 F
        refine fr_stepC (i := 7) (o := ⟨some 114, _, _, _, _, _⟩) F rfl (wanted_free rfl) 114 rfl (by decide) 10 #[.agg (pkV (sP 10 x ⟨#[122]⟩ 0) (some ⟨Z, 0, none⟩) 2), .int .i64 ((7 + x.size : Nat) : Int)] (by intro a' F'; have h107 := F'.at' 107 _ rfl; have h113 := F'.at' 113 _ rfl; go_simp) (HR3.out _ _ HK.env (box_cellsA (HK.at 1 rfl))) ?_
        rintro e9 w8 ⟨rfl, hb8⟩
        replace HK := HK.below hb8
        clear hb8
        clear w9
        rename World => w9
        refine ⟨_, rfl, ⟨HK.at 0 rfl, row_cell0 (HK.rowAt 1 rfl) HX.out⟩, ?_⟩
        clear F a9
        intro a9 F
        refine fr_takeG (i := 8) (o := ⟨some 115, _, _, _, _, _⟩) F ⟨HK.at 0 rfl, row_cell0 (HK.rowAt 1 rfl) HX.out⟩ rfl (wanted_free rfl) 115 rfl (by decide) (.bool false) (fun w9 hS => (by intro a' F'; have h114 := F'.at' 114 _ rfl; go_simp)) ?_
        clear F a9
        intro a9 F
        refine AnyT.done (by kernel_rfl) ?_ _
        refine NoPanic.normal ?_
        show Code.wp _ _ _ _ _
        refine wp_cond_false (F.ev 115 rfl) ?_
        refine wp_skip ?_
        exact ⟨((((FrL.nil F.size F.defers).add 7 _ (F.at' 7 _ rfl)).add 8 _ (F.at' 8 _ rfl)).add 9 _ (F.at' 9 _ rfl)), HK.sub (List.nil_sublist _) (fun r hr => hr)⟩
      · clear F HK HX HR1 HR2 HR3 hx5 a9 w9
        rintro a9 w9 ⟨F, HK⟩
        show Code.wp _ _ _ _ _
        refine wp_region_lit ?_
        refine fr_mv F (wanted_free rfl) 80 rfl (by decide) 9 rfl rfl ?_
        clear F a9
        intro a9 F
        refine fr_do F (wanted_free rfl) 81 rfl (by decide) (.int .i64 ((k + 1 : Nat) : Int)) (by intro a' F'; have h80 := F'.at' 80 _ rfl; go_simp <;> (rw [IntKind.wrap_i64]; omega)) ?_
        clear F a9
        intro a9 F
        refine fr_ch F 1 [(9, .int .i64 ((k + 1 : Nat) : Int))] (by kernel_rfl) ?_
        clear F a9
        intro a9 F
        refine wpList_nil ?_
        replace F := F.cut [(9, .int .i64 ((k + 1 : Nat) : Int)), (8, .slice (some ⟨ZB, 0, none⟩) 15 15), (7, .slice (some ⟨ZG, 0, none⟩) 13 13)] (by kernel_rfl)
        refine ⟨⟨k + 1, by omega, F, HK⟩, ?_⟩
        rw [muI_at F 9 (k + 1) rfl]
        omega
    · skip
      refine wp_region_lit ?_
      refine fr_mv F (wanted_free rfl) 76 rfl (by decide) 9 rfl rfl ?_
      clear F a9
      intro a9 F
      refine fr_ch F 2 [(78, .int .i64 13)] (by kernel_rfl) ?_
      clear F a9
      intro a9 F
      refine fr_do F (wanted_free rfl) 79 rfl (by decide) (.bool false) (by intro a' F'; have h76 := F'.at' 76 _ rfl; have h78 := F'.at' 78 _ rfl; go_simp <;> omega) ?_
      clear F a9
      intro a9 F
      refine wpList_nil ?_
      show Code.wp _ _ _ _ _
      refine wp_cond_false (F.ev 79 rfl) ?_
      refine wp_exit ?_
      exact then_exit (then_exit (exit_in ⟨(((FrL.nil F.size F.defers).add 7 _ (F.at' 7 _ rfl)).add 8 _ (F.at' 8 _ rfl)), HK⟩))
  · clear F HK a9 w9
    rintro a9 w9 ⟨F, HK⟩
    show Code.wp _ _ _ _ _
    refine wp_seq ?_
    refine wp_seq ?_
    refine wp_region_lit ?_
    refine fr_ch F 1 [(11, .int .i64 0)] (by kernel_rfl) ?_
    clear F a9
    intro a9 F
    refine wpList_nil ?_
    show Code.wp _ _ _ _ _
    replace F := F.cut [(11, .int .i64 0), (8, .slice (some ⟨ZB, 0, none⟩) 15 15), (7, .slice (some ⟨ZG, 0, none⟩) 13 13)] (by kernel_rfl)
    refine wp_block_end (fun a' w' => FrL 212 [] a' ∧ Keep w [] [(some ⟨ZB, 0, none⟩, badL3.map Value.string), (some ⟨ZG, 0, none⟩, goodL.map Value.string)] w') ?_ ?_
    · skip
      refine wp_loop (fun a' w' => ∃ (k : Nat), k ≤ 15 ∧ FrL 212 [(11, .int .i64 (k : Int)), (8, .slice (some ⟨ZB, 0, none⟩) 15 15), (7, .slice (some ⟨ZG, 0, none⟩) 13 13)] a' ∧ Keep w [] [(some ⟨ZB, 0, none⟩, badL3.map Value.string), (some ⟨ZG, 0, none⟩, goodL.map Value.string)] w') (fun a' _ => muI 15 11 a') ⟨0, by decide, F, HK⟩ ?_
      clear F HK a9 w9
      rintro a9 w9 ⟨k, hk, F, HK⟩
      rw [muI_at F 11 k rfl]
      refine wp_seq ?_
      refine wp_seq ?_
      by_cases hlt : k < 15
      · skip
        refine wp_region_lit ?_
        refine fr_mv F (wanted_free rfl) 116 rfl (by decide) 11 rfl rfl ?_
        clear F a9
        intro a9 F
        refine fr_mv F (wanted_free rfl) 117 rfl (by decide) 8 rfl rfl ?_
        clear F a9
        intro a9 F
        refine fr_ch F 1 [(118, .int .i64 15)] (by kernel_rfl) ?_
        clear F a9
        intro a9 F
        refine fr_do F (wanted_free rfl) 119 rfl (by decide) (.bool true) (by intro a' F'; have h116 := F'.at' 116 _ rfl; have h118 := F'.at' 118 _ rfl; go_simp <;> omega) ?_
        clear F a9
        intro a9 F
        refine wpList_nil ?_
        show Code.wp _ _ _ _ _
        refine wp_cond_true (F.ev 119 rfl) ?_
        refine wp_skip ?_
        show Code.wp _ _ _ _ _
        replace F := F.cut [(11, .int .i64 (k : Int)), (8, .slice (some ⟨ZB, 0, none⟩) 15 15), (7, .slice (some ⟨ZG, 0, none⟩) 13 13)] (by kernel_rfl)
        obtain ⟨x, hx⟩ : ∃ x, badL3[k]? = some x := ⟨_, List.getElem?_eq_getElem (show k < badL3.length from hlt)⟩
        obtain ⟨hx5, hr1, hr2⟩ := bad_all x (List.mem_of_getElem? hx)
        have HX := Lib.hid (show (badL3.map Value.string)[k]? = some (.string x) by rw [List.getElem?_map, hx]; rfl)
        have h122 : (⟨#[122]⟩ : ByteArray).size ≤ 10 := by decide
        have HR1 := Lib.hid (fun a w9 => rest_row (sP 8 ⟨#[122]⟩ x 0) a _ (decide_eq_true hr1) (sP_ok 8 _ x 0 (by decide) (by decide) h122 hx5) w9)
        have HR2 := Lib.hid (fun w9 => rest_yes { Pk.zero with ty := 3, topic := x } _ (decide_eq_true hr2) (nP_ok x hx5) rfl w9)
        clear hr1 hr2 hx h122
        refine wp_seq ?_
        refine wp_block_end (fun a' w' => FrL 212 [(11, .int .i64 (k : Int)), (8, .slice (some ⟨ZB, 0, none⟩) 15 15), (7, .slice (some ⟨ZG, 0, none⟩) 13 13)] a' ∧ Keep w [] [(some ⟨ZB, 0, none⟩, badL3.map Value.string), (some ⟨ZG, 0, none⟩, goodL.map Value.string)] w') ?_ ?_
        · skip
          refine wp_seq ?_
          refine wp_region_lit ?_
          refine fr_ch F 3 [(124, .int .i64 (k : Int)), (123, .slice (some ⟨ZB, 0, none⟩) 15 15), (122, .agg #[.string ⟨#[122]⟩, .int .u8 ((0 : Nat) : Int)])] (by kernel_rfl) ?_
          clear F a9
          intro a9 F
          refine fr_do F (wanted_free rfl) 125 rfl (by decide) (.pointer (some ⟨ZB, k, none⟩)) (by intro a' F'; have h123 := F'.at' 123 _ rfl; have h124 := F'.at' 124 _ rfl; go_simp <;> omega) ?_
          clear F a9
          intro a9 F
          refine fr_do F (wanted_free rfl) 126 rfl (by decide) (.string x) (by intro a' F'; have h125 := F'.at' 125 _ rfl; have hc := row_cell0 (HK.rowAt 0 rfl) HX.out; go_simp) ?_
          clear F a9
          intro a9 F
          refine fr_ch F 1 [(127, .agg #[.string x, .int .u8 ((0 : Nat) : Int)])] (by kernel_rfl) ?_
          clear F a9
          intro a9 F
          obtain ⟨i0, hi, hz0, hz1, hz2⟩ := info_parts infoSub
          refine fr_doW F (wanted_free rfl) 128 rfl (by decide) (.slice (some ⟨w9.heap.size, 0, none⟩) 2 2) (w9.alloc (.cells #[.string ⟨#[122]⟩, .int .u8 ((0 : Nat) : Int), .string x, .int .u8 ((0 : Nat) : Int)] 31)) (fun a' F' => run_sliceN 25 31 2 _ rfl [(0, .agg #[.string ⟨#[122]⟩, .int .u8 ((0 : Nat) : Int)]), (1, .agg #[.string x, .int .u8 ((0 : Nat) : Int)])] (by have g1 := F'.get 122 rfl; have g2 := F'.get 127 rfl; simp only [List.map_toArray, List.map_cons, List.map_nil, Act.eval, g1, g2]) _ i0 _ Tryd.underlying25 hi hz0 (by rw [hz1]; decide) (by rw [hz1]; decide) (by rw [hz1]; kernel_rfl)) ?_
          clear F a9
          intro a9 F
          have HK2 := HK.alloc #[.string ⟨#[122]⟩, .int .u8 ((0 : Nat) : Int), .string x, .int .u8 ((0 : Nat) : Int)] 31
          clear HK
          have HK := HK2
          clear HK2
          obtain ⟨Z, hZ⟩ : ∃ Z, w9.heap.size = Z := ⟨_, rfl⟩
          rw [hZ] at HK F
          clear hZ hi hz0 hz1 hz2 i0
          generalize w9.alloc (.cells #[.string ⟨#[122]⟩, .int .u8 ((0 : Nat) : Int), .string x, .int .u8 ((0 : Nat) : Int)] 31) = w8 at *
          clear w9
          rename World => w9
          replace HK : Keep w [(Z, #[.string ⟨#[122]⟩, .int .u8 ((0 : Nat) : Int), .string x, .int .u8 ((0 : Nat) : Int)], 31)] [(some ⟨ZB, 0, none⟩, badL3.map Value.string), (some ⟨ZG, 0, none⟩, goodL.map Value.string)] w9 := HK
          refine fr_ch F 1 [(129, .agg (pkV (sP 8 ⟨#[122]⟩ x 0) (some ⟨Z, 0, none⟩) 2))] (by kernel_rfl) ?_
          clear F a9
          intro a9 F
          refine fr_call F (wanted_free rfl) 130 rfl (by decide) 10 #[.agg (pkV (sP 8 ⟨#[122]⟩ x 0) (some ⟨Z, 0, none⟩) 2), .int .i64 (-1)] (by intro a' F'; have h129 := F'.at' 129 _ rfl; go_simp) (HR1.out _ _ HK.env (box_cellsA (HK.at 0 rfl))) ?_
          rintro e9 w8 ⟨rfl, hb8⟩
          replace HK := HK.below hb8
          clear hb8
          clear w9
          rename World => w9
          refine ⟨_, rfl, ?_⟩
          clear F a9
          intro a9 F
          refine fr_ch F 2 [(132, .bool false), (131, .bool false)] (by kernel_rfl) ?_
          clear F a9
          intro a9 F
          refine fr_mv F (by rw [wanted_at F rfl (t := 132) (b := false) (by kernel_rfl) rfl]; rfl) 133 rfl (by decide) 8 rfl rfl ?_
          clear F a9
          intro a9 F
          refine fr_mv F (by rw [wanted_at F rfl (t := 132) (b := false) (by kernel_rfl) rfl]; rfl) 134 rfl (by decide) 11 rfl rfl ?_
          clear F a9
          intro a9 F
          refine fr_do F (by rw [wanted_at F rfl (t := 132) (b := false) (by kernel_rfl) rfl]; rfl) 135 rfl (by decide) (.pointer (some ⟨ZB, k, none⟩)) (by intro a' F'; have h133 := F'.at' 133 _ rfl; have h134 := F'.at' 134 _ rfl; go_simp <;> omega) ?_
          clear F a9
          intro a9 F
          refine fr_do F (by rw [wanted_at F rfl (t := 132) (b := false) (by kernel_rfl) rfl]; rfl) 136 rfl (by decide) (.string x) (by intro a' F'; have h135 := F'.at' 135 _ rfl; have hc := row_cell0 (HK.rowAt 0 rfl) HX.out; go_simp) ?_
          clear F a9
          intro a9 F
          refine fr_ch F 1 [(137, .agg (pkV ({ Pk.zero with ty := 3, topic := x }) none 0))] (by kernel_rfl) ?_
          clear F a9
          intro a9 F
          refine fr_call F (by rw [wanted_at F rfl (t := 132) (b := false) (by kernel_rfl) rfl]; rfl) 138 rfl (by decide) 10 #[.agg (pkV { Pk.zero with ty := 3, topic := x } none 0), .int .i64 (-1)] (by intro a' F'; have h137 := F'.at' 137 _ rfl; go_simp) (HR2.out _ HK.env) ?_
          rintro e9 w8 ⟨rfl, hb8⟩
          replace HK := HK.below hb8
          clear hb8
          clear w9
          rename World => w9
          refine ⟨_, rfl, ?_⟩
          clear F a9
          intro a9 F
          refine fr_ch F 2 [(140, .bool false), (139, .bool false)] (by kernel_rfl) ?_
          clear F a9
          intro a9 F
          refine wpList_nil ?_
          show Code.wp _ _ _ _ _
          refine wp_cond_false (F.ev 140 rfl) ?_
          refine wp_skip ?_
          exact ⟨((((FrL.nil F.size F.defers).add 7 _ (F.at' 7 _ rfl)).add 8 _ (F.at' 8 _ rfl)).add 11 _ (F.at' 11 _ rfl)), HK.sub (List.nil_sublist _) (fun r hr => hr)⟩
        · clear F HK HX HR1 HR2 hx5 a9 w9
          rintro a9 w9 ⟨F, HK⟩
          show Code.wp _ _ _ _ _
          refine wp_region_lit ?_
          refine fr_mv F (wanted_free rfl) 120 rfl (by decide) 11 rfl rfl ?_
          clear F a9
          intro a9 F
          refine fr_do F (wanted_free rfl) 121 rfl (by decide) (.int .i64 ((k + 1 : Nat) : Int)) (by intro a' F'; have h120 := F'.at' 120 _ rfl; go_simp <;> (rw [IntKind.wrap_i64]; omega)) ?_
          clear F a9
          intro a9 F
          refine fr_ch F 1 [(11, .int .i64 ((k + 1 : Nat) : Int))] (by kernel_rfl) ?_
          clear F a9
          intro a9 F
          refine wpList_nil ?_
          replace F := F.cut [(11, .int .i64 ((k + 1 : Nat) : Int)), (8, .slice (some ⟨ZB, 0, none⟩) 15 15), (7, .slice (some ⟨ZG, 0, none⟩) 13 13)] (by kernel_rfl)
          refine ⟨⟨k + 1, by omega, F, HK⟩, ?_⟩
          rw [muI_at F 11 (k + 1) rfl]
          omega
      · skip
        refine wp_region_lit ?_
        refine fr_mv F (wanted_free rfl) 116 rfl (by decide) 11 rfl rfl ?_
        clear F a9
        intro a9 F
        refine fr_ch F 2 [(118, .int .i64 15)] (by kernel_rfl) ?_
        clear F a9
        intro a9 F
        refine fr_do F (wanted_free rfl) 119 rfl (by decide) (.bool false) (by intro a' F'; have h116 := F'.at' 116 _ rfl; have h118 := F'.at' 118 _ rfl; go_simp <;> omega) ?_
        clear F a9
        intro a9 F
        refine wpList_nil ?_
        show Code.wp _ _ _ _ _
        refine wp_cond_false (F.ev 119 rfl) ?_
        refine wp_exit ?_
        exact then_exit (then_exit (exit_in ⟨(FrL.nil F.size F.defers), HK⟩))
    · clear F HK a9 w9
      rintro a9 w9 ⟨F, HK⟩
      show Code.wp _ _ _ _ _
      replace HK := HK.sub (List.nil_sublist _) (R' := []) (by intro r hr; cases hr)
      refine wp_seq ?_
      refine wp_seq ?_
      refine wp_region_lit ?_
      refine fr_ch F 1 [(12, .int .u8 0)] (by kernel_rfl) ?_
      clear F a9
      intro a9 F
      refine wpList_nil ?_
      show Code.wp _ _ _ _ _
      replace F := F.cut [(12, .int .u8 ((0 : Nat) : Int))] (by kernel_rfl)
      refine wp_block_end (fun a' w' => FrL 212 [] a' ∧ Keep w [] [] w') ?_ ?_
      · skip
        refine wp_loop (fun a' w' => ∃ (k : Nat), k ≤ 20 ∧ FrL 212 [(12, .int .u8 (k : Int))] a' ∧ Keep w [] [] w') (fun a' _ => muK 20 12 a') ⟨0, by decide, F, HK⟩ ?_
        clear F HK a9 w9
        rintro a9 w9 ⟨k, hk, F, HK⟩
        rw [muK_at F 12 k rfl]
        refine wp_seq ?_
        refine wp_seq ?_
        by_cases hlt : k < 20
        · skip
          refine wp_region_lit ?_
          refine fr_mv F (wanted_free rfl) 141 rfl (by decide) 12 rfl rfl ?_
          clear F a9
          intro a9 F
          refine fr_do F (wanted_free rfl) 142 rfl (by decide) (.bool true) (by intro a' F'; have h141 := F'.at' 141 _ rfl; go_simp <;> omega) ?_
          clear F a9
          intro a9 F
          refine wpList_nil ?_
          show Code.wp _ _ _ _ _
          refine wp_cond_true (F.ev 142 rfl) ?_
          refine wp_skip ?_
          show Code.wp _ _ _ _ _
          replace F := F.cut [(12, .int .u8 (k : Int))] (by kernel_rfl)
          obtain ⟨hr1, hr2⟩ := kind_all k hlt
          have HR1 := Lib.hid (fun w9 => rest_yes { Pk.zero with ty := k, id := 65535 } _ (decide_eq_true hr1) (kA_ok k hlt) rfl w9)
          have HR2 := Lib.hid (fun w9 => rest_yes { Pk.zero with ty := k } _ (decide_eq_true hr2) (kB_ok k hlt) rfl w9)
          clear hr1 hr2
          refine wp_seq ?_
          refine wp_block_end (fun a' w' => FrL 212 [(12, .int .u8 (k : Int))] a' ∧ Keep w [] [] w') ?_ ?_
          · skip
            refine wp_seq ?_
            refine wp_region_lit ?_
            refine fr_ch F 1 [(13, .int .i64 (-1))] (by kernel_rfl) ?_
            clear F a9
            intro a9 F
            refine wpList_nil ?_
            show Code.wp _ _ _ _ _
            replace F := F.cut [(13, .int .i64 (-1)), (12, .int .u8 (k : Int))] (by kernel_rfl)
            refine wp_seq_meet (fun a' w' => FrL 212 [(13, .int .i64 (wantK k)), (12, .int .u8 (k : Int))] a' ∧ w' = w9) ?_ ?_
            · clear HR1 HR2
              have hk20 : k = 0 ∨ k = 1 ∨ k = 2 ∨ k = 3 ∨ k = 4 ∨ k = 5 ∨ k = 6 ∨ k = 7 ∨ k = 8 ∨ k = 9 ∨ k = 10 ∨ k = 11 ∨ k = 12 ∨ k = 13 ∨ k = 14 ∨ k = 15 ∨ k = 16 ∨ k = 17 ∨ k = 18 ∨ k = 19 := by omega
              rcases hk20 with rfl | rfl | rfl | rfl | rfl | rfl | rfl | rfl | rfl | rfl | rfl | rfl | rfl | rfl | rfl | rfl | rfl | rfl | rfl | rfl
              · refine wp_seq ?_
                refine wp_region_lit ?_
                refine fr_ch F 18 [(162, .bool false)] (by kernel_rfl) ?_
                clear F a9
                intro a9 F
                refine wpList_nil ?_
                show Code.wp _ _ _ _ _
                refine wp_cond_false (F.ev 162 rfl) ?_
                refine wp_skip ?_
                exact ⟨F.cut _ (by kernel_rfl), rfl⟩
              · refine wp_seq ?_
                refine wp_region_lit ?_
                refine fr_ch F 18 [(162, .bool false)] (by kernel_rfl) ?_
                clear F a9
                intro a9 F
                refine wpList_nil ?_
                show Code.wp _ _ _ _ _
                refine wp_cond_false (F.ev 162 rfl) ?_
                refine wp_skip ?_
                exact ⟨F.cut _ (by kernel_rfl), rfl⟩
              · refine wp_seq ?_
                refine wp_region_lit ?_
                refine fr_ch F 18 [(162, .bool false)] (by kernel_rfl) ?_
                clear F a9
                intro a9 F
                refine wpList_nil ?_
                show Code.wp _ _ _ _ _
                refine wp_cond_false (F.ev 162 rfl) ?_
                refine wp_skip ?_
                exact ⟨F.cut _ (by kernel_rfl), rfl⟩
              · refine wp_seq ?_
                refine wp_region_lit ?_
                refine fr_ch F 18 [(162, .bool false)] (by kernel_rfl) ?_
                clear F a9
                intro a9 F
                refine wpList_nil ?_
                show Code.wp _ _ _ _ _
                refine wp_cond_false (F.ev 162 rfl) ?_
                refine wp_skip ?_
                exact ⟨F.cut _ (by kernel_rfl), rfl⟩
              · refine wp_seq ?_
                refine wp_region_lit ?_
                refine fr_ch F 18 [(162, .bool true)] (by kernel_rfl) ?_
                clear F a9
                intro a9 F
                refine wpList_nil ?_
                show Code.wp _ _ _ _ _
                refine wp_cond_true (F.ev 162 rfl) ?_
                refine wp_region_lit ?_
                refine fr_ch F 1 [(13, .int .i64 2)] (by kernel_rfl) ?_
                clear F a9
                intro a9 F
                refine wpList_nil ?_
                exact ⟨F.cut _ (by kernel_rfl), rfl⟩
              · refine wp_seq ?_
                refine wp_region_lit ?_
                refine fr_ch F 18 [(162, .bool true)] (by kernel_rfl) ?_
                clear F a9
                intro a9 F
                refine wpList_nil ?_
                show Code.wp _ _ _ _ _
                refine wp_cond_true (F.ev 162 rfl) ?_
                refine wp_region_lit ?_
                refine fr_ch F 1 [(13, .int .i64 2)] (by kernel_rfl) ?_
                clear F a9
                intro a9 F
                refine wpList_nil ?_
                exact ⟨F.cut _ (by kernel_rfl), rfl⟩
              · refine wp_seq ?_
                refine wp_region_lit ?_
                refine fr_ch F 18 [(162, .bool true)] (by kernel_rfl) ?_
                clear F a9
                intro a9 F
                refine wpList_nil ?_
                show Code.wp _ _ _ _ _
                refine wp_cond_true (F.ev 162 rfl) ?_
                refine wp_region_lit ?_
                refine fr_ch F 1 [(13, .int .i64 2)] (by kernel_rfl) ?_
                clear F a9
                intro a9 F
                refine wpList_nil ?_
                exact ⟨F.cut _ (by kernel_rfl), rfl⟩
              · refine wp_seq ?_
                refine wp_region_lit ?_
                refine fr_ch F 18 [(162, .bool true)] (by kernel_rfl) ?_
                clear F a9
                intro a9 F
                refine wpList_nil ?_
                show Code.wp _ _ _ _ _
                refine wp_cond_true (F.ev 162 rfl) ?_
                refine wp_region_lit ?_
                refine fr_ch F 1 [(13, .int .i64 2)] (by kernel_rfl) ?_
                clear F a9
                intro a9 F
                refine wpList_nil ?_
                exact ⟨F.cut _ (by kernel_rfl), rfl⟩
              · refine wp_seq ?_
                refine wp_region_lit ?_
                refine fr_ch F 18 [(162, .bool false)] (by kernel_rfl) ?_
                clear F a9
                intro a9 F
                refine wpList_nil ?_
                show Code.wp _ _ _ _ _
                refine wp_cond_false (F.ev 162 rfl) ?_
                refine wp_skip ?_
                exact ⟨F.cut _ (by kernel_rfl), rfl⟩
              · refine wp_seq ?_
                refine wp_region_lit ?_
                refine fr_ch F 18 [(162, .bool false)] (by kernel_rfl) ?_
                clear F a9
                intro a9 F
                refine wpList_nil ?_
                show Code.wp _ _ _ _ _
                refine wp_cond_false (F.ev 162 rfl) ?_
                refine wp_skip ?_
                exact ⟨F.cut _ (by kernel_rfl), rfl⟩
              · refine wp_seq ?_
                refine wp_region_lit ?_
                refine fr_ch F 18 [(162, .bool false)] (by kernel_rfl) ?_
                clear F a9
                intro a9 F
                refine wpList_nil ?_
                show Code.wp _ _ _ _ _
                refine wp_cond_false (F.ev 162 rfl) ?_
                refine wp_skip ?_
                exact ⟨F.cut _ (by kernel_rfl), rfl⟩
              · refine wp_seq ?_
                refine wp_region_lit ?_
                refine fr_ch F 18 [(162, .bool true)] (by kernel_rfl) ?_
                clear F a9
                intro a9 F
                refine wpList_nil ?_
                show Code.wp _ _ _ _ _
                refine wp_cond_true (F.ev 162 rfl) ?_
                refine wp_region_lit ?_
                refine fr_ch F 1 [(13, .int .i64 2)] (by kernel_rfl) ?_
                clear F a9
                intro a9 F
                refine wpList_nil ?_
                exact ⟨F.cut _ (by kernel_rfl), rfl⟩
              · refine wp_seq ?_
                refine wp_region_lit ?_
                refine fr_ch F 18 [(162, .bool false)] (by kernel_rfl) ?_
                clear F a9
                intro a9 F
                refine wpList_nil ?_
                show Code.wp _ _ _ _ _
                refine wp_cond_false (F.ev 162 rfl) ?_
                refine wp_skip ?_
                exact ⟨F.cut _ (by kernel_rfl), rfl⟩
              · refine wp_seq ?_
                refine wp_region_lit ?_
                refine fr_ch F 18 [(162, .bool false)] (by kernel_rfl) ?_
                clear F a9
                intro a9 F
                refine wpList_nil ?_
                show Code.wp _ _ _ _ _
                refine wp_cond_false (F.ev 162 rfl) ?_
                refine wp_skip ?_
                exact ⟨F.cut _ (by kernel_rfl), rfl⟩
              · refine wp_seq ?_
                refine wp_region_lit ?_
                refine fr_ch F 18 [(162, .bool false)] (by kernel_rfl) ?_
                clear F a9
                intro a9 F
                refine wpList_nil ?_
                show Code.wp _ _ _ _ _
                refine wp_cond_false (F.ev 162 rfl) ?_
                refine wp_skip ?_
                exact ⟨F.cut _ (by kernel_rfl), rfl⟩
              · refine wp_seq ?_
                refine wp_region_lit ?_
                refine fr_ch F 18 [(162, .bool false)] (by kernel_rfl) ?_
                clear F a9
                intro a9 F
                refine wpList_nil ?_
                show Code.wp _ _ _ _ _
                refine wp_cond_false (F.ev 162 rfl) ?_
                refine wp_skip ?_
                exact ⟨F.cut _ (by kernel_rfl), rfl⟩
              · refine wp_seq ?_
                refine wp_region_lit ?_
                refine fr_ch F 18 [(162, .bool false)] (by kernel_rfl) ?_
                clear F a9
                intro a9 F
                refine wpList_nil ?_
                show Code.wp _ _ _ _ _
                refine wp_cond_false (F.ev 162 rfl) ?_
                refine wp_skip ?_
                exact ⟨F.cut _ (by kernel_rfl), rfl⟩
              · refine wp_seq ?_
                refine wp_region_lit ?_
                refine fr_ch F 18 [(162, .bool false)] (by kernel_rfl) ?_
                clear F a9
                intro a9 F
                refine wpList_nil ?_
                show Code.wp _ _ _ _ _
                refine wp_cond_false (F.ev 162 rfl) ?_
                refine wp_skip ?_
                exact ⟨F.cut _ (by kernel_rfl), rfl⟩
              · refine wp_seq ?_
                refine wp_region_lit ?_
                refine fr_ch F 18 [(162, .bool false)] (by kernel_rfl) ?_
                clear F a9
                intro a9 F
                refine wpList_nil ?_
                show Code.wp _ _ _ _ _
                refine wp_cond_false (F.ev 162 rfl) ?_
                refine wp_skip ?_
                exact ⟨F.cut _ (by kernel_rfl), rfl⟩
              · refine wp_seq ?_
                refine wp_region_lit ?_
                refine fr_ch F 18 [(162, .bool false)] (by kernel_rfl) ?_
                clear F a9
                intro a9 F
                refine wpList_nil ?_
                show Code.wp _ _ _ _ _
                refine wp_cond_false (F.ev 162 rfl) ?_
                refine wp_skip ?_
                exact ⟨F.cut _ (by kernel_rfl), rfl⟩
            clear F a9
            rintro a9 w8 ⟨F, rfl⟩
            rename World => w9
            show Code.wp _ _ _ _ _
            refine wp_seq ?_
            refine wp_region_lit ?_
            refine fr_ch F 1 [(14, .int .i64 (-1))] (by kernel_rfl) ?_
            clear F a9
            intro a9 F
            refine wpList_nil ?_
            show Code.wp _ _ _ _ _
            replace F := F.cut [(14, .int .i64 (-1)), (13, .int .i64 (wantK k)), (12, .int .u8 (k : Int))] (by kernel_rfl)
            refine wp_seq_meet (fun a' w' => FrL 212 [(14, .int .i64 (noneA k)), (13, .int .i64 (wantK k)), (12, .int .u8 (k : Int))] a' ∧ w' = w9) ?_ ?_
            · clear HR1 HR2
              have hk20 : k = 0 ∨ k = 1 ∨ k = 2 ∨ k = 3 ∨ k = 4 ∨ k = 5 ∨ k = 6 ∨ k = 7 ∨ k = 8 ∨ k = 9 ∨ k = 10 ∨ k = 11 ∨ k = 12 ∨ k = 13 ∨ k = 14 ∨ k = 15 ∨ k = 16 ∨ k = 17 ∨ k = 18 ∨ k = 19 := by omega
              rcases hk20 with rfl | rfl | rfl | rfl | rfl | rfl | rfl | rfl | rfl | rfl | rfl | rfl | rfl | rfl | rfl | rfl | rfl | rfl | rfl | rfl
              · refine wp_seq ?_
                refine wp_region_lit ?_
                refine fr_ch F 6 [(168, .bool false)] (by kernel_rfl) ?_
                clear F a9
                intro a9 F
                refine wpList_nil ?_
                show Code.wp _ _ _ _ _
                refine wp_cond_false (F.ev 168 rfl) ?_
                refine wp_skip ?_
                exact ⟨F.cut _ (by kernel_rfl), rfl⟩
              · refine wp_seq ?_
                refine wp_region_lit ?_
                refine fr_ch F 6 [(168, .bool false)] (by kernel_rfl) ?_
                clear F a9
                intro a9 F
                refine wpList_nil ?_
                show Code.wp _ _ _ _ _
                refine wp_cond_false (F.ev 168 rfl) ?_
                refine wp_skip ?_
                exact ⟨F.cut _ (by kernel_rfl), rfl⟩
              · refine wp_seq ?_
                refine wp_region_lit ?_
                refine fr_ch F 6 [(168, .bool false)] (by kernel_rfl) ?_
                clear F a9
                intro a9 F
                refine wpList_nil ?_
                show Code.wp _ _ _ _ _
                refine wp_cond_false (F.ev 168 rfl) ?_
                refine wp_skip ?_
                exact ⟨F.cut _ (by kernel_rfl), rfl⟩
              · refine wp_seq ?_
                refine wp_region_lit ?_
                refine fr_ch F 6 [(168, .bool false)] (by kernel_rfl) ?_
                clear F a9
                intro a9 F
                refine wpList_nil ?_
                show Code.wp _ _ _ _ _
                refine wp_cond_false (F.ev 168 rfl) ?_
                refine wp_skip ?_
                exact ⟨F.cut _ (by kernel_rfl), rfl⟩
              · refine wp_seq ?_
                refine wp_region_lit ?_
                refine fr_ch F 6 [(168, .bool false)] (by kernel_rfl) ?_
                clear F a9
                intro a9 F
                refine wpList_nil ?_
                show Code.wp _ _ _ _ _
                refine wp_cond_false (F.ev 168 rfl) ?_
                refine wp_skip ?_
                exact ⟨F.cut _ (by kernel_rfl), rfl⟩
              · refine wp_seq ?_
                refine wp_region_lit ?_
                refine fr_ch F 6 [(168, .bool false)] (by kernel_rfl) ?_
                clear F a9
                intro a9 F
                refine wpList_nil ?_
                show Code.wp _ _ _ _ _
                refine wp_cond_false (F.ev 168 rfl) ?_
                refine wp_skip ?_
                exact ⟨F.cut _ (by kernel_rfl), rfl⟩
              · refine wp_seq ?_
                refine wp_region_lit ?_
                refine fr_ch F 6 [(168, .bool false)] (by kernel_rfl) ?_
                clear F a9
                intro a9 F
                refine wpList_nil ?_
                show Code.wp _ _ _ _ _
                refine wp_cond_false (F.ev 168 rfl) ?_
                refine wp_skip ?_
                exact ⟨F.cut _ (by kernel_rfl), rfl⟩
              · refine wp_seq ?_
                refine wp_region_lit ?_
                refine fr_ch F 6 [(168, .bool false)] (by kernel_rfl) ?_
                clear F a9
                intro a9 F
                refine wpList_nil ?_
                show Code.wp _ _ _ _ _
                refine wp_cond_false (F.ev 168 rfl) ?_
                refine wp_skip ?_
                exact ⟨F.cut _ (by kernel_rfl), rfl⟩
              · refine wp_seq ?_
                refine wp_region_lit ?_
                refine fr_ch F 6 [(168, .bool false)] (by kernel_rfl) ?_
                clear F a9
                intro a9 F
                refine wpList_nil ?_
                show Code.wp _ _ _ _ _
                refine wp_cond_false (F.ev 168 rfl) ?_
                refine wp_skip ?_
                exact ⟨F.cut _ (by kernel_rfl), rfl⟩
              · refine wp_seq ?_
                refine wp_region_lit ?_
                refine fr_ch F 6 [(168, .bool false)] (by kernel_rfl) ?_
                clear F a9
                intro a9 F
                refine wpList_nil ?_
                show Code.wp _ _ _ _ _
                refine wp_cond_false (F.ev 168 rfl) ?_
                refine wp_skip ?_
                exact ⟨F.cut _ (by kernel_rfl), rfl⟩
              · refine wp_seq ?_
                refine wp_region_lit ?_
                refine fr_ch F 6 [(168, .bool false)] (by kernel_rfl) ?_
                clear F a9
                intro a9 F
                refine wpList_nil ?_
                show Code.wp _ _ _ _ _
                refine wp_cond_false (F.ev 168 rfl) ?_
                refine wp_skip ?_
                exact ⟨F.cut _ (by kernel_rfl), rfl⟩
              · refine wp_seq ?_
                refine wp_region_lit ?_
                refine fr_ch F 6 [(168, .bool false)] (by kernel_rfl) ?_
                clear F a9
                intro a9 F
                refine wpList_nil ?_
                show Code.wp _ _ _ _ _
                refine wp_cond_false (F.ev 168 rfl) ?_
                refine wp_skip ?_
                exact ⟨F.cut _ (by kernel_rfl), rfl⟩
              · refine wp_seq ?_
                refine wp_region_lit ?_
                refine fr_ch F 6 [(168, .bool true)] (by kernel_rfl) ?_
                clear F a9
                intro a9 F
                refine wpList_nil ?_
                show Code.wp _ _ _ _ _
                refine wp_cond_true (F.ev 168 rfl) ?_
                refine wp_region_lit ?_
                refine fr_ch F 1 [(14, .int .i64 0)] (by kernel_rfl) ?_
                clear F a9
                intro a9 F
                refine wpList_nil ?_
                exact ⟨F.cut _ (by kernel_rfl), rfl⟩
              · refine wp_seq ?_
                refine wp_region_lit ?_
                refine fr_ch F 6 [(168, .bool true)] (by kernel_rfl) ?_
                clear F a9
                intro a9 F
                refine wpList_nil ?_
                show Code.wp _ _ _ _ _
                refine wp_cond_true (F.ev 168 rfl) ?_
                refine wp_region_lit ?_
                refine fr_ch F 1 [(14, .int .i64 0)] (by kernel_rfl) ?_
                clear F a9
                intro a9 F
                refine wpList_nil ?_
                exact ⟨F.cut _ (by kernel_rfl), rfl⟩
              · refine wp_seq ?_
                refine wp_region_lit ?_
                refine fr_ch F 6 [(168, .bool true)] (by kernel_rfl) ?_
                clear F a9
                intro a9 F
                refine wpList_nil ?_
                show Code.wp _ _ _ _ _
                refine wp_cond_true (F.ev 168 rfl) ?_
                refine wp_region_lit ?_
                refine fr_ch F 1 [(14, .int .i64 0)] (by kernel_rfl) ?_
                clear F a9
                intro a9 F
                refine wpList_nil ?_
                exact ⟨F.cut _ (by kernel_rfl), rfl⟩
              · refine wp_seq ?_
                refine wp_region_lit ?_
                refine fr_ch F 6 [(168, .bool false)] (by kernel_rfl) ?_
                clear F a9
                intro a9 F
                refine wpList_nil ?_
                show Code.wp _ _ _ _ _
                refine wp_cond_false (F.ev 168 rfl) ?_
                refine wp_skip ?_
                exact ⟨F.cut _ (by kernel_rfl), rfl⟩
              · refine wp_seq ?_
                refine wp_region_lit ?_
                refine fr_ch F 6 [(168, .bool false)] (by kernel_rfl) ?_
                clear F a9
                intro a9 F
                refine wpList_nil ?_
                show Code.wp _ _ _ _ _
                refine wp_cond_false (F.ev 168 rfl) ?_
                refine wp_skip ?_
                exact ⟨F.cut _ (by kernel_rfl), rfl⟩
              · refine wp_seq ?_
                refine wp_region_lit ?_
                refine fr_ch F 6 [(168, .bool false)] (by kernel_rfl) ?_
                clear F a9
                intro a9 F
                refine wpList_nil ?_
                show Code.wp _ _ _ _ _
                refine wp_cond_false (F.ev 168 rfl) ?_
                refine wp_skip ?_
                exact ⟨F.cut _ (by kernel_rfl), rfl⟩
              · refine wp_seq ?_
                refine wp_region_lit ?_
                refine fr_ch F 6 [(168, .bool false)] (by kernel_rfl) ?_
                clear F a9
                intro a9 F
                refine wpList_nil ?_
                show Code.wp _ _ _ _ _
                refine wp_cond_false (F.ev 168 rfl) ?_
                refine wp_skip ?_
                exact ⟨F.cut _ (by kernel_rfl), rfl⟩
              · refine wp_seq ?_
                refine wp_region_lit ?_
                refine fr_ch F 6 [(168, .bool false)] (by kernel_rfl) ?_
                clear F a9
                intro a9 F
                refine wpList_nil ?_
                show Code.wp _ _ _ _ _
                refine wp_cond_false (F.ev 168 rfl) ?_
                refine wp_skip ?_
                exact ⟨F.cut _ (by kernel_rfl), rfl⟩
            clear F a9
            rintro a9 w8 ⟨F, rfl⟩
            rename World => w9
            show Code.wp _ _ _ _ _
            refine wp_seq_meet (fun a' w' => FrL 212 [(14, .int .i64 (noneK k)), (13, .int .i64 (wantK k)), (12, .int .u8 (k : Int))] a' ∧ w' = w9) ?_ ?_
            · clear HR1 HR2
              have hk20 : k = 0 ∨ k = 1 ∨ k = 2 ∨ k = 3 ∨ k = 4 ∨ k = 5 ∨ k = 6 ∨ k = 7 ∨ k = 8 ∨ k = 9 ∨ k = 10 ∨ k = 11 ∨ k = 12 ∨ k = 13 ∨ k = 14 ∨ k = 15 ∨ k = 16 ∨ k = 17 ∨ k = 18 ∨ k = 19 := by omega
              rcases hk20 with rfl | rfl | rfl | rfl | rfl | rfl | rfl | rfl | rfl | rfl | rfl | rfl | rfl | rfl | rfl | rfl | rfl | rfl | rfl | rfl
              · refine wp_seq ?_
                refine wp_region_lit ?_
                refine fr_ch F 2 [(170, .bool false)] (by kernel_rfl) ?_
                clear F a9
                intro a9 F
                refine wpList_nil ?_
                show Code.wp _ _ _ _ _
                refine wp_cond_false (F.ev 170 rfl) ?_
                refine wp_skip ?_
                exact ⟨F.cut _ (by kernel_rfl), rfl⟩
              · refine wp_seq ?_
                refine wp_region_lit ?_
                refine fr_ch F 2 [(170, .bool false)] (by kernel_rfl) ?_
                clear F a9
                intro a9 F
                refine wpList_nil ?_
                show Code.wp _ _ _ _ _
                refine wp_cond_false (F.ev 170 rfl) ?_
                refine wp_skip ?_
                exact ⟨F.cut _ (by kernel_rfl), rfl⟩
              · refine wp_seq ?_
                refine wp_region_lit ?_
                refine fr_ch F 2 [(170, .bool true)] (by kernel_rfl) ?_
                clear F a9
                intro a9 F
                refine wpList_nil ?_
                show Code.wp _ _ _ _ _
                refine wp_cond_true (F.ev 170 rfl) ?_
                refine wp_region_lit ?_
                refine fr_ch F 1 [(14, .int .i64 2)] (by kernel_rfl) ?_
                clear F a9
                intro a9 F
                refine wpList_nil ?_
                exact ⟨F.cut _ (by kernel_rfl), rfl⟩
              · refine wp_seq ?_
                refine wp_region_lit ?_
                refine fr_ch F 2 [(170, .bool false)] (by kernel_rfl) ?_
                clear F a9
                intro a9 F
                refine wpList_nil ?_
                show Code.wp _ _ _ _ _
                refine wp_cond_false (F.ev 170 rfl) ?_
                refine wp_skip ?_
                exact ⟨F.cut _ (by kernel_rfl), rfl⟩
              · refine wp_seq ?_
                refine wp_region_lit ?_
                refine fr_ch F 2 [(170, .bool false)] (by kernel_rfl) ?_
                clear F a9
                intro a9 F
                refine wpList_nil ?_
                show Code.wp _ _ _ _ _
                refine wp_cond_false (F.ev 170 rfl) ?_
                refine wp_skip ?_
                exact ⟨F.cut _ (by kernel_rfl), rfl⟩
              · refine wp_seq ?_
                refine wp_region_lit ?_
                refine fr_ch F 2 [(170, .bool false)] (by kernel_rfl) ?_
                clear F a9
                intro a9 F
                refine wpList_nil ?_
                show Code.wp _ _ _ _ _
                refine wp_cond_false (F.ev 170 rfl) ?_
                refine wp_skip ?_
                exact ⟨F.cut _ (by kernel_rfl), rfl⟩
              · refine wp_seq ?_
                refine wp_region_lit ?_
                refine fr_ch F 2 [(170, .bool false)] (by kernel_rfl) ?_
                clear F a9
                intro a9 F
                refine wpList_nil ?_
                show Code.wp _ _ _ _ _
                refine wp_cond_false (F.ev 170 rfl) ?_
                refine wp_skip ?_
                exact ⟨F.cut _ (by kernel_rfl), rfl⟩
              · refine wp_seq ?_
                refine wp_region_lit ?_
                refine fr_ch F 2 [(170, .bool false)] (by kernel_rfl) ?_
                clear F a9
                intro a9 F
                refine wpList_nil ?_
                show Code.wp _ _ _ _ _
                refine wp_cond_false (F.ev 170 rfl) ?_
                refine wp_skip ?_
                exact ⟨F.cut _ (by kernel_rfl), rfl⟩
              · refine wp_seq ?_
                refine wp_region_lit ?_
                refine fr_ch F 2 [(170, .bool false)] (by kernel_rfl) ?_
                clear F a9
                intro a9 F
                refine wpList_nil ?_
                show Code.wp _ _ _ _ _
                refine wp_cond_false (F.ev 170 rfl) ?_
                refine wp_skip ?_
                exact ⟨F.cut _ (by kernel_rfl), rfl⟩
              · refine wp_seq ?_
                refine wp_region_lit ?_
                refine fr_ch F 2 [(170, .bool false)] (by kernel_rfl) ?_
                clear F a9
                intro a9 F
                refine wpList_nil ?_
                show Code.wp _ _ _ _ _
                refine wp_cond_false (F.ev 170 rfl) ?_
                refine wp_skip ?_
                exact ⟨F.cut _ (by kernel_rfl), rfl⟩
              · refine wp_seq ?_
                refine wp_region_lit ?_
                refine fr_ch F 2 [(170, .bool false)] (by kernel_rfl) ?_
                clear F a9
                intro a9 F
                refine wpList_nil ?_
                show Code.wp _ _ _ _ _
                refine wp_cond_false (F.ev 170 rfl) ?_
                refine wp_skip ?_
                exact ⟨F.cut _ (by kernel_rfl), rfl⟩
              · refine wp_seq ?_
                refine wp_region_lit ?_
                refine fr_ch F 2 [(170, .bool false)] (by kernel_rfl) ?_
                clear F a9
                intro a9 F
                refine wpList_nil ?_
                show Code.wp _ _ _ _ _
                refine wp_cond_false (F.ev 170 rfl) ?_
                refine wp_skip ?_
                exact ⟨F.cut _ (by kernel_rfl), rfl⟩
              · refine wp_seq ?_
                refine wp_region_lit ?_
                refine fr_ch F 2 [(170, .bool false)] (by kernel_rfl) ?_
                clear F a9
                intro a9 F
                refine wpList_nil ?_
                show Code.wp _ _ _ _ _
                refine wp_cond_false (F.ev 170 rfl) ?_
                refine wp_skip ?_
                exact ⟨F.cut _ (by kernel_rfl), rfl⟩
              · refine wp_seq ?_
                refine wp_region_lit ?_
                refine fr_ch F 2 [(170, .bool false)] (by kernel_rfl) ?_
                clear F a9
                intro a9 F
                refine wpList_nil ?_
                show Code.wp _ _ _ _ _
                refine wp_cond_false (F.ev 170 rfl) ?_
                refine wp_skip ?_
                exact ⟨F.cut _ (by kernel_rfl), rfl⟩
              · refine wp_seq ?_
                refine wp_region_lit ?_
                refine fr_ch F 2 [(170, .bool false)] (by kernel_rfl) ?_
                clear F a9
                intro a9 F
                refine wpList_nil ?_
                show Code.wp _ _ _ _ _
                refine wp_cond_false (F.ev 170 rfl) ?_
                refine wp_skip ?_
                exact ⟨F.cut _ (by kernel_rfl), rfl⟩
              · refine wp_seq ?_
                refine wp_region_lit ?_
                refine fr_ch F 2 [(170, .bool false)] (by kernel_rfl) ?_
                clear F a9
                intro a9 F
                refine wpList_nil ?_
                show Code.wp _ _ _ _ _
                refine wp_cond_false (F.ev 170 rfl) ?_
                refine wp_skip ?_
                exact ⟨F.cut _ (by kernel_rfl), rfl⟩
              · refine wp_seq ?_
                refine wp_region_lit ?_
                refine fr_ch F 2 [(170, .bool false)] (by kernel_rfl) ?_
                clear F a9
                intro a9 F
                refine wpList_nil ?_
                show Code.wp _ _ _ _ _
                refine wp_cond_false (F.ev 170 rfl) ?_
                refine wp_skip ?_
                exact ⟨F.cut _ (by kernel_rfl), rfl⟩
              · refine wp_seq ?_
                refine wp_region_lit ?_
                refine fr_ch F 2 [(170, .bool false)] (by kernel_rfl) ?_
                clear F a9
                intro a9 F
                refine wpList_nil ?_
                show Code.wp _ _ _ _ _
                refine wp_cond_false (F.ev 170 rfl) ?_
                refine wp_skip ?_
                exact ⟨F.cut _ (by kernel_rfl), rfl⟩
              · refine wp_seq ?_
                refine wp_region_lit ?_
                refine fr_ch F 2 [(170, .bool false)] (by kernel_rfl) ?_
                clear F a9
                intro a9 F
                refine wpList_nil ?_
                show Code.wp _ _ _ _ _
                refine wp_cond_false (F.ev 170 rfl) ?_
                refine wp_skip ?_
                exact ⟨F.cut _ (by kernel_rfl), rfl⟩
              · refine wp_seq ?_
                refine wp_region_lit ?_
                refine fr_ch F 2 [(170, .bool false)] (by kernel_rfl) ?_
                clear F a9
                intro a9 F
                refine wpList_nil ?_
                show Code.wp _ _ _ _ _
                refine wp_cond_false (F.ev 170 rfl) ?_
                refine wp_skip ?_
                exact ⟨F.cut _ (by kernel_rfl), rfl⟩
            clear F a9
            rintro a9 w8 ⟨F, rfl⟩
            rename World => w9
            show Code.wp _ _ _ _ _
            refine wp_seq ?_
            refine wp_region_lit ?_
            refine fr_mv F (wanted_free rfl) 171 rfl (by decide) 12 rfl rfl ?_
            clear F a9
            intro a9 F
            refine fr_ch F 1 [(172, .agg (pkV ({ Pk.zero with ty := k, id := 65535 }) none 0))] (by kernel_rfl) ?_
            clear F a9
            intro a9 F
            refine fr_mv F (wanted_free rfl) 173 rfl (by decide) 13 rfl rfl ?_
            clear F a9
            intro a9 F
            refine fr_call F (wanted_free rfl) 174 rfl (by decide) 10 #[.agg (pkV { Pk.zero with ty := k, id := 65535 } none 0), .int .i64 (wantK k)] (by intro a' F'; have h172 := F'.at' 172 _ rfl; have h173 := F'.at' 173 _ rfl; go_simp) (HR1.out _ HK.env) ?_
            rintro e9 w8 ⟨rfl, hb8⟩
            replace HK := HK.below hb8
            clear hb8
            clear w9
            rename World => w9
            refine ⟨_, rfl, ?_⟩
            clear F a9
            intro a9 F
            refine fr_ch F 2 [(176, .bool false), (175, .bool false)] (by kernel_rfl) ?_
            clear F a9
            intro a9 F
            refine fr_mv F (by rw [wanted_at F rfl (t := 176) (b := false) (by kernel_rfl) rfl]; rfl) 177 rfl (by decide) 12 rfl rfl ?_
            clear F a9
            intro a9 F
            refine fr_ch F 1 [(178, .agg (pkV ({ Pk.zero with ty := k }) none 0))] (by kernel_rfl) ?_
            clear F a9
            intro a9 F
            refine fr_mv F (by rw [wanted_at F rfl (t := 176) (b := false) (by kernel_rfl) rfl]; rfl) 179 rfl (by decide) 14 rfl rfl ?_
            clear F a9
            intro a9 F
            refine fr_call F (by rw [wanted_at F rfl (t := 176) (b := false) (by kernel_rfl) rfl]; rfl) 180 rfl (by decide) 10 #[.agg (pkV { Pk.zero with ty := k } none 0), .int .i64 (noneK k)] (by intro a' F'; have h178 := F'.at' 178 _ rfl; have h179 := F'.at' 179 _ rfl; go_simp) (HR2.out _ HK.env) ?_
            rintro e9 w8 ⟨rfl, hb8⟩
            replace HK := HK.below hb8
            clear hb8
            clear w9
            rename World => w9
            refine ⟨_, rfl, ?_⟩
            clear F a9
            intro a9 F
            refine fr_ch F 2 [(182, .bool false), (181, .bool false)] (by kernel_rfl) ?_
            clear F a9
            intro a9 F
            refine wpList_nil ?_
            show Code.wp _ _ _ _ _
            refine wp_cond_false (F.ev 182 rfl) ?_
            refine wp_skip ?_
            exact ⟨((FrL.nil F.size F.defers).add 12 _ (F.at' 12 _ rfl)), HK⟩
          · clear F HK HR1 HR2 a9 w9
            rintro a9 w9 ⟨F, HK⟩
            show Code.wp _ _ _ _ _
            refine wp_region_lit ?_
            refine fr_mv F (wanted_free rfl) 143 rfl (by decide) 12 rfl rfl ?_
            clear F a9
            intro a9 F
            refine fr_do F (wanted_free rfl) 144 rfl (by decide) (.int .u8 ((k + 1 : Nat) : Int)) (by intro a' F'; have h143 := F'.at' 143 _ rfl; go_simp <;> (rw [IntKind.wrap_u8]; omega)) ?_
            clear F a9
            intro a9 F
            refine fr_ch F 1 [(12, .int .u8 ((k + 1 : Nat) : Int))] (by kernel_rfl) ?_
            clear F a9
            intro a9 F
            refine wpList_nil ?_
            replace F := F.cut [(12, .int .u8 ((k + 1 : Nat) : Int))] (by kernel_rfl)
            refine ⟨⟨k + 1, by omega, F, HK⟩, ?_⟩
            rw [muK_at F 12 (k + 1) rfl]
            omega
        · skip
          refine wp_region_lit ?_
          refine fr_mv F (wanted_free rfl) 141 rfl (by decide) 12 rfl rfl ?_
          clear F a9
          intro a9 F
          refine fr_do F (wanted_free rfl) 142 rfl (by decide) (.bool false) (by intro a' F'; have h141 := F'.at' 141 _ rfl; go_simp <;> omega) ?_
          clear F a9
          intro a9 F
          refine wpList_nil ?_
          show Code.wp _ _ _ _ _
          refine wp_cond_false (F.ev 142 rfl) ?_
          refine wp_exit ?_
          exact then_exit (then_exit (exit_in ⟨(FrL.nil F.size F.defers), HK⟩))
      · clear F HK a9 w9
        rintro a9 w9 ⟨F, HK⟩
        show Code.wp _ _ _ _ _
        refine wp_seq ?_
        refine wp_region_lit ?_
        refine fr_ch F 1 [(183, .agg (pkV (f0) none 0))] (by kernel_rfl) ?_
        clear F a9
        intro a9 F
        refine fr_call F (wanted_free rfl) 184 rfl (by decide) 10 #[.agg (pkV f0 none 0), .int .i64 4] (by intro a' F'; have h183 := F'.at' 183 _ rfl; go_simp) (rest_yes f0 (4) (by kernel_rfl) f0_ok rfl _ HK.env) ?_
        rintro e9 w8 ⟨rfl, hb8⟩
        replace HK := HK.below hb8
        clear hb8
        clear w9
        rename World => w9
        refine ⟨_, rfl, ?_⟩
        clear F a9
        intro a9 F
        refine fr_mv F (wanted_free rfl) 185 rfl (by decide) 184 rfl rfl ?_
        clear F a9
        intro a9 F
        refine fr_ch F 1 [(186, .agg (pkV (f1) none 0))] (by kernel_rfl) ?_
        clear F a9
        intro a9 F
        refine fr_call F (by rw [wanted_at F rfl (t := 185) (b := true) (by kernel_rfl) rfl]; rfl) 187 rfl (by decide) 10 #[.agg (pkV f1 none 0), .int .i64 (-1)] (by intro a' F'; have h186 := F'.at' 186 _ rfl; go_simp) (rest_yes f1 (-1) (by kernel_rfl) f1_ok rfl _ HK.env) ?_
        rintro e9 w8 ⟨rfl, hb8⟩
        replace HK := HK.below hb8
        clear hb8
        clear w9
        rename World => w9
        refine ⟨_, rfl, ?_⟩
        clear F a9
        intro a9 F
        refine fr_ch F 3 [(190, .agg (pkV (f2) none 0)), (189, .bool true), (188, .bool true)] (by kernel_rfl) ?_
        clear F a9
        intro a9 F
        refine fr_call F (by rw [wanted_at F rfl (t := 189) (b := true) (by kernel_rfl) rfl]; rfl) 191 rfl (by decide) 10 #[.agg (pkV f2 none 0), .int .i64 2] (by intro a' F'; have h190 := F'.at' 190 _ rfl; go_simp) (rest_yes f2 (2) (by kernel_rfl) f2_ok rfl _ HK.env) ?_
        rintro e9 w8 ⟨rfl, hb8⟩
        replace HK := HK.below hb8
        clear hb8
        clear w9
        rename World => w9
        refine ⟨_, rfl, ?_⟩
        clear F a9
        intro a9 F
        refine fr_ch F 3 [(194, .agg (pkV (f3) none 0)), (193, .bool true), (192, .bool true)] (by kernel_rfl) ?_
        clear F a9
        intro a9 F
        refine fr_call F (by rw [wanted_at F rfl (t := 193) (b := true) (by kernel_rfl) rfl]; rfl) 195 rfl (by decide) 10 #[.agg (pkV f3 none 0), .int .i64 (-1)] (by intro a' F'; have h194 := F'.at' 194 _ rfl; go_simp) (rest_yes f3 (-1) (by kernel_rfl) f3_ok rfl _ HK.env) ?_
        rintro e9 w8 ⟨rfl, hb8⟩
        replace HK := HK.below hb8
        clear hb8
        clear w9
        rename World => w9
        refine ⟨_, rfl, ?_⟩
        clear F a9
        intro a9 F
        refine fr_ch F 3 [(198, .agg (pkV (f4) none 0)), (197, .bool true), (196, .bool true)] (by kernel_rfl) ?_
        clear F a9
        intro a9 F
        refine fr_call F (by rw [wanted_at F rfl (t := 197) (b := true) (by kernel_rfl) rfl]; rfl) 199 rfl (by decide) 10 #[.agg (pkV f4 none 0), .int .i64 (-1)] (by intro a' F'; have h198 := F'.at' 198 _ rfl; go_simp) (rest_yes f4 (-1) (by kernel_rfl) f4_ok rfl _ HK.env) ?_
        rintro e9 w8 ⟨rfl, hb8⟩
        replace HK := HK.below hb8
        clear hb8
        clear w9
        rename World => w9
        refine ⟨_, rfl, ?_⟩
        clear F a9
        intro a9 F
        refine fr_ch F 3 [(202, .agg (pkV (f5) none 0)), (201, .bool true), (200, .bool true)] (by kernel_rfl) ?_
        clear F a9
        intro a9 F
        refine fr_call F (by rw [wanted_at F rfl (t := 201) (b := true) (by kernel_rfl) rfl]; rfl) 203 rfl (by decide) 10 #[.agg (pkV f5 none 0), .int .i64 (-1)] (by intro a' F'; have h202 := F'.at' 202 _ rfl; go_simp) (rest_yes f5 (-1) (by kernel_rfl) f5_ok rfl _ HK.env) ?_
        rintro e9 w8 ⟨rfl, hb8⟩
        replace HK := HK.below hb8
        clear hb8
        clear w9
        rename World => w9
        refine ⟨_, rfl, ?_⟩
        clear F a9
        intro a9 F
        refine fr_ch F 3 [(206, .agg (pkV (f6) none 0)), (205, .bool true), (204, .bool true)] (by kernel_rfl) ?_
        clear F a9
        intro a9 F
        refine fr_call F (by rw [wanted_at F rfl (t := 205) (b := true) (by kernel_rfl) rfl]; rfl) 207 rfl (by decide) 10 #[.agg (pkV f6 none 0), .int .i64 (-1)] (by intro a' F'; have h206 := F'.at' 206 _ rfl; go_simp) (rest_yes f6 (-1) (by kernel_rfl) f6_ok rfl _ HK.env) ?_
        rintro e9 w8 ⟨rfl, hb8⟩
        replace HK := HK.below hb8
        clear hb8
        clear w9
        rename World => w9
        refine ⟨_, rfl, ?_⟩
        clear F a9
        intro a9 F
        refine fr_ch F 2 [(209, .bool true), (208, .bool true)] (by kernel_rfl) ?_
        clear F a9
        intro a9 F
        refine fr_call F (by rw [wanted_at F rfl (t := 209) (b := true) (by kernel_rfl) rfl]; rfl) 210 rfl (by decide) 11 #[] (by intro a' F'; go_simp) (law03_awake _ HK.env) ?_
        rintro e9 w8 ⟨rfl, hb8⟩
        replace HK := HK.below hb8
        clear hb8
        clear w9
        rename World => w9
        refine ⟨_, rfl, ?_⟩
        clear F a9
        intro a9 F
        refine fr_ch F 2 [(0, .bool true), (211, .bool true)] (by kernel_rfl) ?_
        clear F a9
        intro a9 F
        refine wpList_nil ?_
        show Code.wp _ _ _ _ _
        refine wp_ret ?_
        exact fr_ret1 F rfl _ rfl (FIN.out _ HK.low)
end Go.Proofs.YtfljdlaelanliaaDoor
