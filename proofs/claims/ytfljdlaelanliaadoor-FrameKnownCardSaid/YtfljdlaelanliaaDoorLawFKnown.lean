/- The walk of FrameKnown. Conditions: the decoder's tables lie as Go lays them. -/
import Derived.Test.YtfljdlaelanliaaDoorFrameF
import Derived.Test.YtfljdlaelanliaaDoorFrameN
import Derived.Test.YtfljdlaelanliaaDoorLess
namespace Go.Proofs.YtfljdlaelanliaaDoor
open Go.RowKit
theorem own_new {w : World} {e : TypeId} {size n base : Nat} {cs : List Value} (hb : base ≤ w.heap.size) (hl : cs.length = n * size) (hn : n ≤ maxLen) : (w.alloc (.cells cs.toArray e)).ownsRow base e size (.slice (some ⟨w.heap.size, 0, none⟩) n n) n cs :=
  ⟨hl, Or.inr ⟨w.heap.size, n, cs.toArray, rfl, hb, heap_alloc_new w _, Nat.le_refl _, hn, by simpa using hl, by rw [← hl]; simp⟩⟩
theorem infoFr : (Tryd.prog.info? 41).map (fun i => (i.zero, i.size, i.bytes)) = some (some (.pointer none), 1, 8) := by kernel_rfl
theorem run_sliceN {P : Program} {w : World} {o : Oper} {ρ : Operand → Value} (t e : TypeId) (n : Nat) (parts : Array (Nat × Operand)) (ho : o.op = .buildSlice t n parts) (vals : List (Nat × Value)) (hv : (parts.map fun (i, x) => (i, ρ x)) = vals.toArray) (cells : Array Value) (ie : TypeInfo) (zz : Value)
    (hu : P.underlying t = some (.slice e)) (hie : P.info? e = some ie) (hz : ie.zero = some zz) (hsmall : ¬ n * ie.size > 2 ^ 24) (hpos : ¬ n * ie.size = 0)
    (h : Instr.fill (fun i => some (i * ie.size, ie.size)) ((Array.range (n * ie.size)).map (zz.cells[· % zz.cells.size]!)) vals = some cells) :
    (execOp ρ o).run P w = .ok (.value (.slice (some ⟨w.heap.size, 0, none⟩) n n)) (w.alloc (.cells cells e)) := by
  have hr := run_buildSlice (P := P) w t e n vals.toArray cells ie zz hu hie hz hsmall hpos (by simpa using h)
  unfold execOp
  simp only [ho, hv, Sem.run_bind, hr, Result.andThen_ok, Sem.run_pure]
/-- What was told, beside a row that is known. -/
theorem same_known {w : World} {Bs : Nat} {aT : Option Addr} {cT : Nat} {T : List TdE} (hE : Env w) (HT : w.ownsRow Bs 51 25 (.slice aT T.length cT) T.length (tdCells T)) (HS : SubsIn w Bs T) (b : Option Addr) (cU : Nat) (K : List TdE) (hb : CellsA w b (tdCells K)) (hK : ∀ x ∈ K, PkOk x.1.1 ∧ x.1.1.subs = []) (h : T.map tp = K.map tp) (hn : K.length ≤ 1000000) :
    Calls Tryd.prog 22 #[.slice aT T.length cT, .slice b K.length cU] w fun e w' => e = .returned (.bool true) ∧ Below w.heap.size w w' := by
  have hl : T.length = K.length := by have := congrArg List.length h; simpa using this
  have hT : ∀ x ∈ T, PkOk x.1.1 := fun x hx => by
    have h1 : tp x ∈ K.map tp := by rw [← h]; exact List.mem_map_of_mem hx
    obtain ⟨y, hy, e⟩ := List.mem_map.1 h1
    have h2 : y.1.1 = x.1.1 := congrArg (fun z : Pk × Nat => z.1) e
    rw [← h2]; exact (hK y hy).1
  exact law06_same aT cT T b cU K w hE (own_cells HT) hb (told_in HS hT) (fun x hx => ⟨(hK x hx).1, by rw [(hK x hx).2]; exact CellsA.nil _ _⟩) h (by omega)
theorem Keep.withBox {w0 w : World} {L : List Box} (h : Keep w0 L [] w) (b : Box) (hb : BoxAt w b.1 b.2.1 b.2.2) (hu : w0.heap.size ≤ b.1) (hn : ∀ x ∈ L, x.1 ≠ b.1) : Keep w0 (b :: L) [] w :=
  ⟨h.env0, h.low, fun x hx => (by rcases List.mem_cons.1 hx with rfl | hx; exact hb; exact h.box x hx), fun x hx => (by rcases List.mem_cons.1 hx with rfl | hx; exact hu; exact h.up x hx), (by
    rw [List.map_cons, List.nodup_cons]
    refine ⟨fun hm => ?_, h.nod⟩
    obtain ⟨x, hx, e⟩ := List.mem_map.1 hm
    exact hn x hx e), fun r hr => (by cases hr), fun r hr => (by cases hr)⟩
def badL : List ByteArray := [⟨#[0]⟩, ⟨#[54, 0]⟩, ⟨#[192, 128, 128, 128, 128]⟩, ⟨#[48, 2, 0, 0]⟩, ⟨#[240]⟩, ⟨#[64, 2, 0, 0]⟩]
def badB (x : ByteArray) : Bs := [192, 0] ++ bl x ++ [192, 0]
def kB : List TdE := [(({ Pk.zero with ty := 12 }, none, 0), 0), ((Pk.zero, none, 0), 4)]
def kE (e : Nat) : List TdE := [((Pk.zero, none, 0), e)]
def k1 : List TdE := [(({ Pk.zero with ty := 3, topic := ⟨#[97]⟩, payload := ⟨#[49, 50, 51, 52, 53, 54, 55, 56, 57, 48, 49]⟩ }, none, 0), 0)]
def k2 : List TdE := [(({ Pk.zero with ty := 3, topic := ⟨#[97]⟩, payload := ⟨#[49, 50, 51, 52, 53, 54, 55, 56, 57, 48, 49, 50]⟩ }, none, 0), 0), (({ Pk.zero with ty := 12 }, none, 0), 0)]
def mostB : Bs := [48, 14, 0, 1, 97, 49, 50, 51, 52, 53, 54, 55, 56, 57, 48, 49, 48, 15, 0, 1, 97, 49, 50, 51, 52, 53, 54, 55, 56, 57, 48, 49, 50, 192, 0]
theorem ping_ok : PkOk { Pk.zero with ty := 12 } := { pk_zero with ty := (by decide : (12 : Nat) < 256) }
theorem p1_ok : PkOk { Pk.zero with ty := 3, topic := ⟨#[97]⟩, payload := ⟨#[49, 50, 51, 52, 53, 54, 55, 56, 57, 48, 49]⟩ } := { pk_zero with ty := (by decide : (3 : Nat) < 256), topic := (by decide : (1 : Nat) ≤ 300000000), payload := (by decide : (11 : Nat) ≤ 300000000) }
theorem p2_ok : PkOk { Pk.zero with ty := 3, topic := ⟨#[97]⟩, payload := ⟨#[49, 50, 51, 52, 53, 54, 55, 56, 57, 48, 49, 50]⟩ } := { pk_zero with ty := (by decide : (3 : Nat) < 256), topic := (by decide : (1 : Nat) ≤ 300000000), payload := (by decide : (12 : Nat) ≤ 300000000) }
theorem kB_ok : ∀ x ∈ kB, PkOk x.1.1 ∧ x.1.1.subs = [] := fun x hx => by
  simp [kB] at hx
  rcases hx with rfl | rfl
  · exact ⟨ping_ok, rfl⟩
  · exact ⟨pk_zero, rfl⟩
theorem kE_ok (e : Nat) : ∀ x ∈ kE e, PkOk x.1.1 ∧ x.1.1.subs = [] := fun x hx => by
  simp [kE] at hx
  subst hx
  exact ⟨pk_zero, rfl⟩
theorem k1_ok : ∀ x ∈ k1, PkOk x.1.1 ∧ x.1.1.subs = [] := fun x hx => by
  simp [k1] at hx
  subst hx
  exact ⟨p1_ok, rfl⟩
theorem k2_ok : ∀ x ∈ k2, PkOk x.1.1 ∧ x.1.1.subs = [] := fun x hx => by
  simp [k2] at hx
  rcases hx with rfl | rfl
  · exact ⟨p2_ok, rfl⟩
  · exact ⟨ping_ok, rfl⟩
theorem app_ok {K M : List TdE} (h1 : ∀ x ∈ K, PkOk x.1.1 ∧ x.1.1.subs = []) (h2 : ∀ x ∈ M, PkOk x.1.1 ∧ x.1.1.subs = []) : ∀ x ∈ K ++ M, PkOk x.1.1 ∧ x.1.1.subs = [] := fun x hx => (List.mem_append.1 hx).elim (h1 x) (h2 x)
theorem badL_all (x : ByteArray) (hx : x ∈ badL) : x.size ≤ 5 ∧ toldR 65536 (badB x) = kB.map tp ∧ (tellR 65536 (badB x)).2 = ([], 4) ∧ (badB x).length ≤ 9 ∧ (tellR 65536 (badB x)).1.length ≤ 70000 := by
  simp [badL] at hx
  rcases hx with rfl | rfl | rfl | rfl | rfl | rfl
  · exact ⟨by decide, by kernel_rfl, by kernel_rfl, by decide, of_decide_eq_true (by kernel_rfl)⟩
  · exact ⟨by decide, by kernel_rfl, by kernel_rfl, by decide, of_decide_eq_true (by kernel_rfl)⟩
  · exact ⟨by decide, by kernel_rfl, by kernel_rfl, by decide, of_decide_eq_true (by kernel_rfl)⟩
  · exact ⟨by decide, by kernel_rfl, by kernel_rfl, by decide, of_decide_eq_true (by kernel_rfl)⟩
  · exact ⟨by decide, by kernel_rfl, by kernel_rfl, by decide, of_decide_eq_true (by kernel_rfl)⟩
  · exact ⟨by decide, by kernel_rfl, by kernel_rfl, by decide, of_decide_eq_true (by kernel_rfl)⟩
theorem most_16 : toldR 16 mostB = (k1 ++ kE 3).map tp ∧ (tellR 16 mostB).2 = ([], 3) ∧ (tellR 16 mostB).1.length ≤ 70000 := ⟨by kernel_rfl, by kernel_rfl, of_decide_eq_true (by kernel_rfl)⟩
theorem most_more (n : Nat) (h1 : 16 < n) (h2 : n < 19) : toldR n mostB = (k1 ++ k2).map tp ∧ (tellR n mostB).2 = ([], 0) ∧ (tellR n mostB).1.length ≤ 70000 := by
  have : n = 17 ∨ n = 18 := by omega
  rcases this with rfl | rfl
  · exact ⟨by kernel_rfl, by kernel_rfl, of_decide_eq_true (by kernel_rfl)⟩
  · exact ⟨by kernel_rfl, by kernel_rfl, of_decide_eq_true (by kernel_rfl)⟩
set_option maxRecDepth 100000 in
set_option maxHeartbeats 4000000 in
theorem law06_FrameKnown (w : World) (hE : Env w) : Calls Tryd.prog 5 #[] w fun e w' => e = .returned (.bool true) ∧ Below w.heap.size w w' := by
  have HE := Lib.hid (show ∀ w9, Below w.heap.size w w9 → Env w9 from fun w9 hb => hE.below hb)
  have HB0 : ∀ x ∈ ([] : List Box), x.2.2 ≠ 5 := by intro x hx; cases hx
  have HB1 : ∀ x ∈ ([] : List Box), x.2.2 ≠ 51 := by intro x hx; cases hx
  obtain ⟨RR, hRR⟩ : ∃ RR : Ending → World → Prop, RR = fun e w' => e = .returned (.bool true) ∧ Below w.heap.size w w' := ⟨_, rfl⟩
  have FIN := Lib.hid (show ∀ w', Below w.heap.size w w' → RR (.returned (.bool true)) w' from fun w' hb => by rw [hRR]; exact ⟨rfl, hb⟩)
  rw [← hRR]
  obtain ⟨w9, hw9⟩ : ∃ w9, w9 = w := ⟨_, rfl⟩
  have HB : Below w.heap.size w w9 := by rw [hw9]; exact Below.refl _ _
  suffices hgo : Calls Tryd.prog 5 #[] w9 RR by rw [hw9] at hgo; exact hgo
  clear hw9 hRR hE
  go_enter Tryd.func5, Tryd.ntmps5
  refine wp_forget (n := 194) (L := []) (FrL.nil ?_ ?_) ?_
  iterate 2 rfl
  intro a9 F
  refine wp_seq ?_
  refine wp_region_lit ?_
  refine fr_ch F 1 [(0, .bool false)] (by kernel_rfl) ?_
  clear F a9
  intro a9 F
  refine wpList_nil ?_
  show Code.wp _ _ _ _ _
  replace F : FrL 194 [] a9 := FrL.nil F.size F.defers
  obtain ⟨wb, hwb⟩ : ∃ wb, wb = w9 := ⟨_, rfl⟩
  have HK : Keep wb [] [] w9 := by rw [hwb]; exact Keep.begin (HE.out _ HB) [] (by intro r hr; cases hr)
  have HBB : Below w.heap.size w wb := by rw [hwb]; exact HB
  clear hwb HB
  refine wp_seq ?_
  refine wp_region_lit ?_
  refine fr_call F (wanted_free rfl) 22 rfl (by decide) 18 #[.int .i64 (((16 : Nat)) : Int)] (by intro a' F'; go_simp) (frame_New 16 (by omega) (by omega) HK) ?_
  rintro e9 w8 ⟨X, rfl, HFC, hb8⟩
  clear HK hb8
  clear w9
  rename World => w9
  refine ⟨_, rfl, ?_⟩
  clear F a9
  intro a9 F
  refine fr_as F (wanted_free rfl) 1 rfl (by decide) 22 rfl rfl ?_
  clear F a9
  intro a9 F
  refine wpList_nil ?_
  show Code.wp _ _ _ _ _
  replace F := F.cut [(1, .pointer (some ⟨X, 0, none⟩))] (by kernel_rfl)
  refine wp_seq ?_
  refine wp_seq ?_
  refine wp_region_lit ?_
  refine fr_ch F 2 [(24, .bool false)] (by kernel_rfl) ?_
  clear F a9
  intro a9 F
  refine wpList_nil ?_
  show Code.wp _ _ _ _ _
  refine wp_cond_false (F.ev 24 rfl) ?_
  refine wp_skip ?_
  show Code.wp _ _ _ _ _
  replace F := F.cut [(1, .pointer (some ⟨X, 0, none⟩))] (by kernel_rfl)
  refine wp_seq ?_
  refine wp_region_lit ?_
  refine fr_ch F 1 [(25, .pointer (some ⟨X, 0, none⟩))] (by kernel_rfl) ?_
  clear F a9
  intro a9 F
  refine fr_call F (wanted_free rfl) 26 rfl (by decide) 19 #[.pointer (some ⟨X, 0, none⟩), .string ⟨#[48, 14, 0]⟩] (by intro a' F'; have h25 := F'.at' 25 _ rfl; go_simp) (frame_Push HFC (by decide) HB0 ⟨#[48, 14, 0]⟩ (by decide)) ?_
  rintro e9 w8 ⟨rfl, hfc, hon⟩
  clear HFC hon
  clear w9
  rename World => w9
  have HFC : FrC wb [] X 16 [48, 14, 0] 0 w9 := hfc
  clear hfc
  refine ⟨_, rfl, ?_⟩
  clear F a9
  intro a9 F
  refine wpList_nil ?_
  show Code.wp _ _ _ _ _
  replace F := F.cut [(1, .pointer (some ⟨X, 0, none⟩))] (by kernel_rfl)
  refine wp_seq ?_
  refine wp_region_lit ?_
  refine fr_ch F 1 [(28, .pointer (some ⟨X, 0, none⟩))] (by kernel_rfl) ?_
  clear F a9
  intro a9 F
  refine fr_call F (wanted_free rfl) 29 rfl (by decide) 20 #[.pointer (some ⟨X, 0, none⟩)] (by intro a' F'; have h28 := F'.at' 28 _ rfl; go_simp) ((show nxR 16 [48, 14, 0] 0 = (Pk.zero, false, 0, [48, 14, 0], 0) from by kernel_rfl) ▸ frame_Next HFC (by decide) (by decide) HB0) ?_
  rintro e9 w8 ⟨al, cap, rfl, hsub, hfc, hon⟩
  clear HFC hon hsub
  clear w9
  rename World => w9
  obtain ⟨a, c, HK, HO⟩ := hfc
  refine ⟨_, rfl, ?_⟩
  clear F a9
  intro a9 F
  refine fr_mv F (wanted_free rfl) 27 rfl (by decide) 29 rfl rfl ?_
  clear F a9
  intro a9 F
  refine fr_ch F 3 [(32, .int .i64 ((0 : Nat) : Int)), (31, .bool false), (30, .agg (pkV Pk.zero al cap))] (by kernel_rfl) ?_
  clear F a9
  intro a9 F
  obtain ⟨i0, hi, hz0, hz1, hz2⟩ := info_parts infoPkR
  refine fr_new F HK 2 (by decide) rfl 27 rfl rfl rfl (.tmp 30) rfl rfl i0 _ hi hz0 (cells := (pkV Pk.zero al cap)) hz1 rfl (pk_one _ _ _) (fun a' Y F' => F'.ev 30 rfl) ?_
  rintro V2 a10 w10 hX F' HK' hb
  replace HO := HO.below hb
  clear HK F hb hX hi hz0 hz1 hz2 i0
  clear a9 w9
  rename World => w9
  rename Act => a9
  have HK := HK'
  have F := F'
  clear HK' F'
  have HFC := (⟨a, c, HK.sub (List.sublist_cons_self _ _) (fun r hr => hr), HO⟩ : FrC _ [] _ _ _ _ _)
  clear HK HO
  refine fr_as F (wanted_free rfl) 3 rfl (by decide) 31 rfl rfl ?_
  clear F a9
  intro a9 F
  refine fr_as F (wanted_free rfl) 4 rfl (by decide) 32 rfl rfl ?_
  clear F a9
  intro a9 F
  refine wpList_nil ?_
  show Code.wp _ _ _ _ _
  replace F := F.cut [(4, .int .i64 ((0 : Nat) : Int)), (3, .bool false), (1, .pointer (some ⟨X, 0, none⟩))] (by kernel_rfl)
  have HFC2 : FrC wb [] X 16 [48, 14, 0] 0 w9 := HFC
  clear HFC
  have HFC := HFC2
  clear HFC2
  refine wp_seq ?_
  refine wp_region_lit ?_
  refine fr_ch F 1 [(33, .pointer (some ⟨X, 0, none⟩))] (by kernel_rfl) ?_
  clear F a9
  intro a9 F
  refine fr_call F (wanted_free rfl) 34 rfl (by decide) 19 #[.pointer (some ⟨X, 0, none⟩), .string ⟨#[255]⟩] (by intro a' F'; have h33 := F'.at' 33 _ rfl; go_simp) (frame_Push HFC (by decide) HB0 ⟨#[255]⟩ (by decide)) ?_
  rintro e9 w8 ⟨rfl, hfc, hon⟩
  clear HFC hon
  clear w9
  rename World => w9
  have HFC : FrC wb [] X 16 [48, 14, 0, 255] 0 w9 := hfc
  clear hfc
  refine ⟨_, rfl, ?_⟩
  clear F a9
  intro a9 F
  refine wpList_nil ?_
  show Code.wp _ _ _ _ _
  replace F := F.cut [(4, .int .i64 ((0 : Nat) : Int)), (3, .bool false), (1, .pointer (some ⟨X, 0, none⟩))] (by kernel_rfl)
  refine wp_seq ?_
  refine wp_seq ?_
  refine wp_region_lit ?_
  refine fr_ch F 7 [(41, .pointer (some ⟨X, 0, none⟩)), (40, .bool false), (35, .bool false)] (by kernel_rfl) ?_
  clear F a9
  intro a9 F
  refine fr_call F (by rw [wanted_at F rfl (t := 40) (b := false) (by kernel_rfl) rfl]; rfl) 42 rfl (by decide) 21 #[.pointer (some ⟨X, 0, none⟩)] (by intro a' F'; have h41 := F'.at' 41 _ rfl; go_simp) (frame_Left HFC) ?_
  rintro e9 w8 ⟨rfl, rfl⟩
  refine ⟨_, rfl, ?_⟩
  clear F a9
  intro a9 F
  refine fr_ch F 2 [(44, .bool false), (43, .bool false)] (by kernel_rfl) ?_
  clear F a9
  intro a9 F
  refine wpList_nil ?_
  show Code.wp _ _ _ _ _
  refine wp_cond_false (F.ev 44 rfl) ?_
  refine wp_skip ?_
  show Code.wp _ _ _ _ _
  have HB : Below w.heap.size w w9 := HBB.trans (HFC.low.mono HBB.size)
  clear HFC HBB
  replace F : FrL 194 [] a9 := (FrL.nil F.size F.defers)
  refine wp_seq ?_
  refine wp_region_lit ?_
  obtain ⟨i0, hi, hz0, hz1, hz2⟩ := info_parts infoStr
  refine fr_doW F (wanted_free rfl) 45 rfl (by decide) (.slice (some ⟨w9.heap.size, 0, none⟩) 6 6) (w9.alloc (.cells (badL.map Value.string).toArray 9)) (fun a' F' => run_sliceN 29 9 6 _ rfl [(0, .string ⟨#[0]⟩), (1, .string ⟨#[54, 0]⟩), (2, .string ⟨#[192, 128, 128, 128, 128]⟩), (3, .string ⟨#[48, 2, 0, 0]⟩), (4, .string ⟨#[240]⟩), (5, .string ⟨#[64, 2, 0, 0]⟩)] (by simp only [List.map_toArray, List.map_cons, List.map_nil, Act.eval]) _ i0 _ Tryd.underlying29 hi hz0 (by rw [hz1]; decide) (by rw [hz1]; decide) (by rw [hz1]; kernel_rfl)) ?_
  clear F a9
  intro a9 F
  replace HB := HB.alloc (by have := HB.size; omega) (.cells (badL.map Value.string).toArray 9)
  have HR : CellsA (w9.alloc (.cells (badL.map Value.string).toArray 9)) (some ⟨w9.heap.size, 0, none⟩) (badL.map Value.string) := cells_new
  obtain ⟨ZB, hZ⟩ : ∃ Z, w9.heap.size = Z := ⟨_, rfl⟩
  rw [hZ] at HR F
  clear hZ hi hz0 hz1 hz2 i0
  generalize w9.alloc (.cells (badL.map Value.string).toArray 9) = w8 at *
  clear w9
  rename World => w9
  replace F := F.cut [(45, .slice (some ⟨ZB, 0, none⟩) badL.length 6)] (by kernel_rfl)
  refine fr_ch F 1 [(5, .slice (some ⟨ZB, 0, none⟩) badL.length 6)] (by kernel_rfl) ?_
  clear F a9
  intro a9 F
  refine wpList_nil ?_
  show Code.wp _ _ _ _ _
  refine wp_seq ?_
  refine wp_seq ?_
  refine wp_region_lit ?_
  refine fr_ch F 1 [(6, .int .i64 0)] (by kernel_rfl) ?_
  clear F a9
  intro a9 F
  refine wpList_nil ?_
  show Code.wp _ _ _ _ _
  replace F := F.cut [(6, .int .i64 0), (5, .slice (some ⟨ZB, 0, none⟩) badL.length 6)] (by kernel_rfl)
  refine wp_block_end (fun a' w' => FrL 194 [] a' ∧ Below w.heap.size w w') ?_ ?_
  · skip
    refine wp_loop (fun a' w' => ∃ (k : Nat), k ≤ badL.length ∧ FrL 194 [(6, .int .i64 (k : Int)), (5, .slice (some ⟨ZB, 0, none⟩) badL.length 6)] a' ∧ Below w.heap.size w w' ∧ CellsA w' (some ⟨ZB, 0, none⟩) (badL.map Value.string)) (fun a' _ => muI badL.length 6 a') ⟨0, Nat.zero_le _, F, HB, HR⟩ ?_
    clear F HB HR a9 w9
    rintro a9 w9 ⟨k, hk, F, HB, HR⟩
    rw [muI_at F 6 k rfl]
    refine wp_seq ?_
    refine wp_seq ?_
    by_cases hlt : k < badL.length
    · skip
      refine wp_region_lit ?_
      refine fr_mv F (wanted_free rfl) 46 rfl (by decide) 6 rfl rfl ?_
      clear F a9
      intro a9 F
      refine fr_mv F (wanted_free rfl) 47 rfl (by decide) 5 rfl rfl ?_
      clear F a9
      intro a9 F
      refine fr_ch F 1 [(48, .int .i64 (badL.length : Int))] (by kernel_rfl) ?_
      clear F a9
      intro a9 F
      refine fr_do F (wanted_free rfl) 49 rfl (by decide) (.bool true) (by intro a' F'; have h46 := F'.at' 46 _ rfl; have h48 := F'.at' 48 _ rfl; go_simp) ?_
      clear F a9
      intro a9 F
      refine wpList_nil ?_
      show Code.wp _ _ _ _ _
      refine wp_cond_true (F.ev 49 rfl) ?_
      refine wp_skip ?_
      show Code.wp _ _ _ _ _
      replace F := F.cut [(6, .int .i64 (k : Int)), (5, .slice (some ⟨ZB, 0, none⟩) badL.length 6)] (by kernel_rfl)
      obtain ⟨x, hx⟩ : ∃ x, badL[k]? = some x := ⟨_, List.getElem?_eq_getElem hlt⟩
      obtain ⟨hx5, ht1, ht2, hlb, hct⟩ := badL_all x (List.mem_of_getElem? hx)
      have hblx : bl ((⟨#[192, 0]⟩ : ByteArray) ++ x ++ ⟨#[192, 0]⟩) = badB x := by rw [bl_add, bl_add]; rfl
      have hszx : ((⟨#[192, 0]⟩ : ByteArray) ++ x ++ ⟨#[192, 0]⟩).size ≤ 9 := by rw [← bl_len, hblx]; exact hlb
      have hcat1 : ¬ 9223372036854775807 < (⟨#[192, 0]⟩ : ByteArray).size + x.size := by have : (⟨#[192, 0]⟩ : ByteArray).size = 2 := rfl; omega
      have hcat2 : ¬ 9223372036854775807 < ((⟨#[192, 0]⟩ : ByteArray) ++ x).size + (⟨#[192, 0]⟩ : ByteArray).size := by rw [ByteArray.size_append]; have : (⟨#[192, 0]⟩ : ByteArray).size = 2 := rfl; omega
      have hbl6 : badL.length ≤ 6 := by decide
      have HBL := Lib.hid hblx
      have HT1 := Lib.hid ht1
      have HT2 := Lib.hid ht2
      clear hblx ht1 ht2
      obtain ⟨wb, hwb⟩ : ∃ wb, wb = w9 := ⟨_, rfl⟩
      have HK : Keep wb [] [] w9 := by rw [hwb]; exact Keep.begin (HE.out _ HB) [] (by intro r hr; cases hr)
      have HBB : Below w.heap.size w wb := by rw [hwb]; exact HB
      have HRB := HR
      rw [← hwb] at HRB
      clear hwb HB
      obtain ⟨bb, oo, hal, hc0⟩ := HRB k (.string x) (by rw [List.getElem?_map, hx]; rfl)
      have HC := Lib.hid (show ∀ w9, Below wb.heap.size wb w9 → w9.cell? ⟨bb, oo + k, none⟩ = some (.string x) from fun w9 hb => (hb.cell (p := ⟨bb, oo + k, none⟩) (World.block_lt_of_cell? _ _ hc0)).trans hc0)
      injection hal with hal
      injection hal with hal1 hal2 _
      subst hal1 hal2
      rw [Nat.zero_add] at HC
      clear hc0 hx HR
      refine wp_seq ?_
      refine wp_block_end (fun a' w' => FrL 194 [(6, .int .i64 (k : Int)), (5, .slice (some ⟨ZB, 0, none⟩) badL.length 6)] a' ∧ Below w.heap.size w w' ∧ CellsA w' (some ⟨ZB, 0, none⟩) (badL.map Value.string)) ?_ ?_
      · skip
        refine wp_seq ?_
        refine wp_region_lit ?_
        refine fr_call F (wanted_free rfl) 52 rfl (by decide) 18 #[.int .i64 (((65536 : Nat)) : Int)] (by intro a' F'; go_simp) (frame_New 65536 (by omega) (by omega) HK) ?_
        rintro e9 w8 ⟨X, rfl, HFC, hb8⟩
        clear HK hb8
        clear w9
        rename World => w9
        refine ⟨_, rfl, ?_⟩
        clear F a9
        intro a9 F
        refine fr_as F (wanted_free rfl) 7 rfl (by decide) 52 rfl rfl ?_
        clear F a9
        intro a9 F
        refine wpList_nil ?_
        show Code.wp _ _ _ _ _
        replace F := F.cut [(7, .pointer (some ⟨X, 0, none⟩)), (6, .int .i64 (k : Int)), (5, .slice (some ⟨ZB, 0, none⟩) badL.length 6)] (by kernel_rfl)
        refine wp_seq ?_
        refine wp_region_lit ?_
        refine fr_ch F 3 [(55, .int .i64 (k : Int)), (54, .slice (some ⟨ZB, 0, none⟩) badL.length 6), (53, .pointer (some ⟨X, 0, none⟩))] (by kernel_rfl) ?_
        clear F a9
        intro a9 F
        refine fr_do F (wanted_free rfl) 56 rfl (by decide) (.pointer (some ⟨ZB, k, none⟩)) (by intro a' F'; have h54 := F'.at' 54 _ rfl; have h55 := F'.at' 55 _ rfl; go_simp) ?_
        clear F a9
        intro a9 F
        refine fr_do F (wanted_free rfl) 57 rfl (by decide) (.string x) (by intro a' F'; have h56 := F'.at' 56 _ rfl; have hc := HC.out _ HFC.low; go_simp) ?_
        clear F a9
        intro a9 F
        refine fr_do F (wanted_free rfl) 58 rfl (by decide) (.string ((⟨#[192, 0]⟩ : ByteArray) ++ x)) (by intro a' F'; have h57 := F'.at' 57 _ rfl; go_simp <;> omega) ?_
        clear F a9
        intro a9 F
        refine fr_do F (wanted_free rfl) 59 rfl (by decide) (.string ((⟨#[192, 0]⟩ : ByteArray) ++ x ++ ⟨#[192, 0]⟩)) (by intro a' F'; have h58 := F'.at' 58 _ rfl; go_simp <;> omega) ?_
        clear F a9
        intro a9 F
        replace F := F.cut [(59, .string ((⟨#[192, 0]⟩ : ByteArray) ++ x ++ ⟨#[192, 0]⟩)), (53, .pointer (some ⟨X, 0, none⟩)), (7, .pointer (some ⟨X, 0, none⟩)), (6, .int .i64 (k : Int)), (5, .slice (some ⟨ZB, 0, none⟩) badL.length 6)] (by kernel_rfl)
        have hbl2 := HBL.out
        clear HBL hcat1 hcat2
        generalize (⟨#[192, 0]⟩ : ByteArray) ++ x ++ ⟨#[192, 0]⟩ = sx at F hbl2 hszx
        have HBL := Lib.hid hbl2
        clear hbl2
        refine fr_call F (wanted_free rfl) 60 rfl (by decide) 19 #[.pointer (some ⟨X, 0, none⟩), .string sx] (by intro a' F'; have h53 := F'.at' 53 _ rfl; have h59 := F'.at' 59 _ rfl; go_simp) (frame_Push HFC (by decide) HB0 sx (by simp only [List.length_nil]; omega)) ?_
        rintro e9 w8 ⟨rfl, hfc, hon⟩
        clear HFC hon
        clear w9
        rename World => w9
        rw [List.nil_append, HBL.out] at hfc
        have HFC := hfc
        clear hfc
        refine ⟨_, rfl, ?_⟩
        clear F a9
        intro a9 F
        refine wpList_nil ?_
        show Code.wp _ _ _ _ _
        replace F := F.cut [(7, .pointer (some ⟨X, 0, none⟩)), (6, .int .i64 (k : Int)), (5, .slice (some ⟨ZB, 0, none⟩) badL.length 6)] (by kernel_rfl)
        refine wp_seq ?_
        refine wp_region_lit ?_
        refine fr_ch F 1 [(61, .pointer (some ⟨X, 0, none⟩))] (by kernel_rfl) ?_
        clear F a9
        intro a9 F
        refine fr_call F (wanted_free rfl) 62 rfl (by decide) 23 #[.pointer (some ⟨X, 0, none⟩)] (by intro a' F'; have h61 := F'.at' 61 _ rfl; go_simp) (drain_free HFC (by decide) (by omega) HB0 HB1 hct) ?_
        rintro e9 w8 ⟨T, aT, cT, rfl, HT, HS, hTm, hfc, hon⟩
        obtain ⟨B9, hB9⟩ : ∃ B9, w9.heap.size = B9 := ⟨_, rfl⟩
        rw [hB9] at HT HS
        clear HFC hon hB9
        clear w9
        rename World => w9
        have HFC := hfc
        clear hfc
        rw [HT2.out] at HFC
        rw [HT1.out] at hTm
        have HTM := Lib.hid hTm
        clear hTm
        refine ⟨_, rfl, ?_⟩
        clear F a9
        intro a9 F
        refine fr_ch F 3 [(65, .agg (tdC ((Pk.zero, none, 0), 4)).toArray), (64, .agg (tdC (({ Pk.zero with ty := 12 }, none, 0), 0)).toArray), (63, .agg (pkV { Pk.zero with ty := 12 } none 0))] (by kernel_rfl) ?_
        clear F a9
        intro a9 F
        obtain ⟨i0, hi, hz0, hz1, hz2⟩ := info_parts infoTold
        refine fr_doW F (wanted_free rfl) 66 rfl (by decide) (.slice (some ⟨w9.heap.size, 0, none⟩) 2 2) (w9.alloc (.cells (tdCells kB).toArray 51)) (fun a' F' => run_sliceA2 48 51 _ _ rfl _ _ (F'.ev 64 rfl) (F'.ev 65 rfl) (tdCells kB).toArray i0 _ Tryd.underlying48 hi hz0 (by rw [hz1]; decide) (by rw [hz1]; decide) (by rw [hz1]; kernel_rfl)) ?_
        clear F a9
        intro a9 F
        have hb8 : Below w9.heap.size w9 (w9.alloc (.cells (tdCells kB).toArray 51)) := (Below.refl _ _).alloc (Nat.le_refl _) _
        replace HFC := HFC.below hb8
        replace HT := own_only HT (Only.of_below hb8 (fun _ => False)) (fun _ _ h => h)
        replace HS := HS.below hb8
        have HN : CellsA (w9.alloc (.cells (tdCells kB).toArray 51)) (some ⟨w9.heap.size, 0, none⟩) (tdCells kB) := cells_new
        obtain ⟨Z, hZ⟩ : ∃ Z, w9.heap.size = Z := ⟨_, rfl⟩
        rw [hZ] at HN F
        clear hb8 hZ hi hz0 hz1 hz2 i0
        generalize w9.alloc (.cells (tdCells kB).toArray 51) = w8 at *
        clear w9
        rename World => w9
        refine fr_call F (wanted_free rfl) 67 rfl (by decide) 22 #[.slice aT T.length cT, .slice (some ⟨Z, 0, none⟩) (kB).length 2] (by intro a' F'; have h62 := F'.at' 62 _ rfl; have h66 := F'.at' 66 _ rfl; go_simp <;> rfl) (same_known HFC.env HT HS (some ⟨Z, 0, none⟩) 2 (kB) HN (kB_ok) (HTM.out) (by decide)) ?_
        rintro e9 w8 ⟨rfl, hb8⟩
        replace HFC := HFC.below hb8
        clear hb8 HT HS HN
        clear w9
        rename World => w9
        refine ⟨_, rfl, ?_⟩
        clear F a9
        intro a9 F
        clear HTM
        refine fr_ch F 2 [(69, .bool false), (68, .bool false)] (by kernel_rfl) ?_
        clear F a9
        intro a9 F
        refine fr_mv F (by rw [wanted_at F rfl (t := 69) (b := false) (by kernel_rfl) rfl]; rfl) 70 rfl (by decide) 7 rfl rfl ?_
        clear F a9
        intro a9 F
        refine fr_call F (by rw [wanted_at F rfl (t := 69) (b := false) (by kernel_rfl) rfl]; rfl) 71 rfl (by decide) 21 #[.pointer (some ⟨X, 0, none⟩)] (by intro a' F'; have h70 := F'.at' 70 _ rfl; go_simp) (frame_Left HFC) ?_
        rintro e9 w8 ⟨rfl, rfl⟩
        refine ⟨_, rfl, ?_⟩
        clear F a9
        intro a9 F
        refine fr_ch F 3 [(74, .bool false), (73, .bool false), (72, .bool false)] (by kernel_rfl) ?_
        clear F a9
        intro a9 F
        refine fr_mv F (by rw [wanted_at F rfl (t := 74) (b := false) (by kernel_rfl) rfl]; rfl) 75 rfl (by decide) 7 rfl rfl ?_
        clear F a9
        intro a9 F
        refine fr_call F (by rw [wanted_at F rfl (t := 74) (b := false) (by kernel_rfl) rfl]; rfl) 76 rfl (by decide) 23 #[.pointer (some ⟨X, 0, none⟩)] (by intro a' F'; have h75 := F'.at' 75 _ rfl; go_simp) (drain_stuck 4 (by decide) HFC (by decide) (by decide) HB0 HB1) ?_
        rintro e9 w8 ⟨T, aT, cT, rfl, HT, HS, hTm, hfc, hon⟩
        obtain ⟨B9, hB9⟩ : ∃ B9, w9.heap.size = B9 := ⟨_, rfl⟩
        rw [hB9] at HT HS
        clear HFC hon hB9
        clear w9
        rename World => w9
        have HFC := hfc
        clear hfc
        have HTM := Lib.hid (show T.map tp = (kE 4).map tp from hTm)
        clear hTm
        refine ⟨_, rfl, ?_⟩
        clear F a9
        intro a9 F
        refine fr_ch F 1 [(77, .agg (tdC ((Pk.zero, none, 0), 4)).toArray)] (by kernel_rfl) ?_
        clear F a9
        intro a9 F
        obtain ⟨i0, hi, hz0, hz1, hz2⟩ := info_parts infoTold
        refine fr_doW F (by rw [wanted_at F rfl (t := 74) (b := false) (by kernel_rfl) rfl]; rfl) 78 rfl (by decide) (.slice (some ⟨w9.heap.size, 0, none⟩) 1 1) (w9.alloc (.cells (tdCells (kE 4)).toArray 51)) (fun a' F' => run_slice1 48 51 _ rfl (tdCells (kE 4)).toArray (F'.ev 77 rfl) i0 _ Tryd.underlying48 hi hz0 (by rw [hz1]; decide) (by rw [hz1]; decide) (by rw [hz1]; kernel_rfl)) ?_
        clear F a9
        intro a9 F
        have hb8 : Below w9.heap.size w9 (w9.alloc (.cells (tdCells (kE 4)).toArray 51)) := (Below.refl _ _).alloc (Nat.le_refl _) _
        replace HFC := HFC.below hb8
        replace HT := own_only HT (Only.of_below hb8 (fun _ => False)) (fun _ _ h => h)
        replace HS := HS.below hb8
        have HN : CellsA (w9.alloc (.cells (tdCells (kE 4)).toArray 51)) (some ⟨w9.heap.size, 0, none⟩) (tdCells (kE 4)) := cells_new
        obtain ⟨Z, hZ⟩ : ∃ Z, w9.heap.size = Z := ⟨_, rfl⟩
        rw [hZ] at HN F
        clear hb8 hZ hi hz0 hz1 hz2 i0
        generalize w9.alloc (.cells (tdCells (kE 4)).toArray 51) = w8 at *
        clear w9
        rename World => w9
        refine fr_call F (by rw [wanted_at F rfl (t := 74) (b := false) (by kernel_rfl) rfl]; rfl) 79 rfl (by decide) 22 #[.slice aT T.length cT, .slice (some ⟨Z, 0, none⟩) (kE 4).length 1] (by intro a' F'; have h76 := F'.at' 76 _ rfl; have h78 := F'.at' 78 _ rfl; go_simp <;> rfl) (same_known HFC.env HT HS (some ⟨Z, 0, none⟩) 1 (kE 4) HN (kE_ok 4) (HTM.out) (by decide)) ?_
        rintro e9 w8 ⟨rfl, hb8⟩
        replace HFC := HFC.below hb8
        clear hb8 HT HS HN
        clear w9
        rename World => w9
        refine ⟨_, rfl, ?_⟩
        clear F a9
        intro a9 F
        refine fr_ch F 2 [(81, .bool false), (80, .bool false)] (by kernel_rfl) ?_
        clear F a9
        intro a9 F
        refine wpList_nil ?_
        show Code.wp _ _ _ _ _
        have HB : Below w.heap.size w w9 := HBB.trans (HFC.low.mono HBB.size)
        refine wp_cond_false (F.ev 81 rfl) ?_
        refine wp_skip ?_
        exact ⟨(((FrL.nil F.size F.defers).add 5 _ (F.at' 5 _ rfl)).add 6 _ (F.at' 6 _ rfl)), HB, HRB.below HFC.low⟩
      · clear F HC HRB HBB HBL HT1 HT2 HK a9 w9
        rintro a9 w9 ⟨F, HB, HR⟩
        show Code.wp _ _ _ _ _
        refine wp_region_lit ?_
        refine fr_mv F (wanted_free rfl) 50 rfl (by decide) 6 rfl rfl ?_
        clear F a9
        intro a9 F
        refine fr_do F (wanted_free rfl) 51 rfl (by decide) (.int .i64 ((k + 1 : Nat) : Int)) (by intro a' F'; have h50 := F'.at' 50 _ rfl; go_simp <;> (rw [IntKind.wrap_i64]; omega)) ?_
        clear F a9
        intro a9 F
        refine fr_ch F 1 [(6, .int .i64 ((k + 1 : Nat) : Int))] (by kernel_rfl) ?_
        clear F a9
        intro a9 F
        refine wpList_nil ?_
        replace F := F.cut [(6, .int .i64 ((k + 1 : Nat) : Int)), (5, .slice (some ⟨ZB, 0, none⟩) badL.length 6)] (by kernel_rfl)
        refine ⟨⟨k + 1, by omega, F, HB, HR⟩, ?_⟩
        rw [muI_at F 6 (k + 1) rfl]
        omega
    · have hk2 : k = badL.length := by omega
      subst hk2
      refine wp_region_lit ?_
      refine fr_ch F 4 [(49, .bool false), (48, .int .i64 (badL.length : Int))] (by kernel_rfl) ?_
      clear F a9
      intro a9 F
      refine wpList_nil ?_
      show Code.wp _ _ _ _ _
      refine wp_cond_false (F.ev 49 rfl) ?_
      refine wp_exit ?_
      exact then_exit (then_exit (exit_in ⟨(FrL.nil F.size F.defers), HB⟩))
  · clear F HB HR a9 w9
    rintro a9 w9 ⟨F, HB⟩
    show Code.wp _ _ _ _ _
    refine wp_seq ?_
    refine wp_region_lit ?_
    refine fr_ch F 1 [(8, .string ⟨#[48, 14, 0, 1, 97, 49, 50, 51, 52, 53, 54, 55, 56, 57, 48, 49]⟩)] (by kernel_rfl) ?_
    clear F a9
    intro a9 F
    refine wpList_nil ?_
    show Code.wp _ _ _ _ _
    refine wp_seq ?_
    refine wp_seq ?_
    refine wp_region_lit ?_
    refine fr_ch F 1 [(9, .int .i64 16)] (by kernel_rfl) ?_
    clear F a9
    intro a9 F
    refine wpList_nil ?_
    show Code.wp _ _ _ _ _
    replace F := F.cut [(9, .int .i64 ((16 : Nat) : Int)), (8, .string ⟨#[48, 14, 0, 1, 97, 49, 50, 51, 52, 53, 54, 55, 56, 57, 48, 49]⟩)] (by kernel_rfl)
    refine wp_block_end (fun a' w' => FrL 194 [] a' ∧ Below w.heap.size w w') ?_ ?_
    · skip
      refine wp_loop (fun a' w' => ∃ (k : Nat), 16 ≤ k ∧ k ≤ 19 ∧ FrL 194 [(9, .int .i64 (k : Int)), (8, .string ⟨#[48, 14, 0, 1, 97, 49, 50, 51, 52, 53, 54, 55, 56, 57, 48, 49]⟩)] a' ∧ Below w.heap.size w w') (fun a' _ => muI 19 9 a') ⟨16, by decide, by decide, F, HB⟩ ?_
      clear F HB a9 w9
      rintro a9 w9 ⟨k, hk0, hk, F, HB⟩
      rw [muI_at F 9 k rfl]
      refine wp_seq ?_
      refine wp_seq ?_
      by_cases hlt : k < 19
      · skip
        refine wp_region_lit ?_
        refine fr_mv F (wanted_free rfl) 82 rfl (by decide) 9 rfl rfl ?_
        clear F a9
        intro a9 F
        refine fr_do F (wanted_free rfl) 83 rfl (by decide) (.bool true) (by intro a' F'; have h82 := F'.at' 82 _ rfl; go_simp <;> omega) ?_
        clear F a9
        intro a9 F
        refine wpList_nil ?_
        show Code.wp _ _ _ _ _
        refine wp_cond_true (F.ev 83 rfl) ?_
        refine wp_skip ?_
        show Code.wp _ _ _ _ _
        replace F := F.cut [(9, .int .i64 (k : Int)), (8, .string ⟨#[48, 14, 0, 1, 97, 49, 50, 51, 52, 53, 54, 55, 56, 57, 48, 49]⟩)] (by kernel_rfl)
        obtain ⟨wb, hwb⟩ : ∃ wb, wb = w9 := ⟨_, rfl⟩
        have HK : Keep wb [] [] w9 := by rw [hwb]; exact Keep.begin (HE.out _ HB) [] (by intro r hr; cases hr)
        have HBB : Below w.heap.size w wb := by rw [hwb]; exact HB
        clear hwb HB
        refine wp_seq ?_
        refine wp_block_end (fun a' w' => FrL 194 [(9, .int .i64 (k : Int)), (8, .string ⟨#[48, 14, 0, 1, 97, 49, 50, 51, 52, 53, 54, 55, 56, 57, 48, 49]⟩)] a' ∧ Below w.heap.size w w') ?_ ?_
        · skip
          refine wp_seq ?_
          refine wp_region_lit ?_
          refine fr_ch F 1 [(86, .int .i64 (k : Int))] (by kernel_rfl) ?_
          clear F a9
          intro a9 F
          refine fr_call F (wanted_free rfl) 87 rfl (by decide) 18 #[.int .i64 (k : Int)] (by intro a' F'; have h86 := F'.at' 86 _ rfl; go_simp) (frame_New k (by omega) (by omega) HK) ?_
          rintro e9 w8 ⟨X, rfl, HFC, hb8⟩
          clear HK hb8
          clear w9
          rename World => w9
          refine ⟨_, rfl, ?_⟩
          clear F a9
          intro a9 F
          refine fr_as F (wanted_free rfl) 10 rfl (by decide) 87 rfl rfl ?_
          clear F a9
          intro a9 F
          refine wpList_nil ?_
          show Code.wp _ _ _ _ _
          replace F := F.cut [(10, .pointer (some ⟨X, 0, none⟩)), (9, .int .i64 (k : Int)), (8, .string ⟨#[48, 14, 0, 1, 97, 49, 50, 51, 52, 53, 54, 55, 56, 57, 48, 49]⟩)] (by kernel_rfl)
          refine wp_seq ?_
          refine wp_region_lit ?_
          refine fr_ch F 4 [(91, .string ((⟨#[48, 14, 0, 1, 97, 49, 50, 51, 52, 53, 54, 55, 56, 57, 48, 49]⟩ : ByteArray) ++ ⟨#[48, 15, 0, 1, 97, 49, 50, 51, 52, 53, 54, 55, 56, 57, 48, 49, 50]⟩ ++ ⟨#[192, 0]⟩)), (88, .pointer (some ⟨X, 0, none⟩))] (by kernel_rfl) ?_
          clear F a9
          intro a9 F
          have hblm : bl ((⟨#[48, 14, 0, 1, 97, 49, 50, 51, 52, 53, 54, 55, 56, 57, 48, 49]⟩ : ByteArray) ++ ⟨#[48, 15, 0, 1, 97, 49, 50, 51, 52, 53, 54, 55, 56, 57, 48, 49, 50]⟩ ++ ⟨#[192, 0]⟩) = mostB := by kernel_rfl
          have hszm : ((⟨#[48, 14, 0, 1, 97, 49, 50, 51, 52, 53, 54, 55, 56, 57, 48, 49]⟩ : ByteArray) ++ ⟨#[48, 15, 0, 1, 97, 49, 50, 51, 52, 53, 54, 55, 56, 57, 48, 49, 50]⟩ ++ ⟨#[192, 0]⟩).size ≤ 35 := of_decide_eq_true (by kernel_rfl)
          replace F := F.cut [(91, .string ((⟨#[48, 14, 0, 1, 97, 49, 50, 51, 52, 53, 54, 55, 56, 57, 48, 49]⟩ : ByteArray) ++ ⟨#[48, 15, 0, 1, 97, 49, 50, 51, 52, 53, 54, 55, 56, 57, 48, 49, 50]⟩ ++ ⟨#[192, 0]⟩)), (88, .pointer (some ⟨X, 0, none⟩)), (10, .pointer (some ⟨X, 0, none⟩)), (9, .int .i64 (k : Int)), (8, .string ⟨#[48, 14, 0, 1, 97, 49, 50, 51, 52, 53, 54, 55, 56, 57, 48, 49]⟩)] (by kernel_rfl)
          obtain ⟨sx, hsx⟩ : ∃ sx, ((⟨#[48, 14, 0, 1, 97, 49, 50, 51, 52, 53, 54, 55, 56, 57, 48, 49]⟩ : ByteArray) ++ ⟨#[48, 15, 0, 1, 97, 49, 50, 51, 52, 53, 54, 55, 56, 57, 48, 49, 50]⟩ ++ ⟨#[192, 0]⟩) = sx := ⟨_, rfl⟩
          rw [hsx] at F hblm hszm
          clear hsx
          refine fr_call F (wanted_free rfl) 92 rfl (by decide) 19 #[.pointer (some ⟨X, 0, none⟩), .string sx] (by intro a' F'; have h88 := F'.at' 88 _ rfl; have h91 := F'.at' 91 _ rfl; go_simp) (frame_Push HFC (by omega) HB0 sx (by simp only [List.length_nil]; omega)) ?_
          rintro e9 w8 ⟨rfl, hfc, hon⟩
          clear HFC hon
          clear w9
          rename World => w9
          rw [List.nil_append, hblm] at hfc
          have HFC := hfc
          clear hfc
          refine ⟨_, rfl, ?_⟩
          clear F a9
          intro a9 F
          refine wpList_nil ?_
          show Code.wp _ _ _ _ _
          replace F := F.cut [(10, .pointer (some ⟨X, 0, none⟩)), (9, .int .i64 (k : Int)), (8, .string ⟨#[48, 14, 0, 1, 97, 49, 50, 51, 52, 53, 54, 55, 56, 57, 48, 49]⟩)] (by kernel_rfl)
          refine wp_seq ?_
          refine wp_region_lit ?_
          refine fr_ch F 2 [(94, .agg (tdC (({ Pk.zero with ty := 3, topic := ⟨#[97]⟩, payload := ⟨#[49, 50, 51, 52, 53, 54, 55, 56, 57, 48, 49]⟩ }, none, 0), 0)).toArray)] (by kernel_rfl) ?_
          clear F a9
          intro a9 F
          obtain ⟨i0, hi, hz0, hz1, hz2⟩ := info_parts infoTold
          refine fr_doW F (wanted_free rfl) 95 rfl (by decide) (.slice (some ⟨w9.heap.size, 0, none⟩) 1 1) (w9.alloc (.cells (tdCells k1).toArray 51)) (fun a' F' => run_slice1 48 51 _ rfl (tdCells k1).toArray (F'.ev 94 rfl) i0 _ Tryd.underlying48 hi hz0 (by rw [hz1]; decide) (by rw [hz1]; decide) (by rw [hz1]; kernel_rfl)) ?_
          clear F a9
          intro a9 F
          have HW : (w9.alloc (.cells (tdCells k1).toArray 51)).ownsRow wb.heap.size 51 25 (.slice (some ⟨w9.heap.size, 0, none⟩) 1 1) 1 (tdCells k1) := own_new HFC.low.size (by rfl) (by unfold maxLen; omega)
          have hb8 : Below w9.heap.size w9 (w9.alloc (.cells (tdCells k1).toArray 51)) := (Below.refl _ _).alloc (Nat.le_refl _) _
          replace HFC := HFC.below hb8
          have HN : CellsA (w9.alloc (.cells (tdCells k1).toArray 51)) (some ⟨w9.heap.size, 0, none⟩) (tdCells k1) := cells_new
          obtain ⟨Z, hZ⟩ : ∃ Z, w9.heap.size = Z := ⟨_, rfl⟩
          rw [hZ] at HW
          rw [hZ] at HN F
          clear hb8 hZ hi hz0 hz1 hz2 i0
          generalize w9.alloc (.cells (tdCells k1).toArray 51) = w8 at *
          clear w9
          rename World => w9
          clear HN
          refine fr_as F (wanted_free rfl) 11 rfl (by decide) 95 rfl rfl ?_
          clear F a9
          intro a9 F
          refine wpList_nil ?_
          show Code.wp _ _ _ _ _
          replace F := F.cut [(11, .slice (some ⟨Z, 0, none⟩) 1 1), (10, .pointer (some ⟨X, 0, none⟩)), (9, .int .i64 (k : Int)), (8, .string ⟨#[48, 14, 0, 1, 97, 49, 50, 51, 52, 53, 54, 55, 56, 57, 48, 49]⟩)] (by kernel_rfl)
          refine wp_seq ?_
          refine wp_seq ?_
          by_cases h16 : k = 16
          · have HM := Lib.hid (show toldR k mostB = (k1 ++ kE 3).map tp ∧ (tellR k mostB).2 = ([], 3) ∧ (tellR k mostB).1.length ≤ 70000 from by rw [h16]; exact most_16)
            refine wp_region_lit ?_
            refine fr_ch F 1 [(96, .int .i64 (k : Int))] (by kernel_rfl) ?_
            clear F a9
            intro a9 F
            refine fr_do F (wanted_free rfl) 97 rfl (by decide) (.bool true) (by intro a' F'; have h96 := F'.at' 96 _ rfl; go_simp) ?_
            clear F a9
            intro a9 F
            refine wpList_nil ?_
            show Code.wp _ _ _ _ _
            refine wp_cond_true (F.ev 97 rfl) ?_
            replace F := F.cut [(11, .slice (some ⟨Z, 0, none⟩) 1 1), (10, .pointer (some ⟨X, 0, none⟩)), (9, .int .i64 (k : Int)), (8, .string ⟨#[48, 14, 0, 1, 97, 49, 50, 51, 52, 53, 54, 55, 56, 57, 48, 49]⟩)] (by kernel_rfl)
            refine wp_region_lit ?_
            obtain ⟨ZW, hZW⟩ : ∃ ZW, Z = ZW := ⟨_, rfl⟩
            rw [hZW] at F HW
            clear hZW
            refine fr_mv F (wanted_free rfl) 98 rfl (by decide) 11 rfl rfl ?_
            clear F a9
            intro a9 F
            refine fr_ch F 1 [(99, .agg (tdC ((Pk.zero, none, 0), 3)).toArray)] (by kernel_rfl) ?_
            clear F a9
            intro a9 F
            obtain ⟨i0, hi, hz0, hz1, hz2⟩ := info_parts infoTold
            refine fr_doW F (wanted_free rfl) 100 rfl (by decide) (.slice (some ⟨w9.heap.size, 0, none⟩) 1 1) (w9.alloc (.cells (tdCells (kE 3)).toArray 51)) (fun a' F' => run_slice1 48 51 _ rfl (tdCells (kE 3)).toArray (F'.ev 99 rfl) i0 _ Tryd.underlying48 hi hz0 (by rw [hz1]; decide) (by rw [hz1]; decide) (by rw [hz1]; kernel_rfl)) ?_
            clear F a9
            intro a9 F
            have hb8 : Below w9.heap.size w9 (w9.alloc (.cells (tdCells (kE 3)).toArray 51)) := (Below.refl _ _).alloc (Nat.le_refl _) _
            replace HFC := HFC.below hb8
            replace HW := own_only HW (Only.of_below hb8 (fun _ => False)) (fun _ _ h => h)
            have HN : CellsA (w9.alloc (.cells (tdCells (kE 3)).toArray 51)) (some ⟨w9.heap.size, 0, none⟩) (tdCells (kE 3)) := cells_new
            obtain ⟨Z, hZ⟩ : ∃ Z, w9.heap.size = Z := ⟨_, rfl⟩
            rw [hZ] at HN F
            clear hb8 hZ hi hz0 hz1 hz2 i0
            generalize w9.alloc (.cells (tdCells (kE 3)).toArray 51) = w8 at *
            clear w9
            rename World => w9
            obtain ⟨ax, cx, HK, HO⟩ := HFC
            obtain ⟨i0, hi, hz0, hz1, hz2⟩ := info_parts infoTold
            refine fr_appendP F rfl 101 rfl (by decide) (.tmp 98) (.tmp 100) 48 rfl wb.heap.size 51 i0 _ 25 208 Tryd.underlying48 hi hz0 hz1 hz2 rfl (by decide) (.slice (some ⟨ZW, 0, none⟩) 1 1) 1 (tdCells k1) (F.ev 98 rfl) HW (some ⟨Z, 0, none⟩) 1 1 (fun h => by cases h) (tdCells (kE 3)) (F.ev 100 rfl) rfl HN (fun u hu => by obtain ⟨x, _, hx⟩ := List.mem_flatMap.1 hu; exact tdC_one x u hx) (by unfold maxLen; omega) (by omega) HK.size ?_
            intro v8 w8 hown hgr
            clear hi hz0 hz1 hz2 i0 HN
            have HK2 := HK.grownBox HW (Nat.le_refl _) hgr (by
              intro x hx
              rcases List.mem_cons.1 hx with rfl | hx
              · exact (by decide : 54 ≠ 51)
              · cases hx)
            have HO2 := own_grownE HO HW hgr (by decide)
            obtain ⟨a3, c3, hv8, hx1, hx2⟩ := own_form hown
            clear hx1 hx2
            subst hv8
            clear HK HO HW hgr
            clear w9
            rename World => w9
            have HFC : FrC wb [] X k mostB 0 w9 := ⟨ax, cx, HK2, HO2⟩
            have HW : w9.ownsRow wb.heap.size 51 25 (.slice a3 (k1 ++ (kE 3)).length c3) (k1 ++ (kE 3)).length (tdCells (k1 ++ (kE 3))) := hown
            clear HK2 HO2 hown
            intro a10 F'
            clear F a9
            rename Act => a9
            have F := F'
            clear F'
            refine fr_as F (wanted_free rfl) 11 rfl (by decide) 101 rfl rfl ?_
            clear F a9
            intro a9 F
            refine wpList_nil ?_
            show Code.wp _ _ _ _ _
            replace F := F.cut [(11, .slice a3 (k1 ++ (kE 3)).length c3), (10, .pointer (some ⟨X, 0, none⟩)), (9, .int .i64 (k : Int)), (8, .string ⟨#[48, 14, 0, 1, 97, 49, 50, 51, 52, 53, 54, 55, 56, 57, 48, 49]⟩)] (by kernel_rfl)
            refine wp_seq ?_
            refine wp_region_lit ?_
            refine fr_ch F 1 [(109, .pointer (some ⟨X, 0, none⟩))] (by kernel_rfl) ?_
            clear F a9
            intro a9 F
            refine fr_call F (wanted_free rfl) 110 rfl (by decide) 23 #[.pointer (some ⟨X, 0, none⟩)] (by intro a' F'; have h109 := F'.at' 109 _ rfl; go_simp) (drain_free HFC (by omega) (by decide) HB0 HB1 HM.out.2.2) ?_
            rintro e9 w8 ⟨T, aT, cT, rfl, HT, HS, hTm, hfc, hon⟩
            obtain ⟨B9, hB9⟩ : ∃ B9, w9.heap.size = B9 := ⟨_, rfl⟩
            rw [hB9] at HT HS
            replace HW := hon.own HW (nfre _ (by decide) (by decide))
            clear HFC hon hB9
            clear w9
            rename World => w9
            have HFC := hfc
            clear hfc
            rw [HM.out.2.1] at HFC
            rw [HM.out.1] at hTm
            have HTM := Lib.hid hTm
            clear hTm
            refine ⟨_, rfl, ?_⟩
            clear F a9
            intro a9 F
            refine fr_mv F (wanted_free rfl) 111 rfl (by decide) 11 rfl rfl ?_
            clear F a9
            intro a9 F
            refine fr_call F (wanted_free rfl) 112 rfl (by decide) 22 #[.slice aT T.length cT, .slice a3 (k1 ++ (kE 3)).length c3] (by intro a' F'; have h110 := F'.at' 110 _ rfl; have h111 := F'.at' 111 _ rfl; go_simp <;> rfl) (same_known HFC.env HT HS a3 c3 (k1 ++ (kE 3)) (own_cells HW) (app_ok k1_ok (kE_ok 3)) HTM.out (by decide)) ?_
            rintro e9 w8 ⟨rfl, hb8⟩
            replace HFC := HFC.below hb8
            clear hb8 HT HS HW
            clear w9
            rename World => w9
            refine ⟨_, rfl, ?_⟩
            clear F a9
            intro a9 F
            refine fr_ch F 2 [(114, .bool false), (113, .bool false)] (by kernel_rfl) ?_
            clear F a9
            intro a9 F
            refine fr_mv F (by rw [wanted_at F rfl (t := 114) (b := false) (by kernel_rfl) rfl]; rfl) 115 rfl (by decide) 10 rfl rfl ?_
            clear F a9
            intro a9 F
            refine fr_call F (by rw [wanted_at F rfl (t := 114) (b := false) (by kernel_rfl) rfl]; rfl) 116 rfl (by decide) 21 #[.pointer (some ⟨X, 0, none⟩)] (by intro a' F'; have h115 := F'.at' 115 _ rfl; go_simp) (frame_Left HFC) ?_
            rintro e9 w8 ⟨rfl, rfl⟩
            refine ⟨_, rfl, ?_⟩
            clear F a9
            intro a9 F
            refine fr_ch F 2 [(118, .bool false), (117, .bool false)] (by kernel_rfl) ?_
            clear F a9
            intro a9 F
            refine wpList_nil ?_
            show Code.wp _ _ _ _ _
            have HB : Below w.heap.size w w9 := HBB.trans (HFC.low.mono HBB.size)
            refine wp_cond_false (F.ev 118 rfl) ?_
            refine wp_skip ?_
            exact ⟨(((FrL.nil F.size F.defers).add 8 _ (F.at' 8 _ rfl)).add 9 _ (F.at' 9 _ rfl)), HB⟩
          · have HM := Lib.hid (most_more k (by omega) hlt)
            refine wp_region_lit ?_
            refine fr_mv F (wanted_free rfl) 96 rfl (by decide) 9 rfl rfl ?_
            clear F a9
            intro a9 F
            refine fr_do F (wanted_free rfl) 97 rfl (by decide) (.bool false) (by intro a' F'; have h96 := F'.at' 96 _ rfl; go_simp <;> omega) ?_
            clear F a9
            intro a9 F
            refine wpList_nil ?_
            show Code.wp _ _ _ _ _
            refine wp_cond_false (F.ev 97 rfl) ?_
            replace F := F.cut [(11, .slice (some ⟨Z, 0, none⟩) 1 1), (10, .pointer (some ⟨X, 0, none⟩)), (9, .int .i64 (k : Int)), (8, .string ⟨#[48, 14, 0, 1, 97, 49, 50, 51, 52, 53, 54, 55, 56, 57, 48, 49]⟩)] (by kernel_rfl)
            refine wp_region_lit ?_
            obtain ⟨ZW, hZW⟩ : ∃ ZW, Z = ZW := ⟨_, rfl⟩
            rw [hZW] at F HW
            clear hZW
            refine fr_mv F (wanted_free rfl) 102 rfl (by decide) 11 rfl rfl ?_
            clear F a9
            intro a9 F
            refine fr_ch F 4 [(106, .agg (tdC (({ Pk.zero with ty := 12 }, none, 0), 0)).toArray), (104, .agg (tdC (({ Pk.zero with ty := 3, topic := ⟨#[97]⟩, payload := ⟨#[49, 50, 51, 52, 53, 54, 55, 56, 57, 48, 49, 50]⟩ }, none, 0), 0)).toArray)] (by kernel_rfl) ?_
            clear F a9
            intro a9 F
            obtain ⟨i0, hi, hz0, hz1, hz2⟩ := info_parts infoTold
            refine fr_doW F (wanted_free rfl) 107 rfl (by decide) (.slice (some ⟨w9.heap.size, 0, none⟩) 2 2) (w9.alloc (.cells (tdCells k2).toArray 51)) (fun a' F' => run_sliceA2 48 51 _ _ rfl _ _ (F'.ev 104 rfl) (F'.ev 106 rfl) (tdCells k2).toArray i0 _ Tryd.underlying48 hi hz0 (by rw [hz1]; decide) (by rw [hz1]; decide) (by rw [hz1]; kernel_rfl)) ?_
            clear F a9
            intro a9 F
            have hb8 : Below w9.heap.size w9 (w9.alloc (.cells (tdCells k2).toArray 51)) := (Below.refl _ _).alloc (Nat.le_refl _) _
            replace HFC := HFC.below hb8
            replace HW := own_only HW (Only.of_below hb8 (fun _ => False)) (fun _ _ h => h)
            have HN : CellsA (w9.alloc (.cells (tdCells k2).toArray 51)) (some ⟨w9.heap.size, 0, none⟩) (tdCells k2) := cells_new
            obtain ⟨Z, hZ⟩ : ∃ Z, w9.heap.size = Z := ⟨_, rfl⟩
            rw [hZ] at HN F
            clear hb8 hZ hi hz0 hz1 hz2 i0
            generalize w9.alloc (.cells (tdCells k2).toArray 51) = w8 at *
            clear w9
            rename World => w9
            obtain ⟨ax, cx, HK, HO⟩ := HFC
            obtain ⟨i0, hi, hz0, hz1, hz2⟩ := info_parts infoTold
            refine fr_appendP F rfl 108 rfl (by decide) (.tmp 102) (.tmp 107) 48 rfl wb.heap.size 51 i0 _ 25 208 Tryd.underlying48 hi hz0 hz1 hz2 rfl (by decide) (.slice (some ⟨ZW, 0, none⟩) 1 1) 1 (tdCells k1) (F.ev 102 rfl) HW (some ⟨Z, 0, none⟩) 2 2 (fun h => by cases h) (tdCells k2) (F.ev 107 rfl) rfl HN (fun u hu => by obtain ⟨x, _, hx⟩ := List.mem_flatMap.1 hu; exact tdC_one x u hx) (by unfold maxLen; omega) (by omega) HK.size ?_
            intro v8 w8 hown hgr
            clear hi hz0 hz1 hz2 i0 HN
            have HK2 := HK.grownBox HW (Nat.le_refl _) hgr (by
              intro x hx
              rcases List.mem_cons.1 hx with rfl | hx
              · exact (by decide : 54 ≠ 51)
              · cases hx)
            have HO2 := own_grownE HO HW hgr (by decide)
            obtain ⟨a3, c3, hv8, hx1, hx2⟩ := own_form hown
            clear hx1 hx2
            subst hv8
            clear HK HO HW hgr
            clear w9
            rename World => w9
            have HFC : FrC wb [] X k mostB 0 w9 := ⟨ax, cx, HK2, HO2⟩
            have HW : w9.ownsRow wb.heap.size 51 25 (.slice a3 (k1 ++ k2).length c3) (k1 ++ k2).length (tdCells (k1 ++ k2)) := hown
            clear HK2 HO2 hown
            intro a10 F'
            clear F a9
            rename Act => a9
            have F := F'
            clear F'
            refine fr_as F (wanted_free rfl) 11 rfl (by decide) 108 rfl rfl ?_
            clear F a9
            intro a9 F
            refine wpList_nil ?_
            show Code.wp _ _ _ _ _
            replace F := F.cut [(11, .slice a3 (k1 ++ k2).length c3), (10, .pointer (some ⟨X, 0, none⟩)), (9, .int .i64 (k : Int)), (8, .string ⟨#[48, 14, 0, 1, 97, 49, 50, 51, 52, 53, 54, 55, 56, 57, 48, 49]⟩)] (by kernel_rfl)
            refine wp_seq ?_
            refine wp_region_lit ?_
            refine fr_ch F 1 [(109, .pointer (some ⟨X, 0, none⟩))] (by kernel_rfl) ?_
            clear F a9
            intro a9 F
            refine fr_call F (wanted_free rfl) 110 rfl (by decide) 23 #[.pointer (some ⟨X, 0, none⟩)] (by intro a' F'; have h109 := F'.at' 109 _ rfl; go_simp) (drain_free HFC (by omega) (by decide) HB0 HB1 HM.out.2.2) ?_
            rintro e9 w8 ⟨T, aT, cT, rfl, HT, HS, hTm, hfc, hon⟩
            obtain ⟨B9, hB9⟩ : ∃ B9, w9.heap.size = B9 := ⟨_, rfl⟩
            rw [hB9] at HT HS
            replace HW := hon.own HW (nfre _ (by decide) (by decide))
            clear HFC hon hB9
            clear w9
            rename World => w9
            have HFC := hfc
            clear hfc
            rw [HM.out.2.1] at HFC
            rw [HM.out.1] at hTm
            have HTM := Lib.hid hTm
            clear hTm
            refine ⟨_, rfl, ?_⟩
            clear F a9
            intro a9 F
            refine fr_mv F (wanted_free rfl) 111 rfl (by decide) 11 rfl rfl ?_
            clear F a9
            intro a9 F
            refine fr_call F (wanted_free rfl) 112 rfl (by decide) 22 #[.slice aT T.length cT, .slice a3 (k1 ++ k2).length c3] (by intro a' F'; have h110 := F'.at' 110 _ rfl; have h111 := F'.at' 111 _ rfl; go_simp <;> rfl) (same_known HFC.env HT HS a3 c3 (k1 ++ k2) (own_cells HW) (app_ok k1_ok k2_ok) HTM.out (by decide)) ?_
            rintro e9 w8 ⟨rfl, hb8⟩
            replace HFC := HFC.below hb8
            clear hb8 HT HS HW
            clear w9
            rename World => w9
            refine ⟨_, rfl, ?_⟩
            clear F a9
            intro a9 F
            refine fr_ch F 2 [(114, .bool false), (113, .bool false)] (by kernel_rfl) ?_
            clear F a9
            intro a9 F
            refine fr_mv F (by rw [wanted_at F rfl (t := 114) (b := false) (by kernel_rfl) rfl]; rfl) 115 rfl (by decide) 10 rfl rfl ?_
            clear F a9
            intro a9 F
            refine fr_call F (by rw [wanted_at F rfl (t := 114) (b := false) (by kernel_rfl) rfl]; rfl) 116 rfl (by decide) 21 #[.pointer (some ⟨X, 0, none⟩)] (by intro a' F'; have h115 := F'.at' 115 _ rfl; go_simp) (frame_Left HFC) ?_
            rintro e9 w8 ⟨rfl, rfl⟩
            refine ⟨_, rfl, ?_⟩
            clear F a9
            intro a9 F
            refine fr_ch F 2 [(118, .bool false), (117, .bool false)] (by kernel_rfl) ?_
            clear F a9
            intro a9 F
            refine wpList_nil ?_
            show Code.wp _ _ _ _ _
            have HB : Below w.heap.size w w9 := HBB.trans (HFC.low.mono HBB.size)
            refine wp_cond_false (F.ev 118 rfl) ?_
            refine wp_skip ?_
            exact ⟨(((FrL.nil F.size F.defers).add 8 _ (F.at' 8 _ rfl)).add 9 _ (F.at' 9 _ rfl)), HB⟩
        · clear F HBB HK a9 w9
          rintro a9 w9 ⟨F, HB⟩
          show Code.wp _ _ _ _ _
          refine wp_region_lit ?_
          refine fr_mv F (wanted_free rfl) 84 rfl (by decide) 9 rfl rfl ?_
          clear F a9
          intro a9 F
          refine fr_do F (wanted_free rfl) 85 rfl (by decide) (.int .i64 ((k + 1 : Nat) : Int)) (by intro a' F'; have h84 := F'.at' 84 _ rfl; go_simp <;> (rw [IntKind.wrap_i64]; omega)) ?_
          clear F a9
          intro a9 F
          refine fr_ch F 1 [(9, .int .i64 ((k + 1 : Nat) : Int))] (by kernel_rfl) ?_
          clear F a9
          intro a9 F
          refine wpList_nil ?_
          replace F := F.cut [(9, .int .i64 ((k + 1 : Nat) : Int)), (8, .string ⟨#[48, 14, 0, 1, 97, 49, 50, 51, 52, 53, 54, 55, 56, 57, 48, 49]⟩)] (by kernel_rfl)
          refine ⟨⟨k + 1, by omega, by omega, F, HB⟩, ?_⟩
          rw [muI_at F 9 (k + 1) rfl]
          omega
      · skip
        refine wp_region_lit ?_
        refine fr_mv F (wanted_free rfl) 82 rfl (by decide) 9 rfl rfl ?_
        clear F a9
        intro a9 F
        refine fr_do F (wanted_free rfl) 83 rfl (by decide) (.bool false) (by intro a' F'; have h82 := F'.at' 82 _ rfl; go_simp <;> omega) ?_
        clear F a9
        intro a9 F
        refine wpList_nil ?_
        show Code.wp _ _ _ _ _
        refine wp_cond_false (F.ev 83 rfl) ?_
        refine wp_exit ?_
        exact then_exit (then_exit (exit_in ⟨(FrL.nil F.size F.defers), HB⟩))
    · clear F HB a9 w9
      rintro a9 w9 ⟨F, HB⟩
      show Code.wp _ _ _ _ _
      obtain ⟨wh, hwb⟩ : ∃ wb, wb = w9 := ⟨_, rfl⟩
      have HK : Keep wh [] [] w9 := by rw [hwb]; exact Keep.begin (HE.out _ HB) [] (by intro r hr; cases hr)
      have HBX : Below w.heap.size w wh := by rw [hwb]; exact HB
      clear hwb HB
      refine wp_seq ?_
      refine wp_region_lit ?_
      refine fr_call F (wanted_free rfl) 119 rfl (by decide) 18 #[.int .i64 (((16 : Nat)) : Int)] (by intro a' F'; go_simp) (frame_New 16 (by omega) (by omega) HK) ?_
      rintro e9 w8 ⟨HX, rfl, HFC, hb8⟩
      clear HK hb8
      clear w9
      rename World => w9
      refine ⟨_, rfl, ?_⟩
      clear F a9
      intro a9 F
      refine fr_as F (wanted_free rfl) 12 rfl (by decide) 119 rfl rfl ?_
      clear F a9
      intro a9 F
      refine wpList_nil ?_
      show Code.wp _ _ _ _ _
      replace F := F.cut [(12, .pointer (some ⟨HX, 0, none⟩))] (by kernel_rfl)
      refine wp_seq ?_
      refine wp_region_lit ?_
      refine fr_ch F 1 [(120, .pointer (some ⟨HX, 0, none⟩))] (by kernel_rfl) ?_
      clear F a9
      intro a9 F
      refine fr_call F (wanted_free rfl) 121 rfl (by decide) 19 #[.pointer (some ⟨HX, 0, none⟩), .string ⟨#[16, 128, 1]⟩] (by intro a' F'; have h120 := F'.at' 120 _ rfl; go_simp) (frame_Push HFC (by decide) HB0 ⟨#[16, 128, 1]⟩ (by decide)) ?_
      rintro e9 w8 ⟨rfl, hfc, hon⟩
      clear HFC hon
      clear w9
      rename World => w9
      have HFC : FrC wh [] HX 16 [16, 128, 1] 0 w9 := hfc
      clear hfc
      refine ⟨_, rfl, ?_⟩
      clear F a9
      intro a9 F
      refine wpList_nil ?_
      show Code.wp _ _ _ _ _
      replace F := F.cut [(12, .pointer (some ⟨HX, 0, none⟩))] (by kernel_rfl)
      have HB : Below w.heap.size w w9 := HBX.trans (HFC.low.mono HBX.size)
      have HFH := HFC
      clear HFC
      obtain ⟨wl, hwb⟩ : ∃ wb, wb = w9 := ⟨_, rfl⟩
      have HK : Keep wl [] [] w9 := by rw [hwb]; exact Keep.begin (HE.out _ HB) [] (by intro r hr; cases hr)
      have HBL : Below w.heap.size w wl := by rw [hwb]; exact HB
      rw [← hwb] at HFH
      have hHXl : HX < wl.heap.size := by obtain ⟨a, c, h1, _⟩ := HFH; exact h1.lt (List.mem_cons_self ..)
      have hwl : wh.heap.size ≤ wl.heap.size := HFH.low.size
      clear hwb HB
      refine wp_seq ?_
      refine wp_region_lit ?_
      refine fr_call F (wanted_free rfl) 122 rfl (by decide) 18 #[.int .i64 (((16 : Nat)) : Int)] (by intro a' F'; go_simp) (frame_New 16 (by omega) (by omega) HK) ?_
      rintro e9 w8 ⟨X, rfl, HFC, hb8⟩
      clear HK hb8
      clear w9
      rename World => w9
      refine ⟨_, rfl, ?_⟩
      clear F a9
      intro a9 F
      refine fr_as F (wanted_free rfl) 13 rfl (by decide) 122 rfl rfl ?_
      clear F a9
      intro a9 F
      refine wpList_nil ?_
      show Code.wp _ _ _ _ _
      replace F := F.cut [(13, .pointer (some ⟨X, 0, none⟩)), (12, .pointer (some ⟨HX, 0, none⟩))] (by kernel_rfl)
      refine wp_seq ?_
      refine wp_region_lit ?_
      refine fr_ch F 1 [(123, .pointer (some ⟨X, 0, none⟩))] (by kernel_rfl) ?_
      clear F a9
      intro a9 F
      refine fr_call F (wanted_free rfl) 124 rfl (by decide) 19 #[.pointer (some ⟨X, 0, none⟩), .string ⟨#[48, 128]⟩] (by intro a' F'; have h123 := F'.at' 123 _ rfl; go_simp) (frame_Push HFC (by decide) HB0 ⟨#[48, 128]⟩ (by decide)) ?_
      rintro e9 w8 ⟨rfl, hfc, hon⟩
      clear HFC hon
      clear w9
      rename World => w9
      have HFC : FrC wl [] X 16 [48, 128] 0 w9 := hfc
      clear hfc
      refine ⟨_, rfl, ?_⟩
      clear F a9
      intro a9 F
      refine wpList_nil ?_
      show Code.wp _ _ _ _ _
      replace F := F.cut [(13, .pointer (some ⟨X, 0, none⟩)), (12, .pointer (some ⟨HX, 0, none⟩))] (by kernel_rfl)
      refine wp_seq ?_
      refine wp_region_lit ?_
      refine fr_ch F 1 [(126, .pointer (some ⟨X, 0, none⟩))] (by kernel_rfl) ?_
      clear F a9
      intro a9 F
      refine fr_call F (wanted_free rfl) 127 rfl (by decide) 20 #[.pointer (some ⟨X, 0, none⟩)] (by intro a' F'; have h126 := F'.at' 126 _ rfl; go_simp) ((show nxR 16 [48, 128] 0 = (Pk.zero, false, 0, [48, 128], 0) from by kernel_rfl) ▸ frame_Next HFC (by decide) (by decide) HB0) ?_
      rintro e9 w8 ⟨al, cap, rfl, hsub, hfc, hon⟩
      clear HFC hon hsub
      clear w9
      rename World => w9
      obtain ⟨a, c, HK, HO⟩ := hfc
      refine ⟨_, rfl, ?_⟩
      clear F a9
      intro a9 F
      refine fr_mv F (wanted_free rfl) 125 rfl (by decide) 127 rfl rfl ?_
      clear F a9
      intro a9 F
      refine fr_ch F 3 [(130, .int .i64 ((0 : Nat) : Int)), (129, .bool false), (128, .agg (pkV Pk.zero al cap))] (by kernel_rfl) ?_
      clear F a9
      intro a9 F
      obtain ⟨i0, hi, hz0, hz1, hz2⟩ := info_parts infoPkR
      refine fr_new F HK 14 (by decide) rfl 27 rfl rfl rfl (.tmp 128) rfl rfl i0 _ hi hz0 (cells := (pkV Pk.zero al cap)) hz1 rfl (pk_one _ _ _) (fun a' Y F' => F'.ev 128 rfl) ?_
      rintro V3 a10 w10 hX F' HK' hb
      replace HO := HO.below hb
      clear HK F hb hX hi hz0 hz1 hz2 i0
      clear a9 w9
      rename World => w9
      rename Act => a9
      have HK := HK'
      have F := F'
      clear HK' F'
      have HFC := (⟨a, c, HK.sub (List.sublist_cons_self _ _) (fun r hr => hr), HO⟩ : FrC _ [] _ _ _ _ _)
      clear HK HO
      refine fr_as F (wanted_free rfl) 15 rfl (by decide) 129 rfl rfl ?_
      clear F a9
      intro a9 F
      refine fr_as F (wanted_free rfl) 16 rfl (by decide) 130 rfl rfl ?_
      clear F a9
      intro a9 F
      refine wpList_nil ?_
      show Code.wp _ _ _ _ _
      replace F := F.cut [(16, .int .i64 ((0 : Nat) : Int)), (15, .bool false), (13, .pointer (some ⟨X, 0, none⟩)), (12, .pointer (some ⟨HX, 0, none⟩))] (by kernel_rfl)
      have HFC2 : FrC wl [] X 16 [48, 128] 0 w9 := HFC
      clear HFC
      have HFC := HFC2
      clear HFC2
      have HB : Below w.heap.size w w9 := HBL.trans (HFC.low.mono HBL.size)
      replace HFH := HFH.below HFC.low
      obtain ⟨wn, hwb⟩ : ∃ wb, wb = w9 := ⟨_, rfl⟩
      have HK : Keep wn [] [] w9 := by rw [hwb]; exact Keep.begin (HE.out _ HB) [] (by intro r hr; cases hr)
      rw [← hwb] at HFH HFC HB
      clear hwb HBL
      have HH := Lib.hid (show ∀ w9, Below wn.heap.size wn w9 → FrC wh [] HX 16 [16, 128, 1] 0 w9 from fun w9 hb => HFH.below hb)
      have HLT := Lib.hid (show ∀ w9, Below wn.heap.size wn w9 → FrC wl [] X 16 [48, 128] 0 w9 from fun w9 hb => HFC.below hb)
      have HBN := Lib.hid (show ∀ w9, Below wn.heap.size wn w9 → Below w.heap.size w w9 from fun w9 hb => HB.trans (hb.mono HB.size))
      clear HFH HFC HB
      refine wp_seq ?_
      refine wp_region_lit ?_
      refine fr_ch F 1 [(131, .agg (frV 0 none 0 0 0))] (by kernel_rfl) ?_
      clear F a9
      intro a9 F
      refine fr_box F HK 132 (by decide) rfl 54 _ rfl rfl (frV 0 none 0 0 0) (fun a' F' => F'.ev 131 rfl) ?_
      rintro N a10 w10 hX F' HK' hb
      clear HK F hb hX
      clear a9 w9
      rename World => w9
      rename Act => a9
      have HK := HK'
      have F := F'
      clear HK' F'
      obtain ⟨i0, hi, hz0, hz1, hz2⟩ := info_parts infoFr
      refine fr_doW F (wanted_free rfl) 133 rfl (by decide) (.slice (some ⟨w9.heap.size, 0, none⟩) 2 2) (w9.alloc (.cells #[.pointer none, .pointer (some ⟨N, 0, none⟩)] 41)) (fun a' F' => run_sliceN 55 41 2 _ rfl [(0, .pointer none), (1, .pointer (some ⟨N, 0, none⟩))] (by have g132 := F'.get 132 rfl; simp only [List.map_toArray, List.map_cons, List.map_nil, Act.eval, g132]) _ i0 _ Tryd.underlying55 hi hz0 (by rw [hz1]; decide) (by rw [hz1]; decide) (by rw [hz1]; kernel_rfl)) ?_
      clear F a9
      intro a9 F
      have HK2 := HK.allocRow [.pointer none, .pointer (some ⟨N, 0, none⟩)] 41
      clear HK
      obtain ⟨ZN, hZ⟩ : ∃ Z, w9.heap.size = Z := ⟨_, rfl⟩
      have HK : Keep wn [(N, frV 0 none 0 0 0, 54)] [(some ⟨ZN, 0, none⟩, [.pointer none, .pointer (some ⟨N, 0, none⟩)])] (w9.alloc (.cells #[.pointer none, .pointer (some ⟨N, 0, none⟩)] 41)) := by rw [← hZ]; exact HK2
      rw [hZ] at F
      clear HK2 hZ hi hz0 hz1 hz2 i0
      generalize w9.alloc (.cells #[.pointer none, .pointer (some ⟨N, 0, none⟩)] 41) = w8 at *
      clear w9
      rename World => w9
      refine fr_as F (wanted_free rfl) 17 rfl (by decide) 133 rfl rfl ?_
      clear F a9
      intro a9 F
      refine wpList_nil ?_
      show Code.wp _ _ _ _ _
      refine wp_seq ?_
      refine wp_seq ?_
      refine wp_region_lit ?_
      refine fr_ch F 1 [(18, .int .i64 0)] (by kernel_rfl) ?_
      clear F a9
      intro a9 F
      refine wpList_nil ?_
      show Code.wp _ _ _ _ _
      replace F := F.cut [(18, .int .i64 0), (17, .slice (some ⟨ZN, 0, none⟩) 2 2), (16, .int .i64 ((0 : Nat) : Int)), (15, .bool false), (13, .pointer (some ⟨X, 0, none⟩)), (12, .pointer (some ⟨HX, 0, none⟩))] (by kernel_rfl)
      refine wp_block_end (fun a' w' => FrL 194 [(16, .int .i64 ((0 : Nat) : Int)), (15, .bool false), (13, .pointer (some ⟨X, 0, none⟩)), (12, .pointer (some ⟨HX, 0, none⟩))] a' ∧ Below wn.heap.size wn w') ?_ ?_
      · skip
        refine wp_loop (fun a' w' => ∃ (k : Nat), k ≤ 2 ∧ FrL 194 [(18, .int .i64 (k : Int)), (17, .slice (some ⟨ZN, 0, none⟩) 2 2), (16, .int .i64 ((0 : Nat) : Int)), (15, .bool false), (13, .pointer (some ⟨X, 0, none⟩)), (12, .pointer (some ⟨HX, 0, none⟩))] a' ∧ Keep wn [(N, frV 0 none 0 0 0, 54)] [(some ⟨ZN, 0, none⟩, [.pointer none, .pointer (some ⟨N, 0, none⟩)])] w') (fun a' _ => muI 2 18 a') ⟨0, by decide, F, HK⟩ ?_
        clear F HK a9 w9
        rintro a9 w9 ⟨k, hk, F, HK⟩
        rw [muI_at F 18 k rfl]
        refine wp_seq ?_
        refine wp_seq ?_
        by_cases hlt : k < 2
        · skip
          refine wp_region_lit ?_
          refine fr_mv F (wanted_free rfl) 134 rfl (by decide) 18 rfl rfl ?_
          clear F a9
          intro a9 F
          refine fr_mv F (wanted_free rfl) 135 rfl (by decide) 17 rfl rfl ?_
          clear F a9
          intro a9 F
          refine fr_ch F 1 [(136, .int .i64 2)] (by kernel_rfl) ?_
          clear F a9
          intro a9 F
          refine fr_do F (wanted_free rfl) 137 rfl (by decide) (.bool true) (by intro a' F'; have h134 := F'.at' 134 _ rfl; have h136 := F'.at' 136 _ rfl; go_simp <;> omega) ?_
          clear F a9
          intro a9 F
          refine wpList_nil ?_
          show Code.wp _ _ _ _ _
          refine wp_cond_true (F.ev 137 rfl) ?_
          refine wp_skip ?_
          show Code.wp _ _ _ _ _
          replace F := F.cut [(18, .int .i64 (k : Int)), (17, .slice (some ⟨ZN, 0, none⟩) 2 2), (16, .int .i64 ((0 : Nat) : Int)), (15, .bool false), (13, .pointer (some ⟨X, 0, none⟩)), (12, .pointer (some ⟨HX, 0, none⟩))] (by kernel_rfl)
          refine wp_seq ?_
          refine wp_block_end (fun a' w' => FrL 194 [(18, .int .i64 (k : Int)), (17, .slice (some ⟨ZN, 0, none⟩) 2 2), (16, .int .i64 ((0 : Nat) : Int)), (15, .bool false), (13, .pointer (some ⟨X, 0, none⟩)), (12, .pointer (some ⟨HX, 0, none⟩))] a' ∧ Keep wn [(N, frV 0 none 0 0 0, 54)] [(some ⟨ZN, 0, none⟩, [.pointer none, .pointer (some ⟨N, 0, none⟩)])] w') ?_ ?_
          · skip
            have hc0 := HK.rowAt 0 rfl
            have HZS := Lib.hid (show ∀ w9 : World, Env w9 → Calls Tryd.prog 24 #[.agg (pkV Pk.zero none 0), .agg (pkV Pk.zero none 0)] w9 fun e w' => e = .returned (.bool true) ∧ Below w9.heap.size w9 w' from fun w9 h1 => by
              have h4 := ref03_Same Pk.zero Pk.zero none none 0 0 w9 h1 pk_zero pk_zero (CellsA.nil _ _) (CellsA.nil _ _)
              rw [decide_eq_true rfl] at h4
              exact h4)
            clear hc0
            have hkk : k = 0 ∨ k = 1 := by omega
            rcases hkk with rfl | rfl
            · skip
              refine wp_seq ?_
              refine wp_region_lit ?_
              refine fr_ch F 1 [(140, .slice (some ⟨ZN, 0, none⟩) 2 2)] (by kernel_rfl) ?_
              clear F a9
              intro a9 F
              refine fr_mv F (wanted_free rfl) 141 rfl (by decide) 18 rfl rfl ?_
              clear F a9
              intro a9 F
              refine fr_ch F 1 [(142, .pointer (some ⟨ZN, 0, none⟩))] (by kernel_rfl) ?_
              clear F a9
              intro a9 F
              refine fr_do F (wanted_free rfl) 143 rfl (by decide) (.pointer none) (by intro a' F'; have h142 := F'.at' 142 _ rfl; have hc : w9.cell? ⟨ZN, 0, none⟩ = some (.pointer none) := (by obtain ⟨b, o, h1, h2⟩ := (HK.rowAt 0 rfl) 0 _ rfl; injection h1 with h1; injection h1 with h3 h4 _; subst h3 h4; exact h2); go_simp) ?_
              clear F a9
              intro a9 F
              refine fr_call F (wanted_free rfl) 144 rfl (by decide) 19 #[.pointer none, .string ⟨#[192, 0]⟩] (by intro a' F'; have h143 := F'.at' 143 _ rfl; go_simp) (frame_Push_nil _ ⟨#[192, 0]⟩) ?_
              rintro e9 w8 ⟨rfl, rfl⟩
              refine ⟨_, rfl, ?_⟩
              clear F a9
              intro a9 F
              refine wpList_nil ?_
              show Code.wp _ _ _ _ _
              replace F := F.cut [(18, .int .i64 ((0 : Nat) : Int)), (17, .slice (some ⟨ZN, 0, none⟩) 2 2), (16, .int .i64 ((0 : Nat) : Int)), (15, .bool false), (13, .pointer (some ⟨X, 0, none⟩)), (12, .pointer (some ⟨HX, 0, none⟩))] (by kernel_rfl)
              refine wp_seq ?_
              refine wp_region_lit ?_
              refine fr_ch F 3 [(148, .pointer (some ⟨ZN, 0, none⟩)), (147, .int .i64 ((0 : Nat) : Int)), (146, .slice (some ⟨ZN, 0, none⟩) 2 2)] (by kernel_rfl) ?_
              clear F a9
              intro a9 F
              refine fr_do F (wanted_free rfl) 149 rfl (by decide) (.pointer none) (by intro a' F'; have h148 := F'.at' 148 _ rfl; have hc : w9.cell? ⟨ZN, 0, none⟩ = some (.pointer none) := (by obtain ⟨b, o, h1, h2⟩ := (HK.rowAt 0 rfl) 0 _ rfl; injection h1 with h1; injection h1 with h3 h4 _; subst h3 h4; exact h2); go_simp) ?_
              clear F a9
              intro a9 F
              refine fr_call F (wanted_free rfl) 150 rfl (by decide) 20 #[.pointer none] (by intro a' F'; have h149 := F'.at' 149 _ rfl; go_simp) (frame_Next_nil (Keep.begin HK.env [] (by intro r hr; cases hr))) ?_
              rintro e9 w8 ⟨rfl, hb8⟩
              replace HK := HK.below hb8
              clear hb8
              clear w9
              rename World => w9
              refine ⟨_, rfl, ?_⟩
              clear F a9
              intro a9 F
              refine fr_mv F (wanted_free rfl) 145 rfl (by decide) 150 rfl rfl ?_
              clear F a9
              intro a9 F
              refine fr_ch F 3 [(153, .int .i64 8), (152, .bool false), (151, .agg (pkV Pk.zero none 0))] (by kernel_rfl) ?_
              clear F a9
              intro a9 F
              obtain ⟨i0, hi, hz0, hz1, hz2⟩ := info_parts infoPkR
              refine fr_new F HK 19 (by decide) rfl 27 rfl rfl rfl (.tmp 151) rfl rfl i0 _ hi hz0 (cells := (pkV Pk.zero none 0)) hz1 rfl (pk_one _ _ _) (fun a' Y F' => F'.ev 151 rfl) ?_
              rintro V4 a10 w10 hX F' HK' hb
              clear HK F hb hX hi hz0 hz1 hz2 i0
              clear a9 w9
              rename World => w9
              rename Act => a9
              have HK := HK'
              have F := F'
              clear HK' F'
              refine fr_as F (wanted_free rfl) 20 rfl (by decide) 152 rfl rfl ?_
              clear F a9
              intro a9 F
              refine fr_as F (wanted_free rfl) 21 rfl (by decide) 153 rfl rfl ?_
              clear F a9
              intro a9 F
              refine wpList_nil ?_
              show Code.wp _ _ _ _ _
              replace F := F.cut [(21, .int .i64 8), (20, .bool false), (19, .pointer (some ⟨V4, 0, none⟩)), (18, .int .i64 ((0 : Nat) : Int)), (17, .slice (some ⟨ZN, 0, none⟩) 2 2), (16, .int .i64 ((0 : Nat) : Int)), (15, .bool false), (13, .pointer (some ⟨X, 0, none⟩)), (12, .pointer (some ⟨HX, 0, none⟩))] (by kernel_rfl)
              refine wp_seq ?_
              refine wp_region_lit ?_
              refine fr_ch F 9 [(162, .pointer (some ⟨ZN, 0, none⟩)), (161, .int .i64 ((0 : Nat) : Int)), (160, .slice (some ⟨ZN, 0, none⟩) 2 2), (159, .bool false), (158, .bool false), (157, .bool false), (156, .int .i64 8), (155, .bool false), (154, .bool false)] (by kernel_rfl) ?_
              clear F a9
              intro a9 F
              refine fr_do F (by rw [wanted_at F rfl (t := 159) (b := false) (by kernel_rfl) rfl]; rfl) 163 rfl (by decide) (.pointer none) (by intro a' F'; have h162 := F'.at' 162 _ rfl; have hc : w9.cell? ⟨ZN, 0, none⟩ = some (.pointer none) := (by obtain ⟨b, o, h1, h2⟩ := (HK.rowAt 0 rfl) 0 _ rfl; injection h1 with h1; injection h1 with h3 h4 _; subst h3 h4; exact h2); go_simp) ?_
              clear F a9
              intro a9 F
              refine fr_call F (by rw [wanted_at F rfl (t := 159) (b := false) (by kernel_rfl) rfl]; rfl) 164 rfl (by decide) 21 #[.pointer none] (by intro a' F'; have h163 := F'.at' 163 _ rfl; go_simp) (frame_Left_nil _) ?_
              rintro e9 w8 ⟨rfl, rfl⟩
              refine ⟨_, rfl, ?_⟩
              clear F a9
              intro a9 F
              refine fr_ch F 3 [(167, .bool false), (166, .bool false), (165, .bool false)] (by kernel_rfl) ?_
              clear F a9
              intro a9 F
              refine fr_do F (by rw [wanted_at F rfl (t := 167) (b := false) (by kernel_rfl) rfl]; rfl) 168 rfl (by decide) (.agg (pkV Pk.zero none 0)) (by intro a' F'; exact run_load_box rfl (F'.ev 19 rfl) (HK.at 0 rfl) Tryd.underlying27 rfl infoPk) ?_
              clear F a9
              intro a9 F
              refine fr_ch F 1 [(169, .agg (pkV Pk.zero none 0))] (by kernel_rfl) ?_
              clear F a9
              intro a9 F
              refine fr_call F (by rw [wanted_at F rfl (t := 167) (b := false) (by kernel_rfl) rfl]; rfl) 170 rfl (by decide) 24 #[.agg (pkV Pk.zero none 0), .agg (pkV Pk.zero none 0)] (by intro a' F'; have h168 := F'.at' 168 _ rfl; have h169 := F'.at' 169 _ rfl; go_simp) (HZS.out _ HK.env) ?_
              rintro e9 w8 ⟨rfl, hb8⟩
              replace HK := HK.below hb8
              clear hb8
              clear w9
              rename World => w9
              refine ⟨_, rfl, ?_⟩
              clear F a9
              intro a9 F
              refine fr_ch F 2 [(172, .bool false), (171, .bool false)] (by kernel_rfl) ?_
              clear F a9
              intro a9 F
              refine wpList_nil ?_
              show Code.wp _ _ _ _ _
              refine wp_cond_false (F.ev 172 rfl) ?_
              refine wp_skip ?_
              exact ⟨(((((((FrL.nil F.size F.defers).add 12 _ (F.at' 12 _ rfl)).add 13 _ (F.at' 13 _ rfl)).add 15 _ (F.at' 15 _ rfl)).add 16 _ (F.at' 16 _ rfl)).add 17 _ (F.at' 17 _ rfl)).add 18 _ (F.at' 18 _ rfl)), HK.sub (List.sublist_cons_self _ _) (fun r hr => hr)⟩
            · skip
              refine wp_seq ?_
              refine wp_region_lit ?_
              refine fr_mv F (wanted_free rfl) 140 rfl (by decide) 17 rfl rfl ?_
              clear F a9
              intro a9 F
              refine fr_mv F (wanted_free rfl) 141 rfl (by decide) 18 rfl rfl ?_
              clear F a9
              intro a9 F
              refine fr_ch F 1 [(142, .pointer (some ⟨ZN, 1, none⟩))] (by kernel_rfl) ?_
              clear F a9
              intro a9 F
              refine fr_do F (wanted_free rfl) 143 rfl (by decide) (.pointer (some ⟨N, 0, none⟩)) (by intro a' F'; have h142 := F'.at' 142 _ rfl; have hc : w9.cell? ⟨ZN, 1, none⟩ = some (.pointer (some ⟨N, 0, none⟩)) := (by obtain ⟨b, o, h1, h2⟩ := (HK.rowAt 0 rfl) 1 _ rfl; injection h1 with h1; injection h1 with h3 h4 _; subst h3 h4; exact h2); go_simp) ?_
              clear F a9
              intro a9 F
              refine fr_call F (wanted_free rfl) 144 rfl (by decide) 19 #[.pointer (some ⟨N, 0, none⟩), .string ⟨#[192, 0]⟩] (by intro a' F'; have h143 := F'.at' 143 _ rfl; go_simp) (frame_Push_zero (HK.sub (List.Sublist.refl _) (by intro r hr; cases hr)) ⟨#[192, 0]⟩) ?_
              rintro e9 w8 ⟨rfl, rfl⟩
              refine ⟨_, rfl, ?_⟩
              clear F a9
              intro a9 F
              refine wpList_nil ?_
              show Code.wp _ _ _ _ _
              replace F := F.cut [(18, .int .i64 ((1 : Nat) : Int)), (17, .slice (some ⟨ZN, 0, none⟩) 2 2), (16, .int .i64 ((0 : Nat) : Int)), (15, .bool false), (13, .pointer (some ⟨X, 0, none⟩)), (12, .pointer (some ⟨HX, 0, none⟩))] (by kernel_rfl)
              refine wp_seq ?_
              refine wp_region_lit ?_
              refine fr_ch F 3 [(148, .pointer (some ⟨ZN, 1, none⟩))] (by kernel_rfl) ?_
              clear F a9
              intro a9 F
              refine fr_do F (wanted_free rfl) 149 rfl (by decide) (.pointer (some ⟨N, 0, none⟩)) (by intro a' F'; have h148 := F'.at' 148 _ rfl; have hc : w9.cell? ⟨ZN, 1, none⟩ = some (.pointer (some ⟨N, 0, none⟩)) := (by obtain ⟨b, o, h1, h2⟩ := (HK.rowAt 0 rfl) 1 _ rfl; injection h1 with h1; injection h1 with h3 h4 _; subst h3 h4; exact h2); go_simp) ?_
              clear F a9
              intro a9 F
              refine fr_call F (wanted_free rfl) 150 rfl (by decide) 20 #[.pointer (some ⟨N, 0, none⟩)] (by intro a' F'; have h149 := F'.at' 149 _ rfl; go_simp) (frame_Next_zero (HK.at 0 rfl) (Keep.begin HK.env [] (by intro r hr; cases hr))) ?_
              rintro e9 w8 ⟨rfl, hb8⟩
              replace HK := HK.below hb8
              clear hb8
              clear w9
              rename World => w9
              refine ⟨_, rfl, ?_⟩
              clear F a9
              intro a9 F
              refine fr_mv F (wanted_free rfl) 145 rfl (by decide) 150 rfl rfl ?_
              clear F a9
              intro a9 F
              refine fr_ch F 3 [(153, .int .i64 8), (152, .bool false), (151, .agg (pkV Pk.zero none 0))] (by kernel_rfl) ?_
              clear F a9
              intro a9 F
              obtain ⟨i0, hi, hz0, hz1, hz2⟩ := info_parts infoPkR
              refine fr_new F HK 19 (by decide) rfl 27 rfl rfl rfl (.tmp 151) rfl rfl i0 _ hi hz0 (cells := (pkV Pk.zero none 0)) hz1 rfl (pk_one _ _ _) (fun a' Y F' => F'.ev 151 rfl) ?_
              rintro V4 a10 w10 hX F' HK' hb
              clear HK F hb hX hi hz0 hz1 hz2 i0
              clear a9 w9
              rename World => w9
              rename Act => a9
              have HK := HK'
              have F := F'
              clear HK' F'
              refine fr_as F (wanted_free rfl) 20 rfl (by decide) 152 rfl rfl ?_
              clear F a9
              intro a9 F
              refine fr_as F (wanted_free rfl) 21 rfl (by decide) 153 rfl rfl ?_
              clear F a9
              intro a9 F
              refine wpList_nil ?_
              show Code.wp _ _ _ _ _
              replace F := F.cut [(21, .int .i64 8), (20, .bool false), (19, .pointer (some ⟨V4, 0, none⟩)), (18, .int .i64 ((1 : Nat) : Int)), (17, .slice (some ⟨ZN, 0, none⟩) 2 2), (16, .int .i64 ((0 : Nat) : Int)), (15, .bool false), (13, .pointer (some ⟨X, 0, none⟩)), (12, .pointer (some ⟨HX, 0, none⟩))] (by kernel_rfl)
              refine wp_seq ?_
              refine wp_region_lit ?_
              refine fr_ch F 9 [(162, .pointer (some ⟨ZN, 1, none⟩)), (159, .bool false)] (by kernel_rfl) ?_
              clear F a9
              intro a9 F
              refine fr_do F (by rw [wanted_at F rfl (t := 159) (b := false) (by kernel_rfl) rfl]; rfl) 163 rfl (by decide) (.pointer (some ⟨N, 0, none⟩)) (by intro a' F'; have h162 := F'.at' 162 _ rfl; have hc : w9.cell? ⟨ZN, 1, none⟩ = some (.pointer (some ⟨N, 0, none⟩)) := (by obtain ⟨b, o, h1, h2⟩ := (HK.rowAt 0 rfl) 1 _ rfl; injection h1 with h1; injection h1 with h3 h4 _; subst h3 h4; exact h2); go_simp) ?_
              clear F a9
              intro a9 F
              refine fr_call F (by rw [wanted_at F rfl (t := 159) (b := false) (by kernel_rfl) rfl]; rfl) 164 rfl (by decide) 21 #[.pointer (some ⟨N, 0, none⟩)] (by intro a' F'; have h163 := F'.at' 163 _ rfl; go_simp) (frame_Left2 (HK.sub (List.sublist_cons_self _ _) (by intro r hr; cases hr))) ?_
              rintro e9 w8 ⟨rfl, rfl⟩
              refine ⟨_, rfl, ?_⟩
              clear F a9
              intro a9 F
              refine fr_ch F 3 [(167, .bool false), (166, .bool false), (165, .bool false)] (by kernel_rfl) ?_
              clear F a9
              intro a9 F
              refine fr_do F (by rw [wanted_at F rfl (t := 167) (b := false) (by kernel_rfl) rfl]; rfl) 168 rfl (by decide) (.agg (pkV Pk.zero none 0)) (by intro a' F'; exact run_load_box rfl (F'.ev 19 rfl) (HK.at 0 rfl) Tryd.underlying27 rfl infoPk) ?_
              clear F a9
              intro a9 F
              refine fr_ch F 1 [(169, .agg (pkV Pk.zero none 0))] (by kernel_rfl) ?_
              clear F a9
              intro a9 F
              refine fr_call F (by rw [wanted_at F rfl (t := 167) (b := false) (by kernel_rfl) rfl]; rfl) 170 rfl (by decide) 24 #[.agg (pkV Pk.zero none 0), .agg (pkV Pk.zero none 0)] (by intro a' F'; have h168 := F'.at' 168 _ rfl; have h169 := F'.at' 169 _ rfl; go_simp) (HZS.out _ HK.env) ?_
              rintro e9 w8 ⟨rfl, hb8⟩
              replace HK := HK.below hb8
              clear hb8
              clear w9
              rename World => w9
              refine ⟨_, rfl, ?_⟩
              clear F a9
              intro a9 F
              refine fr_ch F 2 [(172, .bool false), (171, .bool false)] (by kernel_rfl) ?_
              clear F a9
              intro a9 F
              refine wpList_nil ?_
              show Code.wp _ _ _ _ _
              refine wp_cond_false (F.ev 172 rfl) ?_
              refine wp_skip ?_
              exact ⟨(((((((FrL.nil F.size F.defers).add 12 _ (F.at' 12 _ rfl)).add 13 _ (F.at' 13 _ rfl)).add 15 _ (F.at' 15 _ rfl)).add 16 _ (F.at' 16 _ rfl)).add 17 _ (F.at' 17 _ rfl)).add 18 _ (F.at' 18 _ rfl)), HK.sub (List.sublist_cons_self _ _) (fun r hr => hr)⟩
          · clear F HK a9 w9
            rintro a9 w9 ⟨F, HK⟩
            show Code.wp _ _ _ _ _
            refine wp_region_lit ?_
            refine fr_mv F (wanted_free rfl) 138 rfl (by decide) 18 rfl rfl ?_
            clear F a9
            intro a9 F
            refine fr_do F (wanted_free rfl) 139 rfl (by decide) (.int .i64 ((k + 1 : Nat) : Int)) (by intro a' F'; have h138 := F'.at' 138 _ rfl; go_simp <;> (rw [IntKind.wrap_i64]; omega)) ?_
            clear F a9
            intro a9 F
            refine fr_ch F 1 [(18, .int .i64 ((k + 1 : Nat) : Int))] (by kernel_rfl) ?_
            clear F a9
            intro a9 F
            refine wpList_nil ?_
            replace F := F.cut [(18, .int .i64 ((k + 1 : Nat) : Int)), (17, .slice (some ⟨ZN, 0, none⟩) 2 2), (16, .int .i64 ((0 : Nat) : Int)), (15, .bool false), (13, .pointer (some ⟨X, 0, none⟩)), (12, .pointer (some ⟨HX, 0, none⟩))] (by kernel_rfl)
            refine ⟨⟨k + 1, by omega, F, HK⟩, ?_⟩
            rw [muI_at F 18 (k + 1) rfl]
            omega
        · skip
          refine wp_region_lit ?_
          refine fr_mv F (wanted_free rfl) 134 rfl (by decide) 18 rfl rfl ?_
          clear F a9
          intro a9 F
          refine fr_ch F 2 [(136, .int .i64 2)] (by kernel_rfl) ?_
          clear F a9
          intro a9 F
          refine fr_do F (wanted_free rfl) 137 rfl (by decide) (.bool false) (by intro a' F'; have h134 := F'.at' 134 _ rfl; have h136 := F'.at' 136 _ rfl; go_simp <;> omega) ?_
          clear F a9
          intro a9 F
          refine wpList_nil ?_
          show Code.wp _ _ _ _ _
          refine wp_cond_false (F.ev 137 rfl) ?_
          refine wp_exit ?_
          exact then_exit (then_exit (exit_in ⟨(((((FrL.nil F.size F.defers).add 12 _ (F.at' 12 _ rfl)).add 13 _ (F.at' 13 _ rfl)).add 15 _ (F.at' 15 _ rfl)).add 16 _ (F.at' 16 _ rfl)), HK.low⟩))
      · clear F HK a9 w9
        rintro a9 w9 ⟨F, HBW⟩
        show Code.wp _ _ _ _ _
        obtain ⟨aL, cL, HKL, HOL⟩ := HLT.out _ HBW
        obtain ⟨aH, cH, HKH, HOH⟩ := HH.out _ HBW
        have hup : wl.heap.size ≤ X := HKL.up _ (List.mem_cons_self ..)
        have HK2 := Keep.withBox HKH (X, frV 16 aL ([48, 128] : Bs).length cL 0, 54) (HKL.at 0 rfl) (by simp only; omega) (by
          intro x hx
          simp at hx
          subst hx
          simp only
          omega)
        have HFC : FrC wh [(X, frV 16 aL ([48, 128] : Bs).length cL 0, 54)] HX 16 [16, 128, 1] 0 w9 := ⟨aH, cH, HK2.swap, HOH⟩
        have HB2 : ∀ x ∈ [(X, frV 16 aL ([48, 128] : Bs).length cL 0, 54)], x.2.2 ≠ 5 := by
          intro x hx
          simp at hx
          subst hx
          exact (by decide : 54 ≠ 5)
        have HB3 : ∀ x ∈ [(X, frV 16 aL ([48, 128] : Bs).length cL 0, 54)], x.2.2 ≠ 51 := by
          intro x hx
          simp at hx
          subst hx
          exact (by decide : 54 ≠ 51)
        clear HKL HOL HKH HOH HK2 HBW
        refine wp_seq ?_
        refine wp_region_lit ?_
        refine fr_mv F (wanted_free rfl) 173 rfl (by decide) 12 rfl rfl ?_
        clear F a9
        intro a9 F
        refine fr_call F (wanted_free rfl) 174 rfl (by decide) 23 #[.pointer (some ⟨HX, 0, none⟩)] (by intro a' F'; have h173 := F'.at' 173 _ rfl; go_simp) (drain_free HFC (by decide) (by decide) HB2 HB3 (of_decide_eq_true (by kernel_rfl))) ?_
        rintro e9 w8 ⟨T, aT, cT, rfl, HT, HS, hTm, hfc, hon⟩
        obtain ⟨B9, hB9⟩ : ∃ B9, w9.heap.size = B9 := ⟨_, rfl⟩
        rw [hB9] at HT HS
        clear HFC hon hB9
        clear w9
        rename World => w9
        have HFC := hfc
        clear hfc
        have HTM := Lib.hid (hTm.trans (show toldR 16 [16, 128, 1] = (kE 3).map tp from by kernel_rfl))
        clear hTm
        refine ⟨_, rfl, ?_⟩
        clear F a9
        intro a9 F
        refine fr_ch F 1 [(175, .agg (tdC ((Pk.zero, none, 0), 3)).toArray)] (by kernel_rfl) ?_
        clear F a9
        intro a9 F
        obtain ⟨i0, hi, hz0, hz1, hz2⟩ := info_parts infoTold
        refine fr_doW F (wanted_free rfl) 176 rfl (by decide) (.slice (some ⟨w9.heap.size, 0, none⟩) 1 1) (w9.alloc (.cells (tdCells (kE 3)).toArray 51)) (fun a' F' => run_slice1 48 51 _ rfl (tdCells (kE 3)).toArray (F'.ev 175 rfl) i0 _ Tryd.underlying48 hi hz0 (by rw [hz1]; decide) (by rw [hz1]; decide) (by rw [hz1]; kernel_rfl)) ?_
        clear F a9
        intro a9 F
        have hb8 : Below w9.heap.size w9 (w9.alloc (.cells (tdCells (kE 3)).toArray 51)) := (Below.refl _ _).alloc (Nat.le_refl _) _
        replace HFC := HFC.below hb8
        replace HT := own_only HT (Only.of_below hb8 (fun _ => False)) (fun _ _ h => h)
        replace HS := HS.below hb8
        have HN : CellsA (w9.alloc (.cells (tdCells (kE 3)).toArray 51)) (some ⟨w9.heap.size, 0, none⟩) (tdCells (kE 3)) := cells_new
        obtain ⟨Z, hZ⟩ : ∃ Z, w9.heap.size = Z := ⟨_, rfl⟩
        rw [hZ] at HN F
        clear hb8 hZ hi hz0 hz1 hz2 i0
        generalize w9.alloc (.cells (tdCells (kE 3)).toArray 51) = w8 at *
        clear w9
        rename World => w9
        refine fr_call F (wanted_free rfl) 177 rfl (by decide) 22 #[.slice aT T.length cT, .slice (some ⟨Z, 0, none⟩) (kE 3).length 1] (by intro a' F'; have h174 := F'.at' 174 _ rfl; have h176 := F'.at' 176 _ rfl; go_simp <;> rfl) (same_known HFC.env HT HS (some ⟨Z, 0, none⟩) 1 (kE 3) HN (kE_ok 3) (HTM.out) (by decide)) ?_
        rintro e9 w8 ⟨rfl, hb8⟩
        replace HFC := HFC.below hb8
        clear hb8 HT HS HN
        clear w9
        rename World => w9
        refine ⟨_, rfl, ?_⟩
        clear F a9
        intro a9 F
        refine fr_mv F (wanted_free rfl) 178 rfl (by decide) 177 rfl rfl ?_
        clear F a9
        intro a9 F
        refine fr_mv F (by rw [wanted_at F rfl (t := 178) (b := true) (by kernel_rfl) rfl]; rfl) 179 rfl (by decide) 15 rfl rfl ?_
        clear F a9
        intro a9 F
        refine fr_ch F 3 [(182, .bool true), (181, .bool true), (180, .bool true)] (by kernel_rfl) ?_
        clear F a9
        intro a9 F
        refine fr_mv F (by rw [wanted_at F rfl (t := 182) (b := true) (by kernel_rfl) rfl]; rfl) 183 rfl (by decide) 16 rfl rfl ?_
        clear F a9
        intro a9 F
        refine fr_ch F 3 [(186, .bool true), (185, .bool true), (184, .bool true)] (by kernel_rfl) ?_
        clear F a9
        intro a9 F
        refine fr_mv F (by rw [wanted_at F rfl (t := 186) (b := true) (by kernel_rfl) rfl]; rfl) 187 rfl (by decide) 13 rfl rfl ?_
        clear F a9
        intro a9 F
        refine fr_call F (by rw [wanted_at F rfl (t := 186) (b := true) (by kernel_rfl) rfl]; rfl) 188 rfl (by decide) 21 #[.pointer (some ⟨X, 0, none⟩)] (by intro a' F'; have h187 := F'.at' 187 _ rfl; go_simp) ((by obtain ⟨a5, c5, h5, _⟩ := HFC; exact frame_Left2 h5.swap)) ?_
        rintro e9 w8 ⟨rfl, rfl⟩
        refine ⟨_, rfl, ?_⟩
        clear F a9
        intro a9 F
        refine fr_ch F 3 [(191, .bool true), (190, .bool true), (189, .bool true)] (by kernel_rfl) ?_
        clear F a9
        intro a9 F
        refine fr_call F (by rw [wanted_at F rfl (t := 191) (b := true) (by kernel_rfl) rfl]; rfl) 192 rfl (by decide) 25 #[] (by intro a' F'; go_simp) (law06_awake _ HFC.env) ?_
        rintro e9 w8 ⟨rfl, hb8⟩
        replace HFC := HFC.below hb8
        clear hb8
        clear w9
        rename World => w9
        refine ⟨_, rfl, ?_⟩
        clear F a9
        intro a9 F
        refine fr_ch F 2 [(0, .bool true), (193, .bool true)] (by kernel_rfl) ?_
        clear F a9
        intro a9 F
        refine wpList_nil ?_
        show Code.wp _ _ _ _ _
        refine wp_ret ?_
        exact fr_ret1 F rfl _ rfl (FIN.out _ (HBX.trans (HFC.low.mono HBX.size)))
end Go.Proofs.YtfljdlaelanliaaDoor
