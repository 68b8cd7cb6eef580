/- The walk of law06's drain. Conditions: the framer's cells lie in a block of the caller's own, its bytes are a row of its own; a machine's bound on their size; the decoder's tables lie as Go lays them. -/
import Derived.Test.YtfljdlaelanliaaDoorFrameC
import Derived.Test.YtfljdlaelanliaaDoorWriteAll
namespace Go.Proofs.YtfljdlaelanliaaDoor
open Go.RowKit
/-- What was told: a packet, where its filters lie, an error. -/
abbrev TdE := PkE × Nat
def tdC (x : TdE) : List Value := (pkV x.1.1 x.1.2.1 x.1.2.2).toList ++ [.int .i64 (x.2 : Int)]
def tdCells (T : List TdE) : List Value := T.flatMap tdC
def tp (x : TdE) : Pk × Nat := (x.1.1, x.2)
theorem tdC_len (x : TdE) : (tdC x).length = 25 := rfl
theorem tdC_one (x : TdE) : ∀ u ∈ tdC x, u.oneCell' = true := by
  intro u hu
  unfold tdC at hu
  rcases List.mem_append.1 hu with h | h
  · exact (Array.all_eq_true_iff_forall_mem.1 (pk_one x.1.1 x.1.2.1 x.1.2.2)) u (by simpa using h)
  · simp at h
    subst h
    rfl
theorem tdCells_snoc (T : List TdE) (x : TdE) : tdCells (T ++ [x]) = tdCells T ++ tdC x := by unfold tdCells; simp
theorem infoTold : (Tryd.prog.info? 51).map (fun i => (i.zero, i.size, i.bytes)) = some (some (.agg (tdC ((Pk.zero, none, 0), 0)).toArray), 25, 208) := by kernel_rfl
def SubsIn (w : World) (Bs : Nat) (T : List TdE) : Prop := ∀ x ∈ T, w.ownsRow Bs 31 2 (.slice x.1.2.1 x.1.1.subs.length x.1.2.2) x.1.1.subs.length (subCells x.1.1.subs)
theorem SubsIn.only {E : TypeId → Prop} {w w' : World} {Bs : Nat} {T : List TdE} (h : SubsIn w Bs T) (k : OnlyT E w w') (hE : ¬ E 31) : SubsIn w' Bs T := fun x hx => k.own (h x hx) hE
theorem SubsIn.below {w w' : World} {Bs : Nat} {T : List TdE} (h : SubsIn w Bs T) (k : Below w.heap.size w w') : SubsIn w' Bs T := fun x hx => own_only (h x hx) (Only.of_below k (fun _ => False)) (fun _ _ h => h)
theorem OnlyT.high {E : TypeId → Prop} {w w9 w10 : World} {G : Nat → Prop} (h : OnlyT E w w9) (k : Only G w9 w10) (hG : ∀ j, G j → w.heap.size ≤ j) : OnlyT E w w10 :=
  Only.trans h k (fun j hj hg => absurd hj (by have := hG j hg; omega))
theorem Keep.grownBox {w0 w w' : World} {L : List Box} (HK : Keep w0 L [] w) {Bs n size : Nat} {e : TypeId} {v : Value} {xs : List Value} (ho : w.ownsRow Bs e size v n xs) (hBs : w0.heap.size ≤ Bs) (hgr : w.grownBy w' v.ownBlock) (hL : ∀ x ∈ L, x.2.2 ≠ e) : Keep w0 L [] w' :=
  HK.grown hgr (fun g hg => Nat.le_trans hBs (own_lt ho hg).2) (fun g hg x hx e => BoxAt.ne_own (HK.box x hx) ho (Ne.symm (hL x hx)) g hg e) (fun r hr => by cases hr)
theorem own_grownE {w w' : World} {B B' n n' size size' : Nat} {e e' : TypeId} {x v : Value} {xs ys : List Value} (h : w.ownsRow B e size x n xs) (ho : w.ownsRow B' e' size' v n' ys) (hgr : w.grownBy w' v.ownBlock) (hne : e ≠ e') : w'.ownsRow B e size x n xs :=
  (OnlyT.grown (E := fun t => t = e') ho rfl hgr).own h hne
/-- All that drain tells. -/
def toldR (m : Nat) (L : Bs) : List (Pk × Nat) := (tellR m L).1.map (fun p => (p, 0)) ++ (if (tellR m L).2.2 ≠ 0 then [(Pk.zero, (tellR m L).2.2)] else [])
def RetDr (w0 : World) (B : List Box) (X m : Nat) (T0 : List (Pk × Nat)) (L : Bs) (e : Nat) (w : World) (r : Ending) (w' : World) : Prop :=
  ∃ (T : List TdE) (a : Option Addr) (c : Nat), r = .returned (.slice a T.length c) ∧ w'.ownsRow w.heap.size 51 25 (.slice a T.length c) T.length (tdCells T) ∧ SubsIn w' w.heap.size T ∧ T.map tp = T0 ∧ FrC w0 B X m L e w' ∧ OnlyT FrE w w'
def muF (X : Nat) (w : World) : Nat := match w.cell? ⟨X, 1, none⟩ with | some (.slice _ n _) => n | _ => 0
theorem muF_at {w0 w : World} {B : List Box} {X m e : Nat} {L : Bs} (h : FrC w0 B X m L e w) : muF X w = L.length := by
  obtain ⟨a, c, h1, _⟩ := h
  have hc : w.cell? ⟨X, 1, none⟩ = some (.slice a L.length c) := (h1.at 0 rfl).cells 1
  unfold muF
  rw [hc]
theorem nfre (t : TypeId) (h1 : t ≠ 5) (h2 : t ≠ 54) : ¬ FrE t := fun h => h.elim h1 h2
set_option maxRecDepth 100000 in
set_option maxHeartbeats 4000000 in
theorem drain_stuck {w0 w : World} {B : List Box} {X m : Nat} {L : Bs} (e : Nat) (he : e ≠ 0) (h : FrC w0 B X m L e w) (hm : 0 < m) (hL : L.length ≤ 90000000) (hB : ∀ x ∈ B, x.2.2 ≠ 5) (hB2 : ∀ x ∈ B, x.2.2 ≠ 51) : Calls Tryd.prog 23 #[.pointer (some ⟨X, 0, none⟩)] w (RetDr w0 B X m ([(Pk.zero, e)]) (L) (e) w) := by
  have HBase : w0.heap.size ≤ w.heap.size := h.low.size
  have HFC := h
  obtain ⟨RR, hRR⟩ : ∃ RR : Ending → World → Prop, RR = RetDr w0 B X m ([(Pk.zero, e)]) (L) (e) w := ⟨_, rfl⟩
  have FIN := Lib.hid (show ∀ w' (T : List TdE) (a : Option Addr) (c : Nat), w'.ownsRow w.heap.size 51 25 (.slice a T.length c) T.length (tdCells T) → SubsIn w' w.heap.size T → T.map tp = [(Pk.zero, e)] → FrC w0 B X m (L) (e) w' → OnlyT FrE w w' → RR (.returned (.slice a T.length c)) w' from fun w' T a c h1 h2 h3 h4 h5 => by
    rw [hRR]
    exact ⟨T, a, c, rfl, h1, h2, h3, h4, h5⟩)
  rw [← hRR]
  obtain ⟨w9, hw9⟩ : ∃ w9, w9 = w := ⟨_, rfl⟩
  rw [← hw9] at HFC
  suffices hgo : Calls Tryd.prog 23 #[.pointer (some ⟨X, 0, none⟩)] w9 RR by rw [hw9] at hgo; exact hgo
  have HON : OnlyT FrE w w9 := by rw [hw9]; exact OnlyT.refl _ _
  clear hw9 hRR h
  have HNX := Lib.hid (show ∀ w9, FrC w0 B X m L e w9 → Calls Tryd.prog 20 #[.pointer (some ⟨X, 0, none⟩)] w9 (RetNx w0 B X m (Pk.zero, false, e, L, e) w9) from fun w9 h => by
    have h2 := frame_Next h hm hL hB
    unfold nxR at h2
    rw [if_pos he] at h2
    exact h2)
  have hen : ((e : Int) != 0) = true := by rw [bne_iff_ne]; omega
  obtain ⟨T, hTT⟩ : ∃ T : List TdE, T = [] := ⟨_, rfl⟩
  have HT : w9.ownsRow w.heap.size 51 25 (.slice none T.length 0) T.length (tdCells T) := by rw [hTT]; exact World.ownsRow_nil _ _ _ _
  have HS : SubsIn w9 w.heap.size T := by rw [hTT]; intro x hx; cases hx
  obtain ⟨aT, cT, haT, hcT⟩ : ∃ (aT : Option Addr) (cT : Nat), none = aT ∧ 0 = cT := ⟨_, _, rfl, rfl⟩
  rw [haT, hcT] at HT
  go_enter Tryd.func23, Tryd.ntmps23
  refine wp_forget (n := 35) (L := [(0, .pointer (some ⟨X, 0, none⟩))]) (FrL.add (FrL.nil ?_ ?_) _ _ ?_) ?_
  iterate 3 rfl
  intro a9 F
  refine wp_seq ?_
  refine wp_region_lit ?_
  refine fr_ch F 1 [(2, .slice none 0 0)] (by kernel_rfl) ?_
  clear F a9
  intro a9 F
  refine wpList_nil ?_
  show Code.wp _ _ _ _ _
  refine wp_seq ?_
  refine wp_region_lit ?_
  refine fr_ch F 1 [(3, .slice none 0 0)] (by kernel_rfl) ?_
  clear F a9
  intro a9 F
  refine wpList_nil ?_
  show Code.wp _ _ _ _ _
  have hT0 : T.length = 0 := by rw [hTT]; rfl
  have HF3 := F.at' 3 _ rfl
  replace F : FrL 35 [(3, .slice aT T.length cT), (0, .pointer (some ⟨X, 0, none⟩))] a9 := ((FrL.nil F.size F.defers).add 0 _ (F.at' 0 _ rfl)).add 3 _ (by rw [← haT, ← hcT, hT0]; exact HF3)
  clear HF3
  have HTT := Lib.hid hTT
  clear hTT haT hcT hT0
  refine wp_block ?_
  have hTl : T.length ≤ 70000 := by rw [HTT.out]; exact Nat.zero_le _
  obtain ⟨I, hI⟩ : ∃ I : Act → World → Prop, I = fun a' w' => FrL 35 [(3, .slice aT T.length cT), (0, .pointer (some ⟨X, 0, none⟩))] a' ∧ FrC w0 B X m L e w' ∧ w'.ownsRow w.heap.size 51 25 (.slice aT T.length cT) T.length (tdCells T) ∧ SubsIn w' w.heap.size T ∧ OnlyT FrE w w' := ⟨_, rfl⟩
  refine wp_loop I (fun _ _ => 0) (by rw [hI]; exact ⟨F, HFC, HT, HS, HON⟩) ?_
  clear F HFC HT HS HON a9 w9
  intro a9 w9 hII
  rw [hI] at hII
  obtain ⟨F, HFC, HT, HS, HON⟩ := hII
  clear hI
  refine wp_block ?_
  refine wp_seq ?_
  refine wp_region_lit ?_
  refine fr_ch F 1 [(8, .pointer (some ⟨X, 0, none⟩))] (by kernel_rfl) ?_
  clear F a9
  intro a9 F
  refine fr_call F (wanted_free rfl) 9 rfl (by decide) 20 #[.pointer (some ⟨X, 0, none⟩)] (by intro a' F'; have h8 := F'.at' 8 _ rfl; go_simp) (HNX.out _ HFC) ?_
  rintro e9 w8 ⟨al, cap, rfl, hsub, hfc, hon⟩
  have HTn := hon.own HT (nfre _ (by decide) (by decide))
  have HSn := HS.only hon (nfre _ (by decide) (by decide))
  have hsub2 := own_base hsub HON.size
  have HONn := HON.trans hon
  clear hsub hon HT HS HON HFC
  clear w9
  rename World => w9
  have HT := HTn
  have HS := HSn
  have HON := HONn
  have HSUB := hsub2
  clear HTn HSn HONn hsub2
  obtain ⟨a, c, HK, HO⟩ := hfc
  refine ⟨_, rfl, ?_⟩
  clear F a9
  intro a9 F
  refine fr_ch F 4 [(12, .int .i64 (e : Int)), (11, .bool false), (10, .agg (pkV Pk.zero al cap)), (7, .tuple #[.agg (pkV Pk.zero al cap), .bool false, .int .i64 (e : Int)])] (by kernel_rfl) ?_
  clear F a9
  intro a9 F
  obtain ⟨i0, hi, hz0, hz1, hz2⟩ := info_parts infoPkR
  refine fr_new F HK 4 (by decide) rfl 27 rfl rfl rfl (.tmp 10) rfl rfl i0 _ hi hz0 (cells := (pkV Pk.zero al cap)) hz1 rfl (pk_one _ _ _) (fun a' Y F' => F'.ev 10 rfl) ?_
  rintro P a10 w10 hX F' HK' hb
  replace HO := HO.below hb
  replace HT := own_only HT (Only.of_below hb (fun _ => False)) (fun _ _ h => h)
  replace HSUB := own_only HSUB (Only.of_below hb (fun _ => False)) (fun _ _ h => h)
  replace HS := HS.below hb
  replace HON := HON.then hb
  clear HK F hb hX hi hz0 hz1 hz2 i0
  clear a9 w9
  rename World => w9
  rename Act => a9
  have HK := HK'
  have F := F'
  clear HK' F'
  replace HK : Keep w0 ((P, (pkV Pk.zero al cap), 27) :: (X, (frV m a (L).length c e), 54) :: B) [] w9 := HK
  refine fr_ch F 2 [(6, .int .i64 (e : Int)), (5, .bool false)] (by kernel_rfl) ?_
  clear F a9
  intro a9 F
  refine wpList_nil ?_
  show Code.wp _ _ _ _ _
  replace F := F.cut [(6, .int .i64 (e : Int)), (5, .bool false), (4, .pointer (some ⟨P, 0, none⟩)), (3, .slice aT T.length cT), (0, .pointer (some ⟨X, 0, none⟩))] (by kernel_rfl)
  refine wp_seq ?_
  refine wp_seq ?_
  refine wp_region_lit ?_
  refine fr_ch F 1 [(13, .bool false)] (by kernel_rfl) ?_
  clear F a9
  intro a9 F
  refine wpList_nil ?_
  show Code.wp _ _ _ _ _
  refine wp_cond_false (F.ev 13 rfl) ?_
  refine wp_skip ?_
  show Code.wp _ _ _ _ _
  replace F := F.cut [(6, .int .i64 (e : Int)), (5, .bool false), (4, .pointer (some ⟨P, 0, none⟩)), (3, .slice aT T.length cT), (0, .pointer (some ⟨X, 0, none⟩))] (by kernel_rfl)
  refine wp_seq ?_
  refine wp_seq ?_
  refine wp_region_lit ?_
  refine fr_ch F 1 [(20, .int .i64 (e : Int))] (by kernel_rfl) ?_
  clear F a9
  intro a9 F
  refine fr_do F (wanted_free rfl) 21 rfl (by decide) (.bool true) (by intro a' F'; have h20 := F'.at' 20 _ rfl; go_simp) ?_
  clear F a9
  intro a9 F
  refine wpList_nil ?_
  show Code.wp _ _ _ _ _
  refine wp_cond_true (F.ev 21 rfl) ?_
  replace F := F.cut [(6, .int .i64 (e : Int)), (5, .bool false), (4, .pointer (some ⟨P, 0, none⟩)), (3, .slice aT T.length cT), (0, .pointer (some ⟨X, 0, none⟩))] (by kernel_rfl)
  refine wp_seq ?_
  refine wp_region_lit ?_
  refine fr_ch F 3 [(24, .agg (tdC ((Pk.zero, none, 0), e)).toArray), (22, .slice aT T.length cT)] (by kernel_rfl) ?_
  clear F a9
  intro a9 F
  obtain ⟨i0, hi, hz0, hz1, hz2⟩ := info_parts infoTold
  refine fr_doW F (wanted_free rfl) 25 rfl (by decide) (.slice (some ⟨w9.heap.size, 0, none⟩) 1 1) (w9.alloc (.cells (tdC ((Pk.zero, none, 0), e)).toArray 51)) (fun a' F' => run_slice1 48 51 _ rfl (tdC ((Pk.zero, none, 0), e)).toArray (F'.ev 24 rfl) i0 _ Tryd.underlying48 hi hz0 (by rw [hz1]; decide) (by rw [hz1]; decide) (by rw [hz1]; kernel_rfl)) ?_
  clear F a9
  intro a9 F
  have hb8 : Below w9.heap.size w9 (w9.alloc (.cells (tdC ((Pk.zero, none, 0), e)).toArray 51)) := (Below.refl _ _).alloc (Nat.le_refl _) _
  have hnr : CellsA (w9.alloc (.cells (tdC ((Pk.zero, none, 0), e)).toArray 51)) (some ⟨w9.heap.size, 0, none⟩) (tdC ((Pk.zero, none, 0), e)) := cells_new
  replace HK := HK.below hb8
  replace HO := HO.below hb8
  replace HT := own_only HT (Only.of_below hb8 (fun _ => False)) (fun _ _ h => h)
  replace HSUB := own_only HSUB (Only.of_below hb8 (fun _ => False)) (fun _ _ h => h)
  replace HS := HS.below hb8
  replace HON := HON.then hb8
  obtain ⟨Z, hZ⟩ : ∃ Z, w9.heap.size = Z := ⟨_, rfl⟩
  rw [hZ] at hnr F
  clear hb8 hZ
  generalize w9.alloc (.cells (tdC ((Pk.zero, none, 0), e)).toArray 51) = w8 at *
  clear w9
  rename World => w9
  refine fr_appendP F rfl 26 rfl (by decide) (.tmp 22) (.tmp 25) 48 rfl w.heap.size 51 i0 _ 25 208 Tryd.underlying48 hi hz0 hz1 hz2 rfl (by decide) (.slice aT T.length cT) T.length (tdCells T) (F.ev 22 rfl) HT (some ⟨Z, 0, none⟩) 1 1 (fun h => by cases h) (tdC ((Pk.zero, none, 0), e)) (F.ev 25 rfl) rfl hnr (tdC_one _) (by unfold maxLen; omega) (by omega) HON.size ?_
  intro v8 w8 hown hgr
  clear hi hz0 hz1 hz2 i0 hnr
  have HK2 := HK.grownBox HT HBase hgr (by
    intro x hx
    rcases List.mem_cons.1 hx with rfl | hx
    · exact (by decide : 27 ≠ 51)
    rcases List.mem_cons.1 hx with rfl | hx
    · exact (by decide : 54 ≠ 51)
    · exact hB2 x hx)
  have HO2 := own_grownE HO HT hgr (by decide)
  have HSUB2 := own_grownE HSUB HT hgr (by decide)
  have HS2 : SubsIn w8 w.heap.size T := fun x hx => own_grownE (HS x hx) HT hgr (by decide)
  have HON2 := HON.high (only_grown hgr) (fun j hj => (own_lt HT hj).2)
  obtain ⟨a3, c3, hv8, hx1, hx2⟩ := own_form hown
  clear hx1 hx2
  subst hv8
  clear HK HO HSUB HS HON HT hgr
  clear w9
  rename World => w9
  have HK := HK2
  have HO := HO2
  have HSUB := HSUB2
  have HS := HS2
  have HON := HON2
  have HT := hown
  clear HK2 HO2 HSUB2 HS2 HON2 hown
  intro a10 F'
  clear F a9
  rename Act => a9
  have F := F'
  clear F'
  have HT2 : w9.ownsRow w.heap.size 51 25 (.slice a3 (T ++ [((Pk.zero, none, 0), e)]).length c3) (T ++ [((Pk.zero, none, 0), e)]).length (tdCells (T ++ [((Pk.zero, none, 0), e)])) := by
    rw [tdCells_snoc, List.length_append]
    exact HT
  clear HT
  have HT := HT2
  clear HT2
  refine fr_ch F 1 [(2, .slice a3 (T.length + 1) c3)] (by kernel_rfl) ?_
  clear F a9
  intro a9 F
  refine wpList_nil ?_
  show Code.wp _ _ _ _ _
  have hfin := FIN.out w9 (T ++ [((Pk.zero, none, 0), e)]) a3 c3 HT (by
    intro x hx
    rcases List.mem_append.1 hx with hx | hx
    · exact HS x hx
    · simp at hx
      subst hx
      exact World.ownsRow_nil _ _ _ _) (by rw [List.map_append, HTT.out]; rfl) ⟨a, c, (HK.sub (List.sublist_cons_self _ _) (fun r hr => hr)), HO⟩ HON
  rw [List.length_append] at hfin
  refine wp_ret ?_
  exact fr_ret1 F rfl _ rfl (hfin)
set_option maxRecDepth 100000 in
set_option maxHeartbeats 4000000 in
theorem drain_free {w0 w : World} {B : List Box} {X m : Nat} {L : Bs} (h : FrC w0 B X m L 0 w) (hm : 0 < m) (hL : L.length ≤ 90000000) (hB : ∀ x ∈ B, x.2.2 ≠ 5) (hB2 : ∀ x ∈ B, x.2.2 ≠ 51) (hc : (tellR m L).1.length ≤ 70000) : Calls Tryd.prog 23 #[.pointer (some ⟨X, 0, none⟩)] w (RetDr w0 B X m (toldR m L) ((tellR m L).2.1) ((tellR m L).2.2) w) := by
  have HBase : w0.heap.size ≤ w.heap.size := h.low.size
  have HFC := h
  obtain ⟨RR, hRR⟩ : ∃ RR : Ending → World → Prop, RR = RetDr w0 B X m (toldR m L) ((tellR m L).2.1) ((tellR m L).2.2) w := ⟨_, rfl⟩
  have FIN := Lib.hid (show ∀ w' (T : List TdE) (a : Option Addr) (c : Nat), w'.ownsRow w.heap.size 51 25 (.slice a T.length c) T.length (tdCells T) → SubsIn w' w.heap.size T → T.map tp = toldR m L → FrC w0 B X m ((tellR m L).2.1) ((tellR m L).2.2) w' → OnlyT FrE w w' → RR (.returned (.slice a T.length c)) w' from fun w' T a c h1 h2 h3 h4 h5 => by
    rw [hRR]
    exact ⟨T, a, c, rfl, h1, h2, h3, h4, h5⟩)
  rw [← hRR]
  obtain ⟨w9, hw9⟩ : ∃ w9, w9 = w := ⟨_, rfl⟩
  rw [← hw9] at HFC
  suffices hgo : Calls Tryd.prog 23 #[.pointer (some ⟨X, 0, none⟩)] w9 RR by rw [hw9] at hgo; exact hgo
  have HON : OnlyT FrE w w9 := by rw [hw9]; exact OnlyT.refl _ _
  clear hw9 hRR h
  go_enter Tryd.func23, Tryd.ntmps23
  refine wp_forget (n := 35) (L := [(0, .pointer (some ⟨X, 0, none⟩))]) (FrL.add (FrL.nil ?_ ?_) _ _ ?_) ?_
  iterate 3 rfl
  intro a9 F
  refine wp_seq ?_
  refine wp_region_lit ?_
  refine fr_ch F 1 [(2, .slice none 0 0)] (by kernel_rfl) ?_
  clear F a9
  intro a9 F
  refine wpList_nil ?_
  show Code.wp _ _ _ _ _
  refine wp_seq ?_
  refine wp_region_lit ?_
  refine fr_ch F 1 [(3, .slice none 0 0)] (by kernel_rfl) ?_
  clear F a9
  intro a9 F
  refine wpList_nil ?_
  show Code.wp _ _ _ _ _
  replace F := F.cut [(3, .slice none 0 0), (0, .pointer (some ⟨X, 0, none⟩))] (by kernel_rfl)
  refine wp_block ?_
  refine wp_loop (fun a' w' => ∃ (T : List TdE) (aT : Option Addr) (cT : Nat) (L2 : Bs), FrL 35 [(3, .slice aT T.length cT), (0, .pointer (some ⟨X, 0, none⟩))] a' ∧ FrC w0 B X m L2 0 w' ∧ w'.ownsRow w.heap.size 51 25 (.slice aT T.length cT) T.length (tdCells T) ∧ SubsIn w' w.heap.size T ∧ OnlyT FrE w w' ∧ T.map tp ++ toldR m L2 = toldR m L ∧ (tellR m L2).2 = (tellR m L).2 ∧ L2.length ≤ L.length ∧ T.length + (tellR m L2).1.length = (tellR m L).1.length) (fun _ w' => muF X w') ⟨[], none, 0, L, F, HFC, World.ownsRow_nil _ _ _ _, (by intro x hx; cases hx), HON, rfl, rfl, Nat.le_refl _, by simp⟩ ?_
  clear F HFC HON a9 w9
  rintro a9 w9 ⟨T, aT, cT, L2, F, HFC, HT, HS, HON, hq1, hq2, hq3, hq4⟩
  rw [muF_at HFC]
  have HQ := Lib.hid (And.intro hq1 hq2)
  clear hq1 hq2
  have hTl : T.length ≤ 70000 := by omega
  have hL2 : L2.length ≤ 90000000 := by omega
  refine wp_block ?_
  rcases hn : nextR m L2 with ⟨q, t, e2⟩
  cases q
  · have htn := tell_none hn
    have HNX := Lib.hid (show ∀ w9, FrC w0 B X m L2 0 w9 → Calls Tryd.prog 20 #[.pointer (some ⟨X, 0, none⟩)] w9 (RetNx w0 B X m (Pk.zero, false, e2, t, e2) w9) from fun w9 h => by
      have h2 := frame_Next h hm hL2 hB
      unfold nxR at h2
      rw [if_neg (by simp), hn] at h2
      exact h2)
    by_cases he2 : e2 = 0
    · subst he2
      obtain ⟨_, rfl⟩ | ⟨h9, _⟩ := next_none hn
      rotate_left
      · exact absurd rfl h9
      refine wp_seq ?_
      refine wp_region_lit ?_
      refine fr_ch F 1 [(8, .pointer (some ⟨X, 0, none⟩))] (by kernel_rfl) ?_
      clear F a9
      intro a9 F
      refine fr_call F (wanted_free rfl) 9 rfl (by decide) 20 #[.pointer (some ⟨X, 0, none⟩)] (by intro a' F'; have h8 := F'.at' 8 _ rfl; go_simp) (HNX.out _ HFC) ?_
      rintro e9 w8 ⟨al, cap, rfl, hsub, hfc, hon⟩
      have HTn := hon.own HT (nfre _ (by decide) (by decide))
      have HSn := HS.only hon (nfre _ (by decide) (by decide))
      have hsub2 := own_base hsub HON.size
      have HONn := HON.trans hon
      clear hsub hon HT HS HON HFC
      clear w9
      rename World => w9
      have HT := HTn
      have HS := HSn
      have HON := HONn
      have HSUB := hsub2
      clear HTn HSn HONn hsub2
      obtain ⟨a, c, HK, HO⟩ := hfc
      refine ⟨_, rfl, ?_⟩
      clear F a9
      intro a9 F
      refine fr_ch F 4 [(12, .int .i64 ((0 : Nat) : Int)), (11, .bool false), (10, .agg (pkV Pk.zero al cap)), (7, .tuple #[.agg (pkV Pk.zero al cap), .bool false, .int .i64 ((0 : Nat) : Int)])] (by kernel_rfl) ?_
      clear F a9
      intro a9 F
      obtain ⟨i0, hi, hz0, hz1, hz2⟩ := info_parts infoPkR
      refine fr_new F HK 4 (by decide) rfl 27 rfl rfl rfl (.tmp 10) rfl rfl i0 _ hi hz0 (cells := (pkV Pk.zero al cap)) hz1 rfl (pk_one _ _ _) (fun a' Y F' => F'.ev 10 rfl) ?_
      rintro P a10 w10 hX F' HK' hb
      replace HO := HO.below hb
      replace HT := own_only HT (Only.of_below hb (fun _ => False)) (fun _ _ h => h)
      replace HSUB := own_only HSUB (Only.of_below hb (fun _ => False)) (fun _ _ h => h)
      replace HS := HS.below hb
      replace HON := HON.then hb
      clear HK F hb hX hi hz0 hz1 hz2 i0
      clear a9 w9
      rename World => w9
      rename Act => a9
      have HK := HK'
      have F := F'
      clear HK' F'
      replace HK : Keep w0 ((P, (pkV Pk.zero al cap), 27) :: (X, (frV m a (t).length c 0), 54) :: B) [] w9 := HK
      refine fr_ch F 2 [(6, .int .i64 ((0 : Nat) : Int)), (5, .bool false)] (by kernel_rfl) ?_
      clear F a9
      intro a9 F
      refine wpList_nil ?_
      show Code.wp _ _ _ _ _
      replace F := F.cut [(6, .int .i64 ((0 : Nat) : Int)), (5, .bool false), (4, .pointer (some ⟨P, 0, none⟩)), (3, .slice aT T.length cT), (0, .pointer (some ⟨X, 0, none⟩))] (by kernel_rfl)
      refine wp_seq ?_
      refine wp_seq ?_
      refine wp_region_lit ?_
      refine fr_ch F 1 [(13, .bool false)] (by kernel_rfl) ?_
      clear F a9
      intro a9 F
      refine wpList_nil ?_
      show Code.wp _ _ _ _ _
      refine wp_cond_false (F.ev 13 rfl) ?_
      refine wp_skip ?_
      show Code.wp _ _ _ _ _
      replace F := F.cut [(6, .int .i64 ((0 : Nat) : Int)), (5, .bool false), (4, .pointer (some ⟨P, 0, none⟩)), (3, .slice aT T.length cT), (0, .pointer (some ⟨X, 0, none⟩))] (by kernel_rfl)
      refine wp_seq ?_
      refine wp_seq ?_
      refine wp_region_lit ?_
      refine fr_ch F 2 [(21, .bool false), (20, .int .i64 ((0 : Nat) : Int))] (by kernel_rfl) ?_
      clear F a9
      intro a9 F
      refine wpList_nil ?_
      show Code.wp _ _ _ _ _
      refine wp_cond_false (F.ev 21 rfl) ?_
      refine wp_skip ?_
      show Code.wp _ _ _ _ _
      replace F := F.cut [(6, .int .i64 ((0 : Nat) : Int)), (5, .bool false), (4, .pointer (some ⟨P, 0, none⟩)), (3, .slice aT T.length cT), (0, .pointer (some ⟨X, 0, none⟩))] (by kernel_rfl)
      refine wp_seq ?_
      refine wp_region_lit ?_
      refine fr_ch F 7 [(33, .bool true), (32, undef), (31, undef), (30, undef), (29, .bool true), (28, .bool true), (27, .bool false)] (by kernel_rfl) ?_
      clear F a9
      intro a9 F
      refine wpList_nil ?_
      show Code.wp _ _ _ _ _
      refine wp_cond_true (F.ev 33 rfl) ?_
      replace F := F.cut [(3, .slice aT T.length cT), (0, .pointer (some ⟨X, 0, none⟩))] (by kernel_rfl)
      refine wp_seq ?_
      refine wp_region_lit ?_
      refine fr_ch F 2 [(2, .slice aT T.length cT)] (by kernel_rfl) ?_
      clear F a9
      intro a9 F
      refine wpList_nil ?_
      show Code.wp _ _ _ _ _
      have hqq := HQ.out
      have e1 : toldR m t = [] := by unfold toldR; rw [htn]; rfl
      rw [e1, List.append_nil, htn] at hqq
      have hfin := FIN.out w9 T aT cT HT HS hqq.1 (by rw [← hqq.2]; exact ⟨a, c, (HK.sub (List.sublist_cons_self _ _) (fun r hr => hr)), HO⟩) HON
      refine wp_ret ?_
      exact fr_ret1 F rfl _ rfl (hfin)
    · have hen : ((e2 : Int) != 0) = true := by rw [bne_iff_ne]; omega
      obtain ⟨h9, _⟩ | ⟨_, rfl⟩ := next_none hn
      · exact absurd h9 he2
      refine wp_seq ?_
      refine wp_region_lit ?_
      refine fr_ch F 1 [(8, .pointer (some ⟨X, 0, none⟩))] (by kernel_rfl) ?_
      clear F a9
      intro a9 F
      refine fr_call F (wanted_free rfl) 9 rfl (by decide) 20 #[.pointer (some ⟨X, 0, none⟩)] (by intro a' F'; have h8 := F'.at' 8 _ rfl; go_simp) (HNX.out _ HFC) ?_
      rintro e9 w8 ⟨al, cap, rfl, hsub, hfc, hon⟩
      have HTn := hon.own HT (nfre _ (by decide) (by decide))
      have HSn := HS.only hon (nfre _ (by decide) (by decide))
      have hsub2 := own_base hsub HON.size
      have HONn := HON.trans hon
      clear hsub hon HT HS HON HFC
      clear w9
      rename World => w9
      have HT := HTn
      have HS := HSn
      have HON := HONn
      have HSUB := hsub2
      clear HTn HSn HONn hsub2
      obtain ⟨a, c, HK, HO⟩ := hfc
      refine ⟨_, rfl, ?_⟩
      clear F a9
      intro a9 F
      refine fr_ch F 4 [(12, .int .i64 (e2 : Int)), (11, .bool false), (10, .agg (pkV Pk.zero al cap)), (7, .tuple #[.agg (pkV Pk.zero al cap), .bool false, .int .i64 (e2 : Int)])] (by kernel_rfl) ?_
      clear F a9
      intro a9 F
      obtain ⟨i0, hi, hz0, hz1, hz2⟩ := info_parts infoPkR
      refine fr_new F HK 4 (by decide) rfl 27 rfl rfl rfl (.tmp 10) rfl rfl i0 _ hi hz0 (cells := (pkV Pk.zero al cap)) hz1 rfl (pk_one _ _ _) (fun a' Y F' => F'.ev 10 rfl) ?_
      rintro P a10 w10 hX F' HK' hb
      replace HO := HO.below hb
      replace HT := own_only HT (Only.of_below hb (fun _ => False)) (fun _ _ h => h)
      replace HSUB := own_only HSUB (Only.of_below hb (fun _ => False)) (fun _ _ h => h)
      replace HS := HS.below hb
      replace HON := HON.then hb
      clear HK F hb hX hi hz0 hz1 hz2 i0
      clear a9 w9
      rename World => w9
      rename Act => a9
      have HK := HK'
      have F := F'
      clear HK' F'
      replace HK : Keep w0 ((P, (pkV Pk.zero al cap), 27) :: (X, (frV m a ([]).length c e2), 54) :: B) [] w9 := HK
      refine fr_ch F 2 [(6, .int .i64 (e2 : Int)), (5, .bool false)] (by kernel_rfl) ?_
      clear F a9
      intro a9 F
      refine wpList_nil ?_
      show Code.wp _ _ _ _ _
      replace F := F.cut [(6, .int .i64 (e2 : Int)), (5, .bool false), (4, .pointer (some ⟨P, 0, none⟩)), (3, .slice aT T.length cT), (0, .pointer (some ⟨X, 0, none⟩))] (by kernel_rfl)
      refine wp_seq ?_
      refine wp_seq ?_
      refine wp_region_lit ?_
      refine fr_ch F 1 [(13, .bool false)] (by kernel_rfl) ?_
      clear F a9
      intro a9 F
      refine wpList_nil ?_
      show Code.wp _ _ _ _ _
      refine wp_cond_false (F.ev 13 rfl) ?_
      refine wp_skip ?_
      show Code.wp _ _ _ _ _
      replace F := F.cut [(6, .int .i64 (e2 : Int)), (5, .bool false), (4, .pointer (some ⟨P, 0, none⟩)), (3, .slice aT T.length cT), (0, .pointer (some ⟨X, 0, none⟩))] (by kernel_rfl)
      refine wp_seq ?_
      refine wp_seq ?_
      refine wp_region_lit ?_
      refine fr_ch F 1 [(20, .int .i64 (e2 : Int))] (by kernel_rfl) ?_
      clear F a9
      intro a9 F
      refine fr_do F (wanted_free rfl) 21 rfl (by decide) (.bool true) (by intro a' F'; have h20 := F'.at' 20 _ rfl; go_simp) ?_
      clear F a9
      intro a9 F
      refine wpList_nil ?_
      show Code.wp _ _ _ _ _
      refine wp_cond_true (F.ev 21 rfl) ?_
      replace F := F.cut [(6, .int .i64 (e2 : Int)), (5, .bool false), (4, .pointer (some ⟨P, 0, none⟩)), (3, .slice aT T.length cT), (0, .pointer (some ⟨X, 0, none⟩))] (by kernel_rfl)
      refine wp_seq ?_
      refine wp_region_lit ?_
      refine fr_ch F 3 [(24, .agg (tdC ((Pk.zero, none, 0), e2)).toArray), (22, .slice aT T.length cT)] (by kernel_rfl) ?_
      clear F a9
      intro a9 F
      obtain ⟨i0, hi, hz0, hz1, hz2⟩ := info_parts infoTold
      refine fr_doW F (wanted_free rfl) 25 rfl (by decide) (.slice (some ⟨w9.heap.size, 0, none⟩) 1 1) (w9.alloc (.cells (tdC ((Pk.zero, none, 0), e2)).toArray 51)) (fun a' F' => run_slice1 48 51 _ rfl (tdC ((Pk.zero, none, 0), e2)).toArray (F'.ev 24 rfl) i0 _ Tryd.underlying48 hi hz0 (by rw [hz1]; decide) (by rw [hz1]; decide) (by rw [hz1]; kernel_rfl)) ?_
      clear F a9
      intro a9 F
      have hb8 : Below w9.heap.size w9 (w9.alloc (.cells (tdC ((Pk.zero, none, 0), e2)).toArray 51)) := (Below.refl _ _).alloc (Nat.le_refl _) _
      have hnr : CellsA (w9.alloc (.cells (tdC ((Pk.zero, none, 0), e2)).toArray 51)) (some ⟨w9.heap.size, 0, none⟩) (tdC ((Pk.zero, none, 0), e2)) := cells_new
      replace HK := HK.below hb8
      replace HO := HO.below hb8
      replace HT := own_only HT (Only.of_below hb8 (fun _ => False)) (fun _ _ h => h)
      replace HSUB := own_only HSUB (Only.of_below hb8 (fun _ => False)) (fun _ _ h => h)
      replace HS := HS.below hb8
      replace HON := HON.then hb8
      obtain ⟨Z, hZ⟩ : ∃ Z, w9.heap.size = Z := ⟨_, rfl⟩
      rw [hZ] at hnr F
      clear hb8 hZ
      generalize w9.alloc (.cells (tdC ((Pk.zero, none, 0), e2)).toArray 51) = w8 at *
      clear w9
      rename World => w9
      refine fr_appendP F rfl 26 rfl (by decide) (.tmp 22) (.tmp 25) 48 rfl w.heap.size 51 i0 _ 25 208 Tryd.underlying48 hi hz0 hz1 hz2 rfl (by decide) (.slice aT T.length cT) T.length (tdCells T) (F.ev 22 rfl) HT (some ⟨Z, 0, none⟩) 1 1 (fun h => by cases h) (tdC ((Pk.zero, none, 0), e2)) (F.ev 25 rfl) rfl hnr (tdC_one _) (by unfold maxLen; omega) (by omega) HON.size ?_
      intro v8 w8 hown hgr
      clear hi hz0 hz1 hz2 i0 hnr
      have HK2 := HK.grownBox HT HBase hgr (by
        intro x hx
        rcases List.mem_cons.1 hx with rfl | hx
        · exact (by decide : 27 ≠ 51)
        rcases List.mem_cons.1 hx with rfl | hx
        · exact (by decide : 54 ≠ 51)
        · exact hB2 x hx)
      have HO2 := own_grownE HO HT hgr (by decide)
      have HSUB2 := own_grownE HSUB HT hgr (by decide)
      have HS2 : SubsIn w8 w.heap.size T := fun x hx => own_grownE (HS x hx) HT hgr (by decide)
      have HON2 := HON.high (only_grown hgr) (fun j hj => (own_lt HT hj).2)
      obtain ⟨a3, c3, hv8, hx1, hx2⟩ := own_form hown
      clear hx1 hx2
      subst hv8
      clear HK HO HSUB HS HON HT hgr
      clear w9
      rename World => w9
      have HK := HK2
      have HO := HO2
      have HSUB := HSUB2
      have HS := HS2
      have HON := HON2
      have HT := hown
      clear HK2 HO2 HSUB2 HS2 HON2 hown
      intro a10 F'
      clear F a9
      rename Act => a9
      have F := F'
      clear F'
      have HT2 : w9.ownsRow w.heap.size 51 25 (.slice a3 (T ++ [((Pk.zero, none, 0), e2)]).length c3) (T ++ [((Pk.zero, none, 0), e2)]).length (tdCells (T ++ [((Pk.zero, none, 0), e2)])) := by
        rw [tdCells_snoc, List.length_append]
        exact HT
      clear HT
      have HT := HT2
      clear HT2
      refine fr_ch F 1 [(2, .slice a3 (T.length + 1) c3)] (by kernel_rfl) ?_
      clear F a9
      intro a9 F
      refine wpList_nil ?_
      show Code.wp _ _ _ _ _
      have hqq := HQ.out
      have e1 : toldR m L2 = [(Pk.zero, e2)] := by unfold toldR; rw [htn]; simp [he2]
      rw [e1, htn] at hqq
      have hfin := FIN.out w9 (T ++ [((Pk.zero, none, 0), e2)]) a3 c3 HT (by
        intro x hx
        rcases List.mem_append.1 hx with hx | hx
        · exact HS x hx
        · simp at hx
          subst hx
          exact World.ownsRow_nil _ _ _ _) (by rw [List.map_append]; exact hqq.1) (by rw [← hqq.2]; exact ⟨a, c, (HK.sub (List.sublist_cons_self _ _) (fun r hr => hr)), HO⟩) HON
      rw [List.length_append] at hfin
      refine wp_ret ?_
      exact fr_ret1 F rfl _ rfl (hfin)
  · rename_i p
    have hts := tell_some hn
    have hsh := next_short hn
    obtain ⟨he2, _⟩ := next_some hn
    subst he2
    have HNX := Lib.hid (show ∀ w9, FrC w0 B X m L2 0 w9 → Calls Tryd.prog 20 #[.pointer (some ⟨X, 0, none⟩)] w9 (RetNx w0 B X m (p, true, 0, t, 0) w9) from fun w9 h => by
      have h2 := frame_Next h hm hL2 hB
      unfold nxR at h2
      rw [if_neg (by simp), hn] at h2
      exact h2)
    refine wp_seq ?_
    refine wp_region_lit ?_
    refine fr_ch F 1 [(8, .pointer (some ⟨X, 0, none⟩))] (by kernel_rfl) ?_
    clear F a9
    intro a9 F
    refine fr_call F (wanted_free rfl) 9 rfl (by decide) 20 #[.pointer (some ⟨X, 0, none⟩)] (by intro a' F'; have h8 := F'.at' 8 _ rfl; go_simp) (HNX.out _ HFC) ?_
    rintro e9 w8 ⟨al, cap, rfl, hsub, hfc, hon⟩
    have HTn := hon.own HT (nfre _ (by decide) (by decide))
    have HSn := HS.only hon (nfre _ (by decide) (by decide))
    have hsub2 := own_base hsub HON.size
    have HONn := HON.trans hon
    clear hsub hon HT HS HON HFC
    clear w9
    rename World => w9
    have HT := HTn
    have HS := HSn
    have HON := HONn
    have HSUB := hsub2
    clear HTn HSn HONn hsub2
    obtain ⟨a, c, HK, HO⟩ := hfc
    refine ⟨_, rfl, ?_⟩
    clear F a9
    intro a9 F
    refine fr_ch F 4 [(12, .int .i64 ((0 : Nat) : Int)), (11, .bool true), (10, .agg (pkV p al cap)), (7, .tuple #[.agg (pkV p al cap), .bool true, .int .i64 ((0 : Nat) : Int)])] (by kernel_rfl) ?_
    clear F a9
    intro a9 F
    obtain ⟨i0, hi, hz0, hz1, hz2⟩ := info_parts infoPkR
    refine fr_new F HK 4 (by decide) rfl 27 rfl rfl rfl (.tmp 10) rfl rfl i0 _ hi hz0 (cells := (pkV p al cap)) hz1 rfl (pk_one _ _ _) (fun a' Y F' => F'.ev 10 rfl) ?_
    rintro P a10 w10 hX F' HK' hb
    replace HO := HO.below hb
    replace HT := own_only HT (Only.of_below hb (fun _ => False)) (fun _ _ h => h)
    replace HSUB := own_only HSUB (Only.of_below hb (fun _ => False)) (fun _ _ h => h)
    replace HS := HS.below hb
    replace HON := HON.then hb
    clear HK F hb hX hi hz0 hz1 hz2 i0
    clear a9 w9
    rename World => w9
    rename Act => a9
    have HK := HK'
    have F := F'
    clear HK' F'
    replace HK : Keep w0 ((P, (pkV p al cap), 27) :: (X, (frV m a (t).length c 0), 54) :: B) [] w9 := HK
    refine fr_ch F 2 [(6, .int .i64 ((0 : Nat) : Int)), (5, .bool true)] (by kernel_rfl) ?_
    clear F a9
    intro a9 F
    refine wpList_nil ?_
    show Code.wp _ _ _ _ _
    replace F := F.cut [(6, .int .i64 ((0 : Nat) : Int)), (5, .bool true), (4, .pointer (some ⟨P, 0, none⟩)), (3, .slice aT T.length cT), (0, .pointer (some ⟨X, 0, none⟩))] (by kernel_rfl)
    refine wp_seq ?_
    refine wp_seq ?_
    refine wp_region_lit ?_
    refine fr_ch F 1 [(13, .bool true)] (by kernel_rfl) ?_
    clear F a9
    intro a9 F
    refine wpList_nil ?_
    show Code.wp _ _ _ _ _
    refine wp_cond_true (F.ev 13 rfl) ?_
    replace F := F.cut [(6, .int .i64 ((0 : Nat) : Int)), (5, .bool true), (4, .pointer (some ⟨P, 0, none⟩)), (3, .slice aT T.length cT), (0, .pointer (some ⟨X, 0, none⟩))] (by kernel_rfl)
    refine wp_region_lit ?_
    refine fr_ch F 1 [(14, .slice aT T.length cT)] (by kernel_rfl) ?_
    clear F a9
    intro a9 F
    refine fr_do F (wanted_free rfl) 15 rfl (by decide) (.agg ((pkV p al cap))) (by intro a' F'; exact run_load_box rfl (F'.ev 4 rfl) (HK.at 0 rfl) Tryd.underlying27 rfl infoPk) ?_
    clear F a9
    intro a9 F
    refine fr_ch F 2 [(17, .agg (tdC ((p, al, cap), 0)).toArray), (16, .int .i64 ((0 : Nat) : Int))] (by kernel_rfl) ?_
    clear F a9
    intro a9 F
    obtain ⟨i0, hi, hz0, hz1, hz2⟩ := info_parts infoTold
    refine fr_doW F (wanted_free rfl) 18 rfl (by decide) (.slice (some ⟨w9.heap.size, 0, none⟩) 1 1) (w9.alloc (.cells (tdC ((p, al, cap), 0)).toArray 51)) (fun a' F' => run_slice1 48 51 _ rfl (tdC ((p, al, cap), 0)).toArray (F'.ev 17 rfl) i0 _ Tryd.underlying48 hi hz0 (by rw [hz1]; decide) (by rw [hz1]; decide) (by rw [hz1]; kernel_rfl)) ?_
    clear F a9
    intro a9 F
    have hb8 : Below w9.heap.size w9 (w9.alloc (.cells (tdC ((p, al, cap), 0)).toArray 51)) := (Below.refl _ _).alloc (Nat.le_refl _) _
    have hnr : CellsA (w9.alloc (.cells (tdC ((p, al, cap), 0)).toArray 51)) (some ⟨w9.heap.size, 0, none⟩) (tdC ((p, al, cap), 0)) := cells_new
    replace HK := HK.below hb8
    replace HO := HO.below hb8
    replace HT := own_only HT (Only.of_below hb8 (fun _ => False)) (fun _ _ h => h)
    replace HSUB := own_only HSUB (Only.of_below hb8 (fun _ => False)) (fun _ _ h => h)
    replace HS := HS.below hb8
    replace HON := HON.then hb8
    obtain ⟨Z, hZ⟩ : ∃ Z, w9.heap.size = Z := ⟨_, rfl⟩
    rw [hZ] at hnr F
    clear hb8 hZ
    generalize w9.alloc (.cells (tdC ((p, al, cap), 0)).toArray 51) = w8 at *
    clear w9
    rename World => w9
    refine fr_appendP F rfl 19 rfl (by decide) (.tmp 14) (.tmp 18) 48 rfl w.heap.size 51 i0 _ 25 208 Tryd.underlying48 hi hz0 hz1 hz2 rfl (by decide) (.slice aT T.length cT) T.length (tdCells T) (F.ev 14 rfl) HT (some ⟨Z, 0, none⟩) 1 1 (fun h => by cases h) (tdC ((p, al, cap), 0)) (F.ev 18 rfl) rfl hnr (tdC_one _) (by unfold maxLen; omega) (by omega) HON.size ?_
    intro v8 w8 hown hgr
    clear hi hz0 hz1 hz2 i0 hnr
    have HK2 := HK.grownBox HT HBase hgr (by
      intro x hx
      rcases List.mem_cons.1 hx with rfl | hx
      · exact (by decide : 27 ≠ 51)
      rcases List.mem_cons.1 hx with rfl | hx
      · exact (by decide : 54 ≠ 51)
      · exact hB2 x hx)
    have HO2 := own_grownE HO HT hgr (by decide)
    have HSUB2 := own_grownE HSUB HT hgr (by decide)
    have HS2 : SubsIn w8 w.heap.size T := fun x hx => own_grownE (HS x hx) HT hgr (by decide)
    have HON2 := HON.high (only_grown hgr) (fun j hj => (own_lt HT hj).2)
    obtain ⟨a3, c3, hv8, hx1, hx2⟩ := own_form hown
    clear hx1 hx2
    subst hv8
    clear HK HO HSUB HS HON HT hgr
    clear w9
    rename World => w9
    have HK := HK2
    have HO := HO2
    have HSUB := HSUB2
    have HS := HS2
    have HON := HON2
    have HT := hown
    clear HK2 HO2 HSUB2 HS2 HON2 hown
    intro a10 F'
    clear F a9
    rename Act => a9
    have F := F'
    clear F'
    have HT2 : w9.ownsRow w.heap.size 51 25 (.slice a3 (T ++ [((p, al, cap), 0)]).length c3) (T ++ [((p, al, cap), 0)]).length (tdCells (T ++ [((p, al, cap), 0)])) := by
      rw [tdCells_snoc, List.length_append]
      exact HT
    clear HT
    have HT := HT2
    clear HT2
    refine fr_ch F 1 [(3, .slice a3 (T.length + 1) c3)] (by kernel_rfl) ?_
    clear F a9
    intro a9 F
    refine wpList_nil ?_
    show Code.wp _ _ _ _ _
    replace F := F.cut [(6, .int .i64 ((0 : Nat) : Int)), (5, .bool true), (3, .slice a3 (T.length + 1) c3), (0, .pointer (some ⟨X, 0, none⟩))] (by kernel_rfl)
    refine wp_seq ?_
    refine wp_seq ?_
    refine wp_region_lit ?_
    refine fr_ch F 2 [(21, .bool false)] (by kernel_rfl) ?_
    clear F a9
    intro a9 F
    refine wpList_nil ?_
    show Code.wp _ _ _ _ _
    refine wp_cond_false (F.ev 21 rfl) ?_
    refine wp_skip ?_
    show Code.wp _ _ _ _ _
    replace F := F.cut [(5, .bool true), (3, .slice a3 (T.length + 1) c3), (0, .pointer (some ⟨X, 0, none⟩))] (by kernel_rfl)
    have hcnt : T.length + 1 ≤ 70000 := by rw [hts] at hq4; simp at hq4; omega
    refine wp_seq ?_
    refine wp_region_lit ?_
    refine fr_ch F 5 [(31, .int .i64 ((T.length + 1 : Nat) : Int)), (29, .bool false)] (by kernel_rfl) ?_
    clear F a9
    intro a9 F
    refine fr_do F (by rw [wanted_at F rfl (t := 29) (b := false) (by kernel_rfl) rfl]; rfl) 32 rfl (by decide) (.bool false) (by intro a' F'; have h31 := F'.at' 31 _ rfl; go_simp <;> omega) ?_
    clear F a9
    intro a9 F
    refine fr_ch F 1 [(33, .bool false)] (by kernel_rfl) ?_
    clear F a9
    intro a9 F
    refine wpList_nil ?_
    show Code.wp _ _ _ _ _
    refine wp_cond_false (F.ev 33 rfl) ?_
    refine wp_skip ?_
    have hqq := HQ.out
    have HFC : FrC w0 B X m t 0 w9 := ⟨a, c, (HK.sub (List.sublist_cons_self _ _) (fun r hr => hr)), HO⟩
    refine ⟨⟨T ++ [((p, al, cap), 0)], a3, c3, t, ?_, HFC, HT, ?_, HON, ?_, ?_, by omega, ?_⟩, ?_⟩
    · rw [List.length_append]
      exact (((FrL.nil F.size F.defers).add 0 _ (F.at' 0 _ rfl)).add 3 _ (F.at' 3 _ rfl))
    · intro x hx
      rcases List.mem_append.1 hx with hx | hx
      · exact HS x hx
      · simp at hx
        subst hx
        exact HSUB
    · rw [← hqq.1]
      unfold toldR
      rw [hts]
      simp [tp]
    · rw [← hqq.2, hts]
    · rw [List.length_append]
      rw [hts] at hq4
      simp at hq4 ⊢
      omega
    · rw [muF_at HFC]
      omega
end Go.Proofs.YtfljdlaelanliaaDoor
