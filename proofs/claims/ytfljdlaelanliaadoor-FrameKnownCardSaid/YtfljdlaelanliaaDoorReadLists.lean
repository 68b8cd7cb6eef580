/- The walk of the rest's lists (package read). Conditions: the rest's cells lie in a block of the caller's own; a machine's bound on the text's size; the decoder's tables lie as Go lays them. -/
import Derived.Test.YtfljdlaelanliaaDoorReadCon
import Derived.Test.YtfljdlaelanliaaDoorJoinF
import Derived.Test.YtfljdlaelanliaaDoorJoinA
namespace Go.Proofs.YtfljdlaelanliaaDoor
open Go.RowKit
theorem Keep.perm {w0 w : World} {L L' : List Box} {R : List Row} (h : Keep w0 L R w) (p : L'.Perm L) : Keep w0 L' R w :=
  ⟨h.env0, h.low, fun x hx => h.box x (p.subset hx), fun x hx => h.up x (p.subset hx), (p.map _).nodup_iff.2 h.nod, h.row, fun r hr hne x hx => h.apart r hr hne x (p.subset hx)⟩
theorem Keep.swap {w0 w : World} {a b : Box} {L : List Box} {R : List Row} (h : Keep w0 (a :: b :: L) R w) : Keep w0 (b :: a :: L) R w := h.perm (List.Perm.swap ..)
section
variable {P : Program} {a : Act} {w : World} {Q : Exit → Act → World → Prop}
theorem wp_block_end {id : Nat} {c : Code} (K : Act → World → Prop) (h : c.wp P (Exit.inBlock id (Exit.then K Q)) a w) (h2 : ∀ a' w', K a' w' → Q .normal a' w') : (Code.block id c).wp P Q a w :=
  wp_block (Code.wp_mono (fun e a w q => by
    cases e with
    | normal => exact h2 _ _ q
    | exit i =>
      unfold Exit.inBlock at q ⊢
      simp only at q ⊢
      split
      · rename_i hi
        rw [if_pos hi] at q
        exact h2 _ _ q
      · rename_i hi
        rw [if_neg hi] at q
        exact q
    | goto l => exact q
    | ret => exact q
    | panic c => exact q
    | outgrown => exact q) h)
theorem then_exit {K : Act → World → Prop} {i : Nat} (h : Q (.exit i) a w) : Exit.then K Q (.exit i) a w := h
theorem exit_in {id : Nat} (h : Q .normal a w) : Exit.inBlock id Q (.exit id) a w := by
  unfold Exit.inBlock
  simp only [if_true]
  exact h
end
/-- What the lists' part reads. -/
def tailR (ty id : Nat) (c : Cur) : Pk × Cur :=
  if ty = 9 then ({ Pk.zero with ty := ty, id := id, codes := baB c.1 }, ([], c.2))
  else if ty = 8 ∨ ty = 10 then ({ Pk.zero with ty := ty, id := id, subs := (subsR ty (c.1.length + 1) c []).1 }, (subsR ty (c.1.length + 1) c []).2)
  else ({ Pk.zero with ty := ty, id := id }, c)
theorem subs_end (ty : Nat) (f : Nat) (L : Bs) (k : Bool) (S : List Sb) (h : L = [] ∨ k = true) : subsR ty f (L, k) S = (S, (L, k)) := by
  cases f with
  | zero => rfl
  | succ f =>
    unfold subsR
    rw [if_pos h]
def qR (ty : Nat) (c : Cur) : Nat × Cur := if ty = 8 then oneR c else (0, c)
theorem subs_step (ty f : Nat) (L : Bs) (S : List Sb) (hne : L ≠ []) (hf : L.length < f) : ∃ f', subsR ty f' (qR ty (textR (L, false)).2).2 (S ++ [((textR (L, false)).1, (qR ty (textR (L, false)).2).1)]) = subsR ty f (L, false) S ∧
    ((qR ty (textR (L, false)).2).2.2 = true ∨ (qR ty (textR (L, false)).2).2.1.length < f') ∧
    (((qR ty (textR (L, false)).2).2.2 = true ∧ (qR ty (textR (L, false)).2).2.1.length ≤ L.length) ∨ (qR ty (textR (L, false)).2).2.1.length + 2 ≤ L.length) ∧ (qR ty (textR (L, false)).2).1 < 256 := by
  cases f with
  | zero => omega
  | succ f =>
    have h1 := text_len (L, false)
    have h4 : (qR ty (textR (L, false)).2).2.1.length ≤ (textR (L, false)).2.1.length ∧ (qR ty (textR (L, false)).2).1 < 256 ∧ ((textR (L, false)).2.2 = true → (qR ty (textR (L, false)).2).2.2 = true) := by
      unfold qR
      split
      · exact ⟨one_len _, one_lt _, fun h => one_bad h⟩
      · exact ⟨Nat.le_refl _, by show 0 < 256; omega, fun h => h⟩
    have h5 : (textR (L, false)).2.2 = true ∨ (textR (L, false)).2.1.length + 2 ≤ L.length := by
      rcases ht : textR (L, false) with ⟨s, L', k'⟩
      cases k' with
      | true => left; rfl
      | false =>
        right
        obtain ⟨e, _⟩ := text_inv ht
        rw [e]
        simp [dataB, wordB]
        try omega
    refine ⟨f, ?_, ?_, ?_, h4.2.1⟩
    · conv => rhs; rw [subsR]
      rw [if_neg (by simp [hne])]
      rfl
    · rcases h5 with h5 | h5
      · left; exact h4.2.2 h5
      · right; simp only at h1; omega
    · rcases h5 with h5 | h5
      · left; exact ⟨h4.2.2 h5, by simp only at h1; omega⟩
      · right; omega
def muR (X : Nat) (w : World) : Nat := (match w.cell? ⟨X, 0, none⟩ with | some (.string s) => 2 * s.size | _ => 0) + (match w.cell? ⟨X, 1, none⟩ with | some (.bool true) => 0 | _ => 1)
theorem mu_at {w0 w : World} {X : Nat} {c : Cur} {C : List Value} {T : TypeId} {B : List Box} {R : List Row} (h : Keep w0 ((X, curC c C, T) :: B) R w) : muR X w = 2 * c.1.length + (if c.2 = true then 0 else 1) := by
  have h0 : w.cell? ⟨X, 0, none⟩ = some (.string (baB c.1)) := (h.at 0 rfl).cells 0
  have h1 : w.cell? ⟨X, 1, none⟩ = some (.bool c.2) := (h.at 0 rfl).cells 1
  unfold muR
  rw [h0, h1]
  obtain ⟨L, k⟩ := c
  cases k <;> rfl
/-- The world between two rounds. -/
def ListI (w0 : World) (X : Nat) (T : TypeId) (B : List Box) (ty id : Nat) (c0 : Cur) (w : World) : Prop :=
  ∃ (L : Bs) (k : Bool) (S : List Sb) (al : Option Addr) (cap f : Nat), Keep w0 ((X, curC (L, k) (pkV { Pk.zero with ty := ty, id := id, subs := S } al cap).toList, T) :: B) [] w ∧
    w.ownsRow w0.heap.size 31 2 (.slice al S.length cap) S.length (subCells S) ∧ (k = true ∨ L.length < f) ∧ L.length ≤ 90000000 ∧ S.length + L.length ≤ 90000000 + (if k = true then 1 else 0) ∧ subsR ty f (L, k) S = subsR ty (c0.1.length + 1) c0 []
set_option maxRecDepth 100000 in
set_option maxHeartbeats 4000000 in
theorem lists_codes {w0 w : World} {X : Nat} {T : TypeId} {B : List Box} (ty id : Nat) (c0 : Cur) (hc : c0.1.length ≤ 90000000) (HK0 : Keep w0 ((X, curC c0 (pkV { Pk.zero with ty := ty, id := id } none 0).toList, T) :: B) [] w) (hty : ty = 9) :
    Calls Tryd.prog 91 #[.pointer (some ⟨X, 0, none⟩)] w fun e w' => e = .returned (.tuple #[]) ∧ ∃ (al : Option Addr) (cap : Nat), Keep w0 ((X, curC (tailR ty id c0).2 (pkV (tailR ty id c0).1 al cap).toList, T) :: B) [] w' ∧ w'.ownsRow w0.heap.size 31 2 (.slice al (tailR ty id c0).1.subs.length cap) (tailR ty id c0).1.subs.length (subCells (tailR ty id c0).1.subs) := by
  obtain ⟨KE, hKE⟩ : ∃ KE : World → Prop, KE = fun w' => ∃ (al : Option Addr) (cap : Nat), Keep w0 ((X, curC (tailR ty id c0).2 (pkV (tailR ty id c0).1 al cap).toList, T) :: B) [] w' ∧ w'.ownsRow w0.heap.size 31 2 (.slice al (tailR ty id c0).1.subs.length cap) (tailR ty id c0).1.subs.length (subCells (tailR ty id c0).1.subs) := ⟨_, rfl⟩
  have HEND := Lib.hid (show ∀ w', KE w' → ∃ (al : Option Addr) (cap : Nat), Keep w0 ((X, curC (tailR ty id c0).2 (pkV (tailR ty id c0).1 al cap).toList, T) :: B) [] w' ∧ w'.ownsRow w0.heap.size 31 2 (.slice al (tailR ty id c0).1.subs.length cap) (tailR ty id c0).1.subs.length (subCells (tailR ty id c0).1.subs) from fun w' h => by rw [hKE] at h; exact h)
  subst hty
  have HX := Lib.hid (show ∀ w', Keep w0 ((X, curC ([], c0.2) (pkV { Pk.zero with ty := 9, id := id, codes := baB c0.1 } none 0).toList, T) :: B) [] w' → KE w' from fun w' h => by
    rw [hKE]
    exact ⟨none, 0, h, World.ownsRow_nil _ _ _ _⟩)
  have HEE := Lib.hid (show ∀ w C, Keep w0 ((X, curC c0 C, T) :: B) [] w → Calls Tryd.prog 90 #[.pointer (some ⟨X, 0, none⟩)] w (RetC w0 w X C T B [] (.string (baB c0.1)) ([], c0.2)) from fun w C h => cur_end c0 h)
  obtain ⟨L0, k0⟩ := c0
  have HK := HK0
  clear HK0 hKE hc
  go_enter Tryd.func91, Tryd.ntmps91
  refine wp_forget (n := 63) (L := [(0, .pointer (some ⟨X, 0, none⟩))]) (FrL.add (FrL.nil ?_ ?_) _ _ ?_) ?_
  iterate 3 rfl
  intro a9 F
  rename World => w9
  refine wp_seq ?_
  refine wp_region_lit ?_
  refine fr_ch F 4 [(6, .pointer (some ⟨X, 2, none⟩))] (by kernel_rfl) ?_
  clear F a9
  intro a9 F
  have hc : w9.cell? ⟨X, 2, none⟩ = some (.int .u8 (9 : Int)) := (HK.at 0 rfl).cells 2
  refine fr_do F (wanted_free rfl) 7 rfl (by decide) (.int .u8 (9 : Int)) (by intro a' F'; have h6 := F'.at' 6 _ rfl; go_simp) ?_
  clear F a9
  intro a9 F
  clear hc
  refine wpList_nil ?_
  show Code.wp _ _ _ _ _
  replace F := F.keep [0, 7]
  replace F : FrL 63 [(7, .int .u8 (9 : Int)), (0, .pointer (some ⟨X, 0, none⟩))] a9 := F
  refine wp_block_end (fun a' w' => FrL 63 [] a' ∧ KE w') ?_ ?_
  rotate_left
  · rintro a' w' ⟨F', HE⟩
    exact bodyPost_end (results_void rfl _ _) F'.defers ⟨rfl, HEND.out _ HE⟩
  refine wp_seq ?_
  refine wp_region_lit ?_
  refine fr_ch F 2 [(8, .bool true), (9, .bool true)] (by kernel_rfl) ?_
  clear F a9
  intro a9 F
  refine wpList_nil ?_
  show Code.wp _ _ _ _ _
  refine wp_cond_true (F.ev 8 rfl) ?_
  replace F := F.keep [0]
  replace F : FrL 63 [(0, .pointer (some ⟨X, 0, none⟩))] a9 := F
  refine wp_region_lit ?_
  refine fr_ch F 4 [(13, .pointer (some ⟨X, 0, none⟩)), (12, .pointer (some ⟨X, 0, none⟩)), (11, .pointer (some ⟨X, 0, none⟩)), (10, .pointer (some ⟨X, 0, none⟩))] (by kernel_rfl) ?_
  clear F a9
  intro a9 F
  refine fr_call F (wanted_free rfl) 14 rfl (by decide) 90 #[.pointer (some ⟨X, 0, none⟩)] (by intro a' F'; have h13 := F'.at' 13 _ rfl; go_simp) (HEE.out _ _ HK) ?_
  clear HK
  rintro e w8 ⟨rfl, HK, HO⟩
  clear HO
  clear w9
  rename World => w9
  refine ⟨_, rfl, ?_⟩
  clear F a9
  intro a9 F
  refine fr_ch F 3 [(17, .pointer (some ⟨X, 25, none⟩)), (16, .pointer (some ⟨X, 2, none⟩)), (15, .pointer (some ⟨X, 0, none⟩))] (by kernel_rfl) ?_
  clear F a9
  intro a9 F
  refine fr_put F HK 0 rfl rfl rfl 9 _ _ rfl 25 (.string (baB L0)) (fun a' F' => F'.ev 17 rfl) (fun a' F' => F'.ev 14 rfl) z_str (Nat.le_of_ble_eq_true (by kernel_rfl)) (by kernel_rfl) ?_
  clear F HK a9 w9
  intro a9 w9 F HK
  replace HK : Keep w0 ((X, curC ([], k0) (pkV { Pk.zero with ty := 9, id := id, codes := (baB L0) } none 0).toList, T) :: B) [] w9 := HK
  refine wpList_nil ?_
  exact ⟨F.keep [], HX.out _ HK⟩
set_option maxRecDepth 100000 in
set_option maxHeartbeats 4000000 in
theorem lists_none {w0 w : World} {X : Nat} {T : TypeId} {B : List Box} (ty id : Nat) (c0 : Cur) (hc : c0.1.length ≤ 90000000) (HK0 : Keep w0 ((X, curC c0 (pkV { Pk.zero with ty := ty, id := id } none 0).toList, T) :: B) [] w) (hty : ty ≠ 9 ∧ ty ≠ 8 ∧ ty ≠ 10) :
    Calls Tryd.prog 91 #[.pointer (some ⟨X, 0, none⟩)] w fun e w' => e = .returned (.tuple #[]) ∧ ∃ (al : Option Addr) (cap : Nat), Keep w0 ((X, curC (tailR ty id c0).2 (pkV (tailR ty id c0).1 al cap).toList, T) :: B) [] w' ∧ w'.ownsRow w0.heap.size 31 2 (.slice al (tailR ty id c0).1.subs.length cap) (tailR ty id c0).1.subs.length (subCells (tailR ty id c0).1.subs) := by
  obtain ⟨KE, hKE⟩ : ∃ KE : World → Prop, KE = fun w' => ∃ (al : Option Addr) (cap : Nat), Keep w0 ((X, curC (tailR ty id c0).2 (pkV (tailR ty id c0).1 al cap).toList, T) :: B) [] w' ∧ w'.ownsRow w0.heap.size 31 2 (.slice al (tailR ty id c0).1.subs.length cap) (tailR ty id c0).1.subs.length (subCells (tailR ty id c0).1.subs) := ⟨_, rfl⟩
  have HEND := Lib.hid (show ∀ w', KE w' → ∃ (al : Option Addr) (cap : Nat), Keep w0 ((X, curC (tailR ty id c0).2 (pkV (tailR ty id c0).1 al cap).toList, T) :: B) [] w' ∧ w'.ownsRow w0.heap.size 31 2 (.slice al (tailR ty id c0).1.subs.length cap) (tailR ty id c0).1.subs.length (subCells (tailR ty id c0).1.subs) from fun w' h => by rw [hKE] at h; exact h)
  have e9 : ((ty : Int) == 9) = false := by rw [beq_eq_false_iff_ne]; omega
  have e8 : ((ty : Int) == 8) = false := by rw [beq_eq_false_iff_ne]; omega
  have e10 : ((ty : Int) == 10) = false := by rw [beq_eq_false_iff_ne]; omega
  have HX := Lib.hid (show ∀ w', Keep w0 ((X, curC c0 (pkV { Pk.zero with ty := ty, id := id } none 0).toList, T) :: B) [] w' → KE w' from fun w' h => by
    rw [hKE]
    unfold tailR
    rw [if_neg hty.1, if_neg (by omega)]
    exact ⟨none, 0, h, World.ownsRow_nil _ _ _ _⟩)
  obtain ⟨L0, k0⟩ := c0
  have HK := HK0
  clear HK0 hKE hc hty
  go_enter Tryd.func91, Tryd.ntmps91
  refine wp_forget (n := 63) (L := [(0, .pointer (some ⟨X, 0, none⟩))]) (FrL.add (FrL.nil ?_ ?_) _ _ ?_) ?_
  iterate 3 rfl
  intro a9 F
  rename World => w9
  refine wp_seq ?_
  refine wp_region_lit ?_
  refine fr_ch F 4 [(6, .pointer (some ⟨X, 2, none⟩))] (by kernel_rfl) ?_
  clear F a9
  intro a9 F
  have hc : w9.cell? ⟨X, 2, none⟩ = some (.int .u8 (ty : Int)) := (HK.at 0 rfl).cells 2
  refine fr_do F (wanted_free rfl) 7 rfl (by decide) (.int .u8 (ty : Int)) (by intro a' F'; have h6 := F'.at' 6 _ rfl; go_simp) ?_
  clear F a9
  intro a9 F
  clear hc
  refine wpList_nil ?_
  show Code.wp _ _ _ _ _
  replace F := F.keep [0, 7]
  replace F : FrL 63 [(7, .int .u8 (ty : Int)), (0, .pointer (some ⟨X, 0, none⟩))] a9 := F
  refine wp_block_end (fun a' w' => FrL 63 [] a' ∧ KE w') ?_ ?_
  rotate_left
  · rintro a' w' ⟨F', HE⟩
    exact bodyPost_end (results_void rfl _ _) F'.defers ⟨rfl, HEND.out _ HE⟩
  refine wp_seq ?_
  refine wp_region_lit ?_
  refine fr_do F (wanted_free rfl) 9 rfl (by decide) (.bool false) (by intro a' F'; have h7 := F'.at' 7 _ rfl; go_simp) ?_
  clear F a9
  intro a9 F
  refine fr_ch F 1 [(8, .bool false)] (by kernel_rfl) ?_
  clear F a9
  intro a9 F
  refine wpList_nil ?_
  show Code.wp _ _ _ _ _
  refine wp_cond_false (F.ev 8 rfl) ?_
  refine wp_seq ?_
  refine wp_seq ?_
  refine wp_region_lit ?_
  refine fr_do F (wanted_free rfl) 19 rfl (by decide) (.bool false) (by intro a' F'; have h7 := F'.at' 7 _ rfl; go_simp) ?_
  clear F a9
  intro a9 F
  refine fr_ch F 1 [(18, .bool false)] (by kernel_rfl) ?_
  clear F a9
  intro a9 F
  refine wpList_nil ?_
  show Code.wp _ _ _ _ _
  refine wp_cond_false (F.ev 18 rfl) ?_
  refine wp_region_lit ?_
  refine fr_do F (wanted_free rfl) 20 rfl (by decide) (.bool false) (by intro a' F'; have h7 := F'.at' 7 _ rfl; go_simp) ?_
  clear F a9
  intro a9 F
  refine fr_ch F 1 [(18, .bool false)] (by kernel_rfl) ?_
  clear F a9
  intro a9 F
  refine wpList_nil ?_
  show Code.wp _ _ _ _ _
  refine wp_cond_false (F.ev 18 rfl) ?_
  refine wp_skip ?_
  exact ⟨F.keep [], HX.out _ HK⟩
set_option maxRecDepth 100000 in
set_option maxHeartbeats 4000000 in
theorem lists_subs8 {w0 w : World} {X : Nat} {T : TypeId} {B : List Box} (ty id : Nat) (c0 : Cur) (hc : c0.1.length ≤ 90000000) (HK0 : Keep w0 ((X, curC c0 (pkV { Pk.zero with ty := ty, id := id } none 0).toList, T) :: B) [] w) (hty : ty = 8) (hT0 : T ≠ 31) (hB : ∀ x ∈ B, x.2.2 ≠ 31) :
    Calls Tryd.prog 91 #[.pointer (some ⟨X, 0, none⟩)] w fun e w' => e = .returned (.tuple #[]) ∧ ∃ (al : Option Addr) (cap : Nat), Keep w0 ((X, curC (tailR ty id c0).2 (pkV (tailR ty id c0).1 al cap).toList, T) :: B) [] w' ∧ w'.ownsRow w0.heap.size 31 2 (.slice al (tailR ty id c0).1.subs.length cap) (tailR ty id c0).1.subs.length (subCells (tailR ty id c0).1.subs) := by
  obtain ⟨KE, hKE⟩ : ∃ KE : World → Prop, KE = fun w' => ∃ (al : Option Addr) (cap : Nat), Keep w0 ((X, curC (tailR ty id c0).2 (pkV (tailR ty id c0).1 al cap).toList, T) :: B) [] w' ∧ w'.ownsRow w0.heap.size 31 2 (.slice al (tailR ty id c0).1.subs.length cap) (tailR ty id c0).1.subs.length (subCells (tailR ty id c0).1.subs) := ⟨_, rfl⟩
  have HEND := Lib.hid (show ∀ w', KE w' → ∃ (al : Option Addr) (cap : Nat), Keep w0 ((X, curC (tailR ty id c0).2 (pkV (tailR ty id c0).1 al cap).toList, T) :: B) [] w' ∧ w'.ownsRow w0.heap.size 31 2 (.slice al (tailR ty id c0).1.subs.length cap) (tailR ty id c0).1.subs.length (subCells (tailR ty id c0).1.subs) from fun w' h => by rw [hKE] at h; exact h)
  subst hty
  obtain ⟨i0, hi, hz0, hz1, hz2⟩ := info_parts infoSub
  have HX := Lib.hid (show ∀ w' (L : Bs) (k : Bool) (S : List Sb) (al : Option Addr) (cap f : Nat), Keep w0 ((X, curC (L, k) (pkV { Pk.zero with ty := 8, id := id, subs := S } al cap).toList, T) :: B) [] w' → w'.ownsRow w0.heap.size 31 2 (.slice al S.length cap) S.length (subCells S) → (L = [] ∨ k = true) → subsR 8 f (L, k) S = subsR 8 (c0.1.length + 1) c0 [] → KE w' from fun w' L k S al cap f h1 h2 h3 h4 => by
    rw [subs_end 8 f L k S h3] at h4
    rw [hKE]
    unfold tailR
    rw [if_neg (by decide), if_pos (by decide), ← h4]
    exact ⟨al, cap, h1, h2⟩)
  have HI : ListI w0 X T B 8 id c0 w := ⟨c0.1, c0.2, [], none, 0, c0.1.length + 1, HK0, World.ownsRow_nil _ _ _ _, Or.inr (Nat.lt_succ_self _), hc, by show 0 + c0.1.length ≤ _; omega, rfl⟩
  obtain ⟨L0, k0⟩ := c0
  have HK := HK0
  clear HK0 hKE hc
  go_enter Tryd.func91, Tryd.ntmps91
  refine wp_forget (n := 63) (L := [(0, .pointer (some ⟨X, 0, none⟩))]) (FrL.add (FrL.nil ?_ ?_) _ _ ?_) ?_
  iterate 3 rfl
  intro a9 F
  rename World => w9
  refine wp_seq ?_
  refine wp_region_lit ?_
  refine fr_ch F 4 [(6, .pointer (some ⟨X, 2, none⟩)), (5, .pointer (some ⟨X, 2, none⟩)), (4, .pointer (some ⟨X, 0, none⟩)), (3, .pointer (some ⟨X, 0, none⟩))] (by kernel_rfl) ?_
  clear F a9
  intro a9 F
  have hc : w9.cell? ⟨X, 2, none⟩ = some (.int .u8 (8 : Int)) := (HK.at 0 rfl).cells 2
  refine fr_do F (wanted_free rfl) 7 rfl (by decide) (.int .u8 (8 : Int)) (by intro a' F'; have h6 := F'.at' 6 _ rfl; go_simp) ?_
  clear F a9
  intro a9 F
  clear hc
  refine wpList_nil ?_
  show Code.wp _ _ _ _ _
  replace F := F.keep [0, 7]
  replace F : FrL 63 [(7, .int .u8 (8 : Int)), (0, .pointer (some ⟨X, 0, none⟩))] a9 := F
  refine wp_block_end (fun a' w' => FrL 63 [] a' ∧ KE w') ?_ ?_
  rotate_left
  · rintro a' w' ⟨F', HE⟩
    exact bodyPost_end (results_void rfl _ _) F'.defers ⟨rfl, HEND.out _ HE⟩
  refine wp_seq ?_
  refine wp_region_lit ?_
  refine fr_ch F 2 [(8, .bool false), (9, .bool false)] (by kernel_rfl) ?_
  clear F a9
  intro a9 F
  refine wpList_nil ?_
  show Code.wp _ _ _ _ _
  refine wp_cond_false (F.ev 8 rfl) ?_
  refine wp_seq ?_
  refine wp_seq ?_
  refine wp_region_lit ?_
  refine fr_ch F 2 [(18, .bool true), (19, .bool true)] (by kernel_rfl) ?_
  clear F a9
  intro a9 F
  refine wpList_nil ?_
  show Code.wp _ _ _ _ _
  refine wp_cond_true (F.ev 18 rfl) ?_
  refine wp_skip ?_
  show Code.wp _ _ _ _ _
  refine wp_cond_true (F.ev 18 rfl) ?_
  replace F := F.keep [0]
  replace F : FrL 63 [(0, .pointer (some ⟨X, 0, none⟩))] a9 := F
  refine wp_block_end (fun a' w' => FrL 63 [] a' ∧ KE w') ?_ (fun _ _ h => h)
  refine wp_loop (fun a' w' => FrL 63 [(0, .pointer (some ⟨X, 0, none⟩))] a' ∧ ListI w0 X T B 8 id (L0, k0) w') (fun _ w' => muR X w') ⟨F, HI⟩ ?_
  clear HI HK F a9 w9
  rintro a9 w9 ⟨F, L, k, S, al, cap, f, HK, hw, hf, hL, hS2, hT⟩
  have HW := Lib.hid hw
  clear hw
  have HM := Lib.hid (mu_at HK)
  have HT2 := Lib.hid hT
  have HXX := Lib.hid (HX.out w9 L k S al cap f HK HW.out)
  clear hT
  obtain ⟨b, hb⟩ : ∃ b, ((baB L).toList != ([] : List UInt8)) = b := ⟨_, rfl⟩
  have HBE := Lib.hid hb
  have HLE := Lib.hid (show b = false ↔ L = [] by rw [← hb]; rw [bne_eq_false_iff_eq, Lib.toList_data]; show L = [] ↔ _; rfl)
  clear hb
  cases b
  · skip
    refine wp_seq ?_
    refine wp_seq ?_
    refine wp_region_lit ?_
    refine fr_ch F 4 [(24, .pointer (some ⟨X, 0, none⟩)), (23, .pointer (some ⟨X, 0, none⟩)), (22, .pointer (some ⟨X, 0, none⟩)), (21, .pointer (some ⟨X, 0, none⟩))] (by kernel_rfl) ?_
    clear F a9
    intro a9 F
    have hc : w9.cell? ⟨X, 0, none⟩ = some (.string (baB L)) := (HK.at 0 rfl).cells 0
    refine fr_do F (wanted_free rfl) 25 rfl (by decide) (.string (baB L)) (by intro a' F'; have h24 := F'.at' 24 _ rfl; go_simp) ?_
    clear F a9
    intro a9 F
    clear hc
    refine fr_do F (wanted_free rfl) 26 rfl (by decide) (.bool false) (by intro a' F'; have h25 := F'.at' 25 _ rfl; have hq := HBE.out; go_simp <;> simpa using hq) ?_
    clear F a9
    intro a9 F
    refine fr_ch F 8 [(34, .bool false), (33, undef), (32, undef), (31, undef), (30, undef), (29, undef), (28, undef), (27, .bool false)] (by kernel_rfl) ?_
    clear F a9
    intro a9 F
    refine wpList_nil ?_
    show Code.wp _ _ _ _ _
    refine wp_cond_false (F.ev 34 rfl) ?_
    refine wp_exit ?_
    refine then_exit (then_exit (exit_in ⟨F.keep [], HXX.out (Or.inl (HLE.out.1 rfl)) HT2.out⟩))
  · cases k
    · skip
      clear HXX
      have hne : L ≠ [] := fun h => by have := HLE.out.2 h; cases this
      have hf2 : L.length < f := by rcases hf with hf | hf; cases hf; exact hf
      obtain ⟨f', g1, g2, g3, g4⟩ := subs_step 8 f L S hne hf2
      rw [HT2.out] at g1
      rcases ht : textR (L, false) with ⟨t, L1, k1⟩
      have ht2 := text_len (L, false)
      rw [ht] at g1 g2 g3 g4 ht2
      simp only at ht2
      have HCT := Lib.hid (show ∀ w C, Keep w0 ((X, curC (L, false) C, T) :: B) [] w → Calls Tryd.prog 88 #[.pointer (some ⟨X, 0, none⟩)] w (RetC w0 w X C T B [] (.string t) (L1, k1)) from fun w C h => by
        have h2 := cur_text (L, false) (by simp only; omega) h
        rw [ht] at h2
        exact h2)
      rcases hq : oneR (L1, k1) with ⟨q, L2, k2⟩
      have hq8 : qR 8 (L1, k1) = (q, (L2, k2)) := hq
      simp only at g1 g2 g3 g4
      rw [hq8] at g1 g2 g3 g4
      have HCO := Lib.hid (show ∀ w C B, Keep w0 ((X, curC (L1, k1) C, T) :: B) [] w → Calls Tryd.prog 87 #[.pointer (some ⟨X, 0, none⟩)] w (RetC w0 w X C T B [] (.int .u8 (q : Int)) (L2, k2)) from fun w C B h => by
        have h2 := cur_one (L1, k1) h
        rw [hq] at h2
        exact h2)
      simp only at g1 g2 g3 g4
      have HG := Lib.hid (And.intro g1 (And.intro g2 g3))
      clear g1 g2 g3 g4 ht ht2 hf hf2 hne HT2 hq hq8
      refine wp_seq ?_
      refine wp_seq ?_
      refine wp_region_lit ?_
      refine fr_ch F 4 [(24, .pointer (some ⟨X, 0, none⟩)), (23, .pointer (some ⟨X, 0, none⟩)), (22, .pointer (some ⟨X, 0, none⟩)), (21, .pointer (some ⟨X, 0, none⟩))] (by kernel_rfl) ?_
      clear F a9
      intro a9 F
      have hc : w9.cell? ⟨X, 0, none⟩ = some (.string (baB L)) := (HK.at 0 rfl).cells 0
      refine fr_do F (wanted_free rfl) 25 rfl (by decide) (.string (baB L)) (by intro a' F'; have h24 := F'.at' 24 _ rfl; go_simp) ?_
      clear F a9
      intro a9 F
      clear hc
      refine fr_do F (wanted_free rfl) 26 rfl (by decide) (.bool true) (by intro a' F'; have h25 := F'.at' 25 _ rfl; have hq := HBE.out; go_simp <;> simpa using hq) ?_
      clear F a9
      intro a9 F
      refine fr_ch F 5 [(31, .pointer (some ⟨X, 1, none⟩)), (30, .pointer (some ⟨X, 0, none⟩)), (29, .pointer (some ⟨X, 0, none⟩)), (28, .pointer (some ⟨X, 0, none⟩)), (27, .bool true)] (by kernel_rfl) ?_
      clear F a9
      intro a9 F
      have hc : w9.cell? ⟨X, 1, none⟩ = some (.bool false) := (HK.at 0 rfl).cells 1
      refine fr_do F (by rw [wanted_at F rfl (t := 27) (b := true) (by kernel_rfl) rfl]; rfl) 32 rfl (by decide) (.bool false) (by intro a' F'; have h31 := F'.at' 31 _ rfl; go_simp) ?_
      clear F a9
      intro a9 F
      clear hc
      refine fr_ch F 2 [(34, .bool true), (33, .bool true)] (by kernel_rfl) ?_
      clear F a9
      intro a9 F
      refine wpList_nil ?_
      show Code.wp _ _ _ _ _
      refine wp_cond_true (F.ev 34 rfl) ?_
      refine wp_skip ?_
      show Code.wp _ _ _ _ _
      replace F := F.keep [0]
      replace F : FrL 63 [(0, .pointer (some ⟨X, 0, none⟩))] a9 := F
      refine wp_block_end (fun a' w' => (FrL 63 [(0, .pointer (some ⟨X, 0, none⟩))] a' ∧ ListI w0 X T B 8 id (L0, k0) w') ∧ muR X w' < muR X w9) ?_ (fun _ _ h => h)
      rw [HM.out]
      clear HM
      refine wp_seq ?_
      refine wp_region_lit ?_
      refine fr_ch F 3 [(37, .pointer (some ⟨X, 0, none⟩)), (36, .pointer (some ⟨X, 0, none⟩)), (35, .pointer (some ⟨X, 0, none⟩))] (by kernel_rfl) ?_
      clear F a9
      intro a9 F
      have HKX := HK
      refine fr_call F (wanted_free rfl) 38 rfl (by decide) 88 #[.pointer (some ⟨X, 0, none⟩)] (by intro a' F'; have h37 := F'.at' 37 _ rfl; go_simp) (HCT.out _ _ HK) ?_
      clear HK
      rintro e w8 ⟨rfl, HK, HO⟩
      replace HW := Lib.hid (own_only HW.out HO (fun g hg => BoxAt.ne_own (HKX.at 0 rfl) HW.out (Ne.symm hT0) g hg))
      clear HO HKX
      clear w9
      rename World => w9
      refine ⟨_, rfl, ?_⟩
      clear F a9
      intro a9 F
      refine fr_ch F 1 [(39, .agg #[.string t, .int .u8 ((0 : Nat) : Int)])] (by kernel_rfl) ?_
      clear F a9
      intro a9 F
      refine fr_new F HK 2 (by decide) rfl 31 rfl rfl rfl (.tmp 39) rfl rfl i0 _ hi hz0 (cells := #[.string t, .int .u8 ((0 : Nat) : Int)]) hz1 rfl (by kernel_rfl) (fun a' Y F' => F'.ev 39 rfl) ?_
      rintro Y a10 w10 hY F' HK' hb
      have hYg : ∀ g, (Value.slice al S.length cap).ownBlock = some g → ¬ g = Y := fun g hg => by have := (own_lt HW.out hg).1; omega
      replace HW := Lib.hid (own_only HW.out (Only.of_below hb (fun _ => False)) (fun _ _ h => h))
      clear HK F hb hY
      clear a9 w9
      rename World => w9
      have HK := HK'
      have F := F'
      clear HK' F'
      rename Act => a9
      refine wpList_nil ?_
      show Code.wp _ _ _ _ _
      replace F := F.keep [0, 2]
      replace F : FrL 63 [(2, .pointer (some ⟨Y, 0, none⟩)), (0, .pointer (some ⟨X, 0, none⟩))] a9 := F
      skip
      refine wp_seq ?_
      refine wp_seq ?_
      refine wp_region_lit ?_
      refine fr_ch F 4 [(43, .pointer (some ⟨X, 2, none⟩)), (42, .pointer (some ⟨X, 2, none⟩)), (41, .pointer (some ⟨X, 0, none⟩)), (40, .pointer (some ⟨X, 0, none⟩))] (by kernel_rfl) ?_
      clear F a9
      intro a9 F
      have hc : w9.cell? ⟨X, 2, none⟩ = some (.int .u8 (8 : Int)) := (HK.at 1 rfl).cells 2
      refine fr_do F (wanted_free rfl) 44 rfl (by decide) (.int .u8 (8 : Int)) (by intro a' F'; have h43 := F'.at' 43 _ rfl; go_simp) ?_
      clear F a9
      intro a9 F
      clear hc
      refine fr_ch F 1 [(45, .bool true)] (by kernel_rfl) ?_
      clear F a9
      intro a9 F
      refine wpList_nil ?_
      show Code.wp _ _ _ _ _
      refine wp_cond_true (F.ev 45 rfl) ?_
      replace F := F.keep [0, 2]
      replace F : FrL 63 [(2, .pointer (some ⟨Y, 0, none⟩)), (0, .pointer (some ⟨X, 0, none⟩))] a9 := F
      refine wp_region_lit ?_
      refine fr_ch F 3 [(48, .pointer (some ⟨X, 0, none⟩)), (47, .pointer (some ⟨X, 0, none⟩)), (46, .pointer (some ⟨X, 0, none⟩))] (by kernel_rfl) ?_
      clear F a9
      intro a9 F
      have HKX := HK
      refine fr_call F (wanted_free rfl) 49 rfl (by decide) 87 #[.pointer (some ⟨X, 0, none⟩)] (by intro a' F'; have h48 := F'.at' 48 _ rfl; go_simp) (HCO.out _ _ _ HK.swap) ?_
      clear HK
      rintro e w8 ⟨rfl, HK, HO⟩
      replace HW := Lib.hid (own_only HW.out HO (fun g hg => BoxAt.ne_own (HKX.at 1 rfl) HW.out (Ne.symm hT0) g hg))
      clear HO HKX
      clear w9
      rename World => w9
      refine ⟨_, rfl, ?_⟩
      clear F a9
      intro a9 F
      replace HK := HK.swap
      replace HK : Keep w0 ((Y, #[.string t, .int .u8 ((0 : Nat) : Int)], 31) :: (X, curC (L2, k2) (pkV { Pk.zero with ty := 8, id := id, subs := S } al cap).toList, T) :: B) [] w9 := HK
      refine fr_ch F 1 [(50, .pointer (some ⟨Y, 1, none⟩))] (by kernel_rfl) ?_
      clear F a9
      intro a9 F
      refine fr_putO F HK 0 rfl rfl rfl 5 _ _ rfl 1 (.int .u8 (q : Int)) (fun a' F' => F'.ev 50 rfl) (fun a' F' => F'.ev 49 rfl) z_u8 (Nat.le_of_ble_eq_true (by kernel_rfl)) (by kernel_rfl) ?_
      intro a10 w10 F' HK' HO
      replace HW := Lib.hid (own_only HW.out HO hYg)
      clear F HK HO a9 w9
      have HK := HK'
      have F := F'
      clear HK' F'
      rename World => w9
      rename Act => a9
      replace HK : Keep w0 ((Y, #[.string t, .int .u8 (q : Int)], 31) :: (X, curC (L2, k2) (pkV { Pk.zero with ty := 8, id := id, subs := S } al cap).toList, T) :: B) [] w9 := HK
      refine wpList_nil ?_
      show Code.wp _ _ _ _ _
      replace F := F.keep [0, 2]
      replace F : FrL 63 [(2, .pointer (some ⟨Y, 0, none⟩)), (0, .pointer (some ⟨X, 0, none⟩))] a9 := F
      refine wp_region_noPanic ?_
      have HKD := HK.drew
      have HWD : World.ownsRow w9.drew w0.heap.size 31 2 (.slice al S.length cap) S.length (subCells S) := own_only HW.out (Only.of_below (below_draws (n := 1) rfl) (fun _ => False)) (fun _ _ h => h)
      clear HW
      have hS3 : S.length + L.length ≤ 90000000 := by simpa using hS2
      refine AnyT.begin (S := fun w' => w'.cell? ⟨X, 24, none⟩ = some (.slice al S.length cap) ∧ BoxAt w' Y #[.string t, .int .u8 (q : Int)] 31) (z := 12) (by kernel_rfl) ⟨(HKD.at 1 rfl).cells 24, HKD.at 0 rfl⟩ (fun hS => ?_)
      generalize w9.drew = w8 at HKD HWD hS ⊢
      clear HK w9
      rename World => w9
      have HK := HKD
      clear HKD
      refine fr_take (i := 0) (o := ⟨some 51, _, _, _, _, _⟩) F hS rfl rfl 51 rfl (by decide) (.pointer (some ⟨X, 0, none⟩)) (fun w' hS a' F' => by have h0 := F'.at' 0 _ rfl; go_simp) ?_
      clear F a9
      intro a9 F
      refine fr_take (i := 1) (o := ⟨some 52, _, _, _, _, _⟩) F hS rfl rfl 52 rfl (by decide) (.pointer (some ⟨X, 0, none⟩)) (fun w' hS a' F' => by have h0 := F'.at' 0 _ rfl; go_simp) ?_
      clear F a9
      intro a9 F
      refine fr_take (i := 2) (o := ⟨some 53, _, _, _, _, _⟩) F hS rfl rfl 53 rfl (by decide) (.pointer (some ⟨X, 0, none⟩)) (fun w' hS a' F' => by have h52 := F'.at' 52 _ rfl; go_simp) ?_
      clear F a9
      intro a9 F
      refine fr_take (i := 3) (o := ⟨some 54, _, _, _, _, _⟩) F hS rfl rfl 54 rfl (by decide) (.pointer (some ⟨X, 2, none⟩)) (fun w' hS a' F' => by have h53 := F'.at' 53 _ rfl; go_simp) ?_
      clear F a9
      intro a9 F
      refine fr_take (i := 4) (o := ⟨some 55, _, _, _, _, _⟩) F hS rfl rfl 55 rfl (by decide) (.pointer (some ⟨X, 24, none⟩)) (fun w' hS a' F' => by have h54 := F'.at' 54 _ rfl; go_simp) ?_
      clear F a9
      intro a9 F
      refine fr_take (i := 5) (o := ⟨some 56, _, _, _, _, _⟩) F hS rfl rfl 56 rfl (by decide) (.slice al S.length cap) (fun w' hS a' F' => by have h55 := F'.at' 55 _ rfl; have hc := hS.1; go_simp) ?_
      clear F a9
      intro a9 F
      refine fr_take (i := 6) (o := ⟨some 57, _, _, _, _, _⟩) F hS rfl rfl 57 rfl (by decide) (.agg #[.string t, .int .u8 (q : Int)]) (fun w' hS a' F' => by exact run_load_box rfl (F'.ev 2 rfl) hS.2 Tryd.underlying31 rfl sizeSub) ?_
      clear F a9
      intro a9 F
      have HK2 := HK.allocRow [.string t, .int .u8 (q : Int)] 31
      refine fr_step (i := 7) (o := ⟨some 58, _, _, _, _, _⟩) F rfl rfl 58 rfl (by decide) (.slice (some ⟨w9.heap.size, 0, none⟩) 1 1) (w9.alloc (.cells #[.string t, .int .u8 (q : Int)] 31)) (fun a' F' => run_slice1 25 31 _ rfl #[.string t, .int .u8 (q : Int)] (F'.ev 57 rfl) i0 _ Tryd.underlying25 hi hz0 (by rw [hz1]; decide) (by rw [hz1]; decide) (by rw [hz1]; kernel_rfl)) ⟨(HK2.at 1 rfl).cells 24, HK2.at 0 rfl⟩ ?_
      clear F a9
      intro a9 F
      replace HWD := own_only HWD (Only.of_below ((Below.refl _ _).alloc (Nat.le_refl _) (.cells #[.string t, .int .u8 (q : Int)] 31)) (fun _ => False)) (fun _ _ h => h)
      have hnr : CellsA (w9.alloc (.cells #[.string t, .int .u8 (q : Int)] 31)) (some ⟨w9.heap.size, 0, none⟩) [.string t, .int .u8 (q : Int)] := HK2.rowAt 0 rfl
      obtain ⟨Z, hZ⟩ : ∃ Z, w9.heap.size = Z := ⟨_, rfl⟩
      rw [hZ] at HK2 hnr F
      replace HK2 : Keep _ _ _ _ := HK2.sub (List.Sublist.refl _) (R' := []) (by intro r hr; cases hr)
      generalize w9.alloc (.cells #[.string t, .int .u8 (q : Int)] 31) = w8 at HK2 HWD hnr ⊢
      clear HK hS hZ w9
      rename World => w9
      have HK := HK2
      clear HK2
      refine fr_append (i := 8) (o := ⟨some 59, _, _, _, _, _⟩) F rfl rfl 59 rfl (by decide) (.tmp 56) (.tmp 58) 25 rfl w0.heap.size 31 i0 _ 2 24 Tryd.underlying25 hi hz0 hz1 hz2 rfl (by decide) (.slice al S.length cap) S.length (subCells S) HWD ⟨Z, 0, none⟩ 1 1 [.string t, .int .u8 (q : Int)] rfl (fun j u hu => by obtain ⟨b', o', e', hc'⟩ := hnr j u hu; injection e' with e'; cases e'; rw [Addr.add_lit]; exact hc') (by intro u hu; simp at hu; rcases hu with rfl | rfl <;> rfl) (by unfold maxLen; omega) (by omega) HK.size (fun a' F' => F'.ev 56 rfl) (fun a' F' => F'.ev 58 rfl) ?_
      intro v8 w8 hown hgr
      have HK2 : Keep w0 _ [] w8 := HK.grown hgr (fun g hg => (own_lt HWD hg).2) (fun g hg x hx => by
        rcases List.mem_cons.1 hx with rfl | hx
        · exact hYg g hg
        rcases List.mem_cons.1 hx with rfl | hx
        · exact fun e => BoxAt.ne_own (HK.at 1 rfl) HWD (Ne.symm hT0) g hg e
        · exact fun e => BoxAt.ne_own (HK.box x (List.mem_cons_of_mem _ (List.mem_cons_of_mem _ hx))) HWD (Ne.symm (hB x hx)) g hg e) (fun r hr => by cases hr)
      obtain ⟨al2, cap2, hv8, _, _⟩ := own_form hown
      subst hv8
      refine ⟨⟨(HK2.at 1 rfl).cells 24, HK2.at 0 rfl⟩, ?_⟩
      clear F a9
      intro a9 F
      have hS : (fun w' => w'.cell? ⟨X, 24, none⟩ = some (.slice al S.length cap) ∧ BoxAt w' Y #[.string t, .int .u8 (q : Int)] 31) w8 := ⟨(HK2.at 1 rfl).cells 24, HK2.at 0 rfl⟩
      refine fr_step (i := 9) (o := ⟨some 60, _, _, _, _, _⟩) F rfl rfl 60 rfl (by decide) (.pointer (some ⟨X, 0, none⟩)) w8 (fun a' F' => by have h51 := F'.at' 51 _ rfl; go_simp) hS ?_
      clear F a9
      intro a9 F
      refine fr_step (i := 10) (o := ⟨some 61, _, _, _, _, _⟩) F rfl rfl 61 rfl (by decide) (.pointer (some ⟨X, 2, none⟩)) w8 (fun a' F' => by have h60 := F'.at' 60 _ rfl; go_simp) hS ?_
      clear F a9
      intro a9 F
      refine fr_step (i := 11) (o := ⟨some 62, _, _, _, _, _⟩) F rfl rfl 62 rfl (by decide) (.pointer (some ⟨X, 24, none⟩)) w8 (fun a' F' => by have h61 := F'.at' 61 _ rfl; go_simp) hS ?_
      clear F a9
      intro a9 F
      refine fr_last (o := ⟨none, _, _, _, _, _⟩) F rfl rfl rfl (w8.setCells X 24 [.slice al2 (S.length + 1) cap2]) (fun a' F' => run_store HK2 1 rfl 25 _ _ rfl 24 (.slice al2 (S.length + 1) cap2) (F'.ev 62 rfl) (F'.ev 59 rfl) z_subs (Nat.le_of_ble_eq_true (by kernel_rfl)) (by kernel_rfl)) ?_
      clear F a9
      intro a9 F
      refine AnyT.done (by kernel_rfl) ?_ _
      refine NoPanic.normal ?_
      have HK3 := keep_setCells [.slice al2 (S.length + 1) cap2] 24 _ _ _ HK2 (i := 1) rfl
      have hon : Only (fun j => j = X) w8 (w8.setCells X 24 [.slice al2 (S.length + 1) cap2]) := only_set (Only.refl _ _) 24 _
      have hown2 := own_only hown hon (fun g hg => BoxAt.ne_own (HK2.at 1 rfl) hown (Ne.symm hT0) g hg)
      have HK4 : Keep w0 ((X, curC (L2, k2) (pkV { Pk.zero with ty := 8, id := id, subs := S ++ [(t, q)] } al2 cap2).toList, T) :: B) [] (w8.setCells X 24 [.slice al2 (S.length + 1) cap2]) := by
        have h := HK3.sub (L' := _ :: B) (List.sublist_cons_self _ _) (R' := []) (fun r hr => hr)
        have e : (S ++ [(t, q)]).length = S.length + 1 := by simp
        unfold pkV
        rw [e]
        exact h
      obtain ⟨g1, g2, g3⟩ := HG.out
      refine ⟨⟨F.keep [0], L2, k2, S ++ [(t, q)], al2, cap2, f', HK4, ?_, g2, ?_, ?_, g1⟩, ?_⟩
      · have e : (S ++ [(t, q)]).length = S.length + 1 := by simp
        rw [e, subCells_append]
        exact hown2
      · rcases g3 with g3 | g3 <;> omega
      · rw [List.length_append]
        show S.length + 1 + _ ≤ _
        rcases g3 with ⟨g3, g4⟩ | g3
        · rw [if_pos g3]; omega
        · split <;> omega
      · rw [mu_at HK4]
        simp only
        rcases g3 with ⟨g3, g4⟩ | g3
        · rw [if_pos g3]; simp; omega
        · simp; split <;> omega
    · skip
      refine wp_seq ?_
      refine wp_seq ?_
      refine wp_region_lit ?_
      refine fr_ch F 4 [(24, .pointer (some ⟨X, 0, none⟩)), (23, .pointer (some ⟨X, 0, none⟩)), (22, .pointer (some ⟨X, 0, none⟩)), (21, .pointer (some ⟨X, 0, none⟩))] (by kernel_rfl) ?_
      clear F a9
      intro a9 F
      have hc : w9.cell? ⟨X, 0, none⟩ = some (.string (baB L)) := (HK.at 0 rfl).cells 0
      refine fr_do F (wanted_free rfl) 25 rfl (by decide) (.string (baB L)) (by intro a' F'; have h24 := F'.at' 24 _ rfl; go_simp) ?_
      clear F a9
      intro a9 F
      clear hc
      refine fr_do F (wanted_free rfl) 26 rfl (by decide) (.bool true) (by intro a' F'; have h25 := F'.at' 25 _ rfl; have hq := HBE.out; go_simp <;> simpa using hq) ?_
      clear F a9
      intro a9 F
      refine fr_ch F 5 [(31, .pointer (some ⟨X, 1, none⟩)), (30, .pointer (some ⟨X, 0, none⟩)), (29, .pointer (some ⟨X, 0, none⟩)), (28, .pointer (some ⟨X, 0, none⟩)), (27, .bool true)] (by kernel_rfl) ?_
      clear F a9
      intro a9 F
      have hc : w9.cell? ⟨X, 1, none⟩ = some (.bool true) := (HK.at 0 rfl).cells 1
      refine fr_do F (by rw [wanted_at F rfl (t := 27) (b := true) (by kernel_rfl) rfl]; rfl) 32 rfl (by decide) (.bool true) (by intro a' F'; have h31 := F'.at' 31 _ rfl; go_simp) ?_
      clear F a9
      intro a9 F
      clear hc
      refine fr_ch F 2 [(34, .bool false), (33, .bool false)] (by kernel_rfl) ?_
      clear F a9
      intro a9 F
      refine wpList_nil ?_
      show Code.wp _ _ _ _ _
      refine wp_cond_false (F.ev 34 rfl) ?_
      refine wp_exit ?_
      refine then_exit (then_exit (exit_in ⟨F.keep [], HXX.out (Or.inr rfl) HT2.out⟩))
set_option maxRecDepth 100000 in
set_option maxHeartbeats 4000000 in
theorem lists_subs10 {w0 w : World} {X : Nat} {T : TypeId} {B : List Box} (ty id : Nat) (c0 : Cur) (hc : c0.1.length ≤ 90000000) (HK0 : Keep w0 ((X, curC c0 (pkV { Pk.zero with ty := ty, id := id } none 0).toList, T) :: B) [] w) (hty : ty = 10) (hT0 : T ≠ 31) (hB : ∀ x ∈ B, x.2.2 ≠ 31) :
    Calls Tryd.prog 91 #[.pointer (some ⟨X, 0, none⟩)] w fun e w' => e = .returned (.tuple #[]) ∧ ∃ (al : Option Addr) (cap : Nat), Keep w0 ((X, curC (tailR ty id c0).2 (pkV (tailR ty id c0).1 al cap).toList, T) :: B) [] w' ∧ w'.ownsRow w0.heap.size 31 2 (.slice al (tailR ty id c0).1.subs.length cap) (tailR ty id c0).1.subs.length (subCells (tailR ty id c0).1.subs) := by
  obtain ⟨KE, hKE⟩ : ∃ KE : World → Prop, KE = fun w' => ∃ (al : Option Addr) (cap : Nat), Keep w0 ((X, curC (tailR ty id c0).2 (pkV (tailR ty id c0).1 al cap).toList, T) :: B) [] w' ∧ w'.ownsRow w0.heap.size 31 2 (.slice al (tailR ty id c0).1.subs.length cap) (tailR ty id c0).1.subs.length (subCells (tailR ty id c0).1.subs) := ⟨_, rfl⟩
  have HEND := Lib.hid (show ∀ w', KE w' → ∃ (al : Option Addr) (cap : Nat), Keep w0 ((X, curC (tailR ty id c0).2 (pkV (tailR ty id c0).1 al cap).toList, T) :: B) [] w' ∧ w'.ownsRow w0.heap.size 31 2 (.slice al (tailR ty id c0).1.subs.length cap) (tailR ty id c0).1.subs.length (subCells (tailR ty id c0).1.subs) from fun w' h => by rw [hKE] at h; exact h)
  subst hty
  obtain ⟨i0, hi, hz0, hz1, hz2⟩ := info_parts infoSub
  have HX := Lib.hid (show ∀ w' (L : Bs) (k : Bool) (S : List Sb) (al : Option Addr) (cap f : Nat), Keep w0 ((X, curC (L, k) (pkV { Pk.zero with ty := 10, id := id, subs := S } al cap).toList, T) :: B) [] w' → w'.ownsRow w0.heap.size 31 2 (.slice al S.length cap) S.length (subCells S) → (L = [] ∨ k = true) → subsR 10 f (L, k) S = subsR 10 (c0.1.length + 1) c0 [] → KE w' from fun w' L k S al cap f h1 h2 h3 h4 => by
    rw [subs_end 10 f L k S h3] at h4
    rw [hKE]
    unfold tailR
    rw [if_neg (by decide), if_pos (by decide), ← h4]
    exact ⟨al, cap, h1, h2⟩)
  have HI : ListI w0 X T B 10 id c0 w := ⟨c0.1, c0.2, [], none, 0, c0.1.length + 1, HK0, World.ownsRow_nil _ _ _ _, Or.inr (Nat.lt_succ_self _), hc, by show 0 + c0.1.length ≤ _; omega, rfl⟩
  obtain ⟨L0, k0⟩ := c0
  have HK := HK0
  clear HK0 hKE hc
  go_enter Tryd.func91, Tryd.ntmps91
  refine wp_forget (n := 63) (L := [(0, .pointer (some ⟨X, 0, none⟩))]) (FrL.add (FrL.nil ?_ ?_) _ _ ?_) ?_
  iterate 3 rfl
  intro a9 F
  rename World => w9
  refine wp_seq ?_
  refine wp_region_lit ?_
  refine fr_ch F 4 [(6, .pointer (some ⟨X, 2, none⟩)), (5, .pointer (some ⟨X, 2, none⟩)), (4, .pointer (some ⟨X, 0, none⟩)), (3, .pointer (some ⟨X, 0, none⟩))] (by kernel_rfl) ?_
  clear F a9
  intro a9 F
  have hc : w9.cell? ⟨X, 2, none⟩ = some (.int .u8 (10 : Int)) := (HK.at 0 rfl).cells 2
  refine fr_do F (wanted_free rfl) 7 rfl (by decide) (.int .u8 (10 : Int)) (by intro a' F'; have h6 := F'.at' 6 _ rfl; go_simp) ?_
  clear F a9
  intro a9 F
  clear hc
  refine wpList_nil ?_
  show Code.wp _ _ _ _ _
  replace F := F.keep [0, 7]
  replace F : FrL 63 [(7, .int .u8 (10 : Int)), (0, .pointer (some ⟨X, 0, none⟩))] a9 := F
  refine wp_block_end (fun a' w' => FrL 63 [] a' ∧ KE w') ?_ ?_
  rotate_left
  · rintro a' w' ⟨F', HE⟩
    exact bodyPost_end (results_void rfl _ _) F'.defers ⟨rfl, HEND.out _ HE⟩
  refine wp_seq ?_
  refine wp_region_lit ?_
  refine fr_ch F 2 [(8, .bool false), (9, .bool false)] (by kernel_rfl) ?_
  clear F a9
  intro a9 F
  refine wpList_nil ?_
  show Code.wp _ _ _ _ _
  refine wp_cond_false (F.ev 8 rfl) ?_
  refine wp_seq ?_
  refine wp_seq ?_
  refine wp_region_lit ?_
  refine fr_ch F 2 [(18, .bool false), (19, .bool false)] (by kernel_rfl) ?_
  clear F a9
  intro a9 F
  refine wpList_nil ?_
  show Code.wp _ _ _ _ _
  refine wp_cond_false (F.ev 18 rfl) ?_
  refine wp_region_lit ?_
  refine fr_ch F 2 [(18, .bool true), (20, .bool true)] (by kernel_rfl) ?_
  clear F a9
  intro a9 F
  refine wpList_nil ?_
  show Code.wp _ _ _ _ _
  refine wp_cond_true (F.ev 18 rfl) ?_
  replace F := F.keep [0]
  replace F : FrL 63 [(0, .pointer (some ⟨X, 0, none⟩))] a9 := F
  refine wp_block_end (fun a' w' => FrL 63 [] a' ∧ KE w') ?_ (fun _ _ h => h)
  refine wp_loop (fun a' w' => FrL 63 [(0, .pointer (some ⟨X, 0, none⟩))] a' ∧ ListI w0 X T B 10 id (L0, k0) w') (fun _ w' => muR X w') ⟨F, HI⟩ ?_
  clear HI HK F a9 w9
  rintro a9 w9 ⟨F, L, k, S, al, cap, f, HK, hw, hf, hL, hS2, hT⟩
  have HW := Lib.hid hw
  clear hw
  have HM := Lib.hid (mu_at HK)
  have HT2 := Lib.hid hT
  have HXX := Lib.hid (HX.out w9 L k S al cap f HK HW.out)
  clear hT
  obtain ⟨b, hb⟩ : ∃ b, ((baB L).toList != ([] : List UInt8)) = b := ⟨_, rfl⟩
  have HBE := Lib.hid hb
  have HLE := Lib.hid (show b = false ↔ L = [] by rw [← hb]; rw [bne_eq_false_iff_eq, Lib.toList_data]; show L = [] ↔ _; rfl)
  clear hb
  cases b
  · skip
    refine wp_seq ?_
    refine wp_seq ?_
    refine wp_region_lit ?_
    refine fr_ch F 4 [(24, .pointer (some ⟨X, 0, none⟩)), (23, .pointer (some ⟨X, 0, none⟩)), (22, .pointer (some ⟨X, 0, none⟩)), (21, .pointer (some ⟨X, 0, none⟩))] (by kernel_rfl) ?_
    clear F a9
    intro a9 F
    have hc : w9.cell? ⟨X, 0, none⟩ = some (.string (baB L)) := (HK.at 0 rfl).cells 0
    refine fr_do F (wanted_free rfl) 25 rfl (by decide) (.string (baB L)) (by intro a' F'; have h24 := F'.at' 24 _ rfl; go_simp) ?_
    clear F a9
    intro a9 F
    clear hc
    refine fr_do F (wanted_free rfl) 26 rfl (by decide) (.bool false) (by intro a' F'; have h25 := F'.at' 25 _ rfl; have hq := HBE.out; go_simp <;> simpa using hq) ?_
    clear F a9
    intro a9 F
    refine fr_ch F 8 [(34, .bool false), (33, undef), (32, undef), (31, undef), (30, undef), (29, undef), (28, undef), (27, .bool false)] (by kernel_rfl) ?_
    clear F a9
    intro a9 F
    refine wpList_nil ?_
    show Code.wp _ _ _ _ _
    refine wp_cond_false (F.ev 34 rfl) ?_
    refine wp_exit ?_
    refine then_exit (then_exit (exit_in ⟨F.keep [], HXX.out (Or.inl (HLE.out.1 rfl)) HT2.out⟩))
  · cases k
    · skip
      clear HXX
      have hne : L ≠ [] := fun h => by have := HLE.out.2 h; cases this
      have hf2 : L.length < f := by rcases hf with hf | hf; cases hf; exact hf
      obtain ⟨f', g1, g2, g3, g4⟩ := subs_step 10 f L S hne hf2
      rw [HT2.out] at g1
      rcases ht : textR (L, false) with ⟨t, L1, k1⟩
      have ht2 := text_len (L, false)
      rw [ht] at g1 g2 g3 g4 ht2
      simp only at ht2
      have HCT := Lib.hid (show ∀ w C, Keep w0 ((X, curC (L, false) C, T) :: B) [] w → Calls Tryd.prog 88 #[.pointer (some ⟨X, 0, none⟩)] w (RetC w0 w X C T B [] (.string t) (L1, k1)) from fun w C h => by
        have h2 := cur_text (L, false) (by simp only; omega) h
        rw [ht] at h2
        exact h2)
      have hq10 : qR 10 (L1, k1) = (0, (L1, k1)) := rfl
      simp only at g1 g2 g3 g4
      rw [hq10] at g1 g2 g3 g4
      simp only at g1 g2 g3 g4
      have HG := Lib.hid (And.intro g1 (And.intro g2 g3))
      clear g1 g2 g3 g4 ht ht2 hf hf2 hne HT2 hq10
      refine wp_seq ?_
      refine wp_seq ?_
      refine wp_region_lit ?_
      refine fr_ch F 4 [(24, .pointer (some ⟨X, 0, none⟩)), (23, .pointer (some ⟨X, 0, none⟩)), (22, .pointer (some ⟨X, 0, none⟩)), (21, .pointer (some ⟨X, 0, none⟩))] (by kernel_rfl) ?_
      clear F a9
      intro a9 F
      have hc : w9.cell? ⟨X, 0, none⟩ = some (.string (baB L)) := (HK.at 0 rfl).cells 0
      refine fr_do F (wanted_free rfl) 25 rfl (by decide) (.string (baB L)) (by intro a' F'; have h24 := F'.at' 24 _ rfl; go_simp) ?_
      clear F a9
      intro a9 F
      clear hc
      refine fr_do F (wanted_free rfl) 26 rfl (by decide) (.bool true) (by intro a' F'; have h25 := F'.at' 25 _ rfl; have hq := HBE.out; go_simp <;> simpa using hq) ?_
      clear F a9
      intro a9 F
      refine fr_ch F 5 [(31, .pointer (some ⟨X, 1, none⟩)), (30, .pointer (some ⟨X, 0, none⟩)), (29, .pointer (some ⟨X, 0, none⟩)), (28, .pointer (some ⟨X, 0, none⟩)), (27, .bool true)] (by kernel_rfl) ?_
      clear F a9
      intro a9 F
      have hc : w9.cell? ⟨X, 1, none⟩ = some (.bool false) := (HK.at 0 rfl).cells 1
      refine fr_do F (by rw [wanted_at F rfl (t := 27) (b := true) (by kernel_rfl) rfl]; rfl) 32 rfl (by decide) (.bool false) (by intro a' F'; have h31 := F'.at' 31 _ rfl; go_simp) ?_
      clear F a9
      intro a9 F
      clear hc
      refine fr_ch F 2 [(34, .bool true), (33, .bool true)] (by kernel_rfl) ?_
      clear F a9
      intro a9 F
      refine wpList_nil ?_
      show Code.wp _ _ _ _ _
      refine wp_cond_true (F.ev 34 rfl) ?_
      refine wp_skip ?_
      show Code.wp _ _ _ _ _
      replace F := F.keep [0]
      replace F : FrL 63 [(0, .pointer (some ⟨X, 0, none⟩))] a9 := F
      refine wp_block_end (fun a' w' => (FrL 63 [(0, .pointer (some ⟨X, 0, none⟩))] a' ∧ ListI w0 X T B 10 id (L0, k0) w') ∧ muR X w' < muR X w9) ?_ (fun _ _ h => h)
      rw [HM.out]
      clear HM
      refine wp_seq ?_
      refine wp_region_lit ?_
      refine fr_ch F 3 [(37, .pointer (some ⟨X, 0, none⟩)), (36, .pointer (some ⟨X, 0, none⟩)), (35, .pointer (some ⟨X, 0, none⟩))] (by kernel_rfl) ?_
      clear F a9
      intro a9 F
      have HKX := HK
      refine fr_call F (wanted_free rfl) 38 rfl (by decide) 88 #[.pointer (some ⟨X, 0, none⟩)] (by intro a' F'; have h37 := F'.at' 37 _ rfl; go_simp) (HCT.out _ _ HK) ?_
      clear HK
      rintro e w8 ⟨rfl, HK, HO⟩
      replace HW := Lib.hid (own_only HW.out HO (fun g hg => BoxAt.ne_own (HKX.at 0 rfl) HW.out (Ne.symm hT0) g hg))
      clear HO HKX
      clear w9
      rename World => w9
      refine ⟨_, rfl, ?_⟩
      clear F a9
      intro a9 F
      refine fr_ch F 1 [(39, .agg #[.string t, .int .u8 ((0 : Nat) : Int)])] (by kernel_rfl) ?_
      clear F a9
      intro a9 F
      refine fr_new F HK 2 (by decide) rfl 31 rfl rfl rfl (.tmp 39) rfl rfl i0 _ hi hz0 (cells := #[.string t, .int .u8 ((0 : Nat) : Int)]) hz1 rfl (by kernel_rfl) (fun a' Y F' => F'.ev 39 rfl) ?_
      rintro Y a10 w10 hY F' HK' hb
      have hYg : ∀ g, (Value.slice al S.length cap).ownBlock = some g → ¬ g = Y := fun g hg => by have := (own_lt HW.out hg).1; omega
      replace HW := Lib.hid (own_only HW.out (Only.of_below hb (fun _ => False)) (fun _ _ h => h))
      clear HK F hb hY
      clear a9 w9
      rename World => w9
      have HK := HK'
      have F := F'
      clear HK' F'
      rename Act => a9
      refine wpList_nil ?_
      show Code.wp _ _ _ _ _
      replace F := F.keep [0, 2]
      replace F : FrL 63 [(2, .pointer (some ⟨Y, 0, none⟩)), (0, .pointer (some ⟨X, 0, none⟩))] a9 := F
      skip
      refine wp_seq ?_
      refine wp_seq ?_
      refine wp_region_lit ?_
      refine fr_ch F 4 [(43, .pointer (some ⟨X, 2, none⟩)), (42, .pointer (some ⟨X, 2, none⟩)), (41, .pointer (some ⟨X, 0, none⟩)), (40, .pointer (some ⟨X, 0, none⟩))] (by kernel_rfl) ?_
      clear F a9
      intro a9 F
      have hc : w9.cell? ⟨X, 2, none⟩ = some (.int .u8 (10 : Int)) := (HK.at 1 rfl).cells 2
      refine fr_do F (wanted_free rfl) 44 rfl (by decide) (.int .u8 (10 : Int)) (by intro a' F'; have h43 := F'.at' 43 _ rfl; go_simp) ?_
      clear F a9
      intro a9 F
      clear hc
      refine fr_ch F 1 [(45, .bool false)] (by kernel_rfl) ?_
      clear F a9
      intro a9 F
      refine wpList_nil ?_
      show Code.wp _ _ _ _ _
      refine wp_cond_false (F.ev 45 rfl) ?_
      refine wp_skip ?_
      show Code.wp _ _ _ _ _
      replace F := F.keep [0, 2]
      replace F : FrL 63 [(2, .pointer (some ⟨Y, 0, none⟩)), (0, .pointer (some ⟨X, 0, none⟩))] a9 := F
      refine wp_region_noPanic ?_
      have HKD := HK.drew
      have HWD : World.ownsRow w9.drew w0.heap.size 31 2 (.slice al S.length cap) S.length (subCells S) := own_only HW.out (Only.of_below (below_draws (n := 1) rfl) (fun _ => False)) (fun _ _ h => h)
      clear HW
      have hS3 : S.length + L.length ≤ 90000000 := by simpa using hS2
      refine AnyT.begin (S := fun w' => w'.cell? ⟨X, 24, none⟩ = some (.slice al S.length cap) ∧ BoxAt w' Y #[.string t, .int .u8 ((0 : Nat) : Int)] 31) (z := 12) (by kernel_rfl) ⟨(HKD.at 1 rfl).cells 24, HKD.at 0 rfl⟩ (fun hS => ?_)
      generalize w9.drew = w8 at HKD HWD hS ⊢
      clear HK w9
      rename World => w9
      have HK := HKD
      clear HKD
      refine fr_take (i := 0) (o := ⟨some 51, _, _, _, _, _⟩) F hS rfl rfl 51 rfl (by decide) (.pointer (some ⟨X, 0, none⟩)) (fun w' hS a' F' => by have h0 := F'.at' 0 _ rfl; go_simp) ?_
      clear F a9
      intro a9 F
      refine fr_take (i := 1) (o := ⟨some 52, _, _, _, _, _⟩) F hS rfl rfl 52 rfl (by decide) (.pointer (some ⟨X, 0, none⟩)) (fun w' hS a' F' => by have h0 := F'.at' 0 _ rfl; go_simp) ?_
      clear F a9
      intro a9 F
      refine fr_take (i := 2) (o := ⟨some 53, _, _, _, _, _⟩) F hS rfl rfl 53 rfl (by decide) (.pointer (some ⟨X, 0, none⟩)) (fun w' hS a' F' => by have h52 := F'.at' 52 _ rfl; go_simp) ?_
      clear F a9
      intro a9 F
      refine fr_take (i := 3) (o := ⟨some 54, _, _, _, _, _⟩) F hS rfl rfl 54 rfl (by decide) (.pointer (some ⟨X, 2, none⟩)) (fun w' hS a' F' => by have h53 := F'.at' 53 _ rfl; go_simp) ?_
      clear F a9
      intro a9 F
      refine fr_take (i := 4) (o := ⟨some 55, _, _, _, _, _⟩) F hS rfl rfl 55 rfl (by decide) (.pointer (some ⟨X, 24, none⟩)) (fun w' hS a' F' => by have h54 := F'.at' 54 _ rfl; go_simp) ?_
      clear F a9
      intro a9 F
      refine fr_take (i := 5) (o := ⟨some 56, _, _, _, _, _⟩) F hS rfl rfl 56 rfl (by decide) (.slice al S.length cap) (fun w' hS a' F' => by have h55 := F'.at' 55 _ rfl; have hc := hS.1; go_simp) ?_
      clear F a9
      intro a9 F
      refine fr_take (i := 6) (o := ⟨some 57, _, _, _, _, _⟩) F hS rfl rfl 57 rfl (by decide) (.agg #[.string t, .int .u8 ((0 : Nat) : Int)]) (fun w' hS a' F' => by exact run_load_box rfl (F'.ev 2 rfl) hS.2 Tryd.underlying31 rfl sizeSub) ?_
      clear F a9
      intro a9 F
      have HK2 := HK.allocRow [.string t, .int .u8 ((0 : Nat) : Int)] 31
      refine fr_step (i := 7) (o := ⟨some 58, _, _, _, _, _⟩) F rfl rfl 58 rfl (by decide) (.slice (some ⟨w9.heap.size, 0, none⟩) 1 1) (w9.alloc (.cells #[.string t, .int .u8 ((0 : Nat) : Int)] 31)) (fun a' F' => run_slice1 25 31 _ rfl #[.string t, .int .u8 ((0 : Nat) : Int)] (F'.ev 57 rfl) i0 _ Tryd.underlying25 hi hz0 (by rw [hz1]; decide) (by rw [hz1]; decide) (by rw [hz1]; kernel_rfl)) ⟨(HK2.at 1 rfl).cells 24, HK2.at 0 rfl⟩ ?_
      clear F a9
      intro a9 F
      replace HWD := own_only HWD (Only.of_below ((Below.refl _ _).alloc (Nat.le_refl _) (.cells #[.string t, .int .u8 ((0 : Nat) : Int)] 31)) (fun _ => False)) (fun _ _ h => h)
      have hnr : CellsA (w9.alloc (.cells #[.string t, .int .u8 ((0 : Nat) : Int)] 31)) (some ⟨w9.heap.size, 0, none⟩) [.string t, .int .u8 ((0 : Nat) : Int)] := HK2.rowAt 0 rfl
      obtain ⟨Z, hZ⟩ : ∃ Z, w9.heap.size = Z := ⟨_, rfl⟩
      rw [hZ] at HK2 hnr F
      replace HK2 : Keep _ _ _ _ := HK2.sub (List.Sublist.refl _) (R' := []) (by intro r hr; cases hr)
      generalize w9.alloc (.cells #[.string t, .int .u8 ((0 : Nat) : Int)] 31) = w8 at HK2 HWD hnr ⊢
      clear HK hS hZ w9
      rename World => w9
      have HK := HK2
      clear HK2
      refine fr_append (i := 8) (o := ⟨some 59, _, _, _, _, _⟩) F rfl rfl 59 rfl (by decide) (.tmp 56) (.tmp 58) 25 rfl w0.heap.size 31 i0 _ 2 24 Tryd.underlying25 hi hz0 hz1 hz2 rfl (by decide) (.slice al S.length cap) S.length (subCells S) HWD ⟨Z, 0, none⟩ 1 1 [.string t, .int .u8 ((0 : Nat) : Int)] rfl (fun j u hu => by obtain ⟨b', o', e', hc'⟩ := hnr j u hu; injection e' with e'; cases e'; rw [Addr.add_lit]; exact hc') (by intro u hu; simp at hu; rcases hu with rfl | rfl <;> rfl) (by unfold maxLen; omega) (by omega) HK.size (fun a' F' => F'.ev 56 rfl) (fun a' F' => F'.ev 58 rfl) ?_
      intro v8 w8 hown hgr
      have HK2 : Keep w0 _ [] w8 := HK.grown hgr (fun g hg => (own_lt HWD hg).2) (fun g hg x hx => by
        rcases List.mem_cons.1 hx with rfl | hx
        · exact hYg g hg
        rcases List.mem_cons.1 hx with rfl | hx
        · exact fun e => BoxAt.ne_own (HK.at 1 rfl) HWD (Ne.symm hT0) g hg e
        · exact fun e => BoxAt.ne_own (HK.box x (List.mem_cons_of_mem _ (List.mem_cons_of_mem _ hx))) HWD (Ne.symm (hB x hx)) g hg e) (fun r hr => by cases hr)
      obtain ⟨al2, cap2, hv8, _, _⟩ := own_form hown
      subst hv8
      refine ⟨⟨(HK2.at 1 rfl).cells 24, HK2.at 0 rfl⟩, ?_⟩
      clear F a9
      intro a9 F
      have hS : (fun w' => w'.cell? ⟨X, 24, none⟩ = some (.slice al S.length cap) ∧ BoxAt w' Y #[.string t, .int .u8 ((0 : Nat) : Int)] 31) w8 := ⟨(HK2.at 1 rfl).cells 24, HK2.at 0 rfl⟩
      refine fr_step (i := 9) (o := ⟨some 60, _, _, _, _, _⟩) F rfl rfl 60 rfl (by decide) (.pointer (some ⟨X, 0, none⟩)) w8 (fun a' F' => by have h51 := F'.at' 51 _ rfl; go_simp) hS ?_
      clear F a9
      intro a9 F
      refine fr_step (i := 10) (o := ⟨some 61, _, _, _, _, _⟩) F rfl rfl 61 rfl (by decide) (.pointer (some ⟨X, 2, none⟩)) w8 (fun a' F' => by have h60 := F'.at' 60 _ rfl; go_simp) hS ?_
      clear F a9
      intro a9 F
      refine fr_step (i := 11) (o := ⟨some 62, _, _, _, _, _⟩) F rfl rfl 62 rfl (by decide) (.pointer (some ⟨X, 24, none⟩)) w8 (fun a' F' => by have h61 := F'.at' 61 _ rfl; go_simp) hS ?_
      clear F a9
      intro a9 F
      refine fr_last (o := ⟨none, _, _, _, _, _⟩) F rfl rfl rfl (w8.setCells X 24 [.slice al2 (S.length + 1) cap2]) (fun a' F' => run_store HK2 1 rfl 25 _ _ rfl 24 (.slice al2 (S.length + 1) cap2) (F'.ev 62 rfl) (F'.ev 59 rfl) z_subs (Nat.le_of_ble_eq_true (by kernel_rfl)) (by kernel_rfl)) ?_
      clear F a9
      intro a9 F
      refine AnyT.done (by kernel_rfl) ?_ _
      refine NoPanic.normal ?_
      have HK3 := keep_setCells [.slice al2 (S.length + 1) cap2] 24 _ _ _ HK2 (i := 1) rfl
      have hon : Only (fun j => j = X) w8 (w8.setCells X 24 [.slice al2 (S.length + 1) cap2]) := only_set (Only.refl _ _) 24 _
      have hown2 := own_only hown hon (fun g hg => BoxAt.ne_own (HK2.at 1 rfl) hown (Ne.symm hT0) g hg)
      have HK4 : Keep w0 ((X, curC (L1, k1) (pkV { Pk.zero with ty := 10, id := id, subs := S ++ [(t, 0)] } al2 cap2).toList, T) :: B) [] (w8.setCells X 24 [.slice al2 (S.length + 1) cap2]) := by
        have h := HK3.sub (L' := _ :: B) (List.sublist_cons_self _ _) (R' := []) (fun r hr => hr)
        have e : (S ++ [(t, 0)]).length = S.length + 1 := by simp
        unfold pkV
        rw [e]
        exact h
      obtain ⟨g1, g2, g3⟩ := HG.out
      refine ⟨⟨F.keep [0], L1, k1, S ++ [(t, 0)], al2, cap2, f', HK4, ?_, g2, ?_, ?_, g1⟩, ?_⟩
      · have e : (S ++ [(t, 0)]).length = S.length + 1 := by simp
        rw [e, subCells_append]
        exact hown2
      · rcases g3 with g3 | g3 <;> omega
      · rw [List.length_append]
        show S.length + 1 + _ ≤ _
        rcases g3 with ⟨g3, g4⟩ | g3
        · rw [if_pos g3]; omega
        · split <;> omega
      · rw [mu_at HK4]
        simp only
        rcases g3 with ⟨g3, g4⟩ | g3
        · rw [if_pos g3]; simp; omega
        · simp; split <;> omega
    · skip
      refine wp_seq ?_
      refine wp_seq ?_
      refine wp_region_lit ?_
      refine fr_ch F 4 [(24, .pointer (some ⟨X, 0, none⟩)), (23, .pointer (some ⟨X, 0, none⟩)), (22, .pointer (some ⟨X, 0, none⟩)), (21, .pointer (some ⟨X, 0, none⟩))] (by kernel_rfl) ?_
      clear F a9
      intro a9 F
      have hc : w9.cell? ⟨X, 0, none⟩ = some (.string (baB L)) := (HK.at 0 rfl).cells 0
      refine fr_do F (wanted_free rfl) 25 rfl (by decide) (.string (baB L)) (by intro a' F'; have h24 := F'.at' 24 _ rfl; go_simp) ?_
      clear F a9
      intro a9 F
      clear hc
      refine fr_do F (wanted_free rfl) 26 rfl (by decide) (.bool true) (by intro a' F'; have h25 := F'.at' 25 _ rfl; have hq := HBE.out; go_simp <;> simpa using hq) ?_
      clear F a9
      intro a9 F
      refine fr_ch F 5 [(31, .pointer (some ⟨X, 1, none⟩)), (30, .pointer (some ⟨X, 0, none⟩)), (29, .pointer (some ⟨X, 0, none⟩)), (28, .pointer (some ⟨X, 0, none⟩)), (27, .bool true)] (by kernel_rfl) ?_
      clear F a9
      intro a9 F
      have hc : w9.cell? ⟨X, 1, none⟩ = some (.bool true) := (HK.at 0 rfl).cells 1
      refine fr_do F (by rw [wanted_at F rfl (t := 27) (b := true) (by kernel_rfl) rfl]; rfl) 32 rfl (by decide) (.bool true) (by intro a' F'; have h31 := F'.at' 31 _ rfl; go_simp) ?_
      clear F a9
      intro a9 F
      clear hc
      refine fr_ch F 2 [(34, .bool false), (33, .bool false)] (by kernel_rfl) ?_
      clear F a9
      intro a9 F
      refine wpList_nil ?_
      show Code.wp _ _ _ _ _
      refine wp_cond_false (F.ev 34 rfl) ?_
      refine wp_exit ?_
      refine then_exit (then_exit (exit_in ⟨F.keep [], HXX.out (Or.inr rfl) HT2.out⟩))
theorem rest_lists {w0 w : World} {X : Nat} {T : TypeId} {B : List Box} (ty id : Nat) (c0 : Cur) (hc : c0.1.length ≤ 90000000) (HK0 : Keep w0 ((X, curC c0 (pkV { Pk.zero with ty := ty, id := id } none 0).toList, T) :: B) [] w) (hT0 : T ≠ 31) (hB : ∀ x ∈ B, x.2.2 ≠ 31) :
    Calls Tryd.prog 91 #[.pointer (some ⟨X, 0, none⟩)] w fun e w' => e = .returned (.tuple #[]) ∧ ∃ (al : Option Addr) (cap : Nat), Keep w0 ((X, curC (tailR ty id c0).2 (pkV (tailR ty id c0).1 al cap).toList, T) :: B) [] w' ∧ w'.ownsRow w0.heap.size 31 2 (.slice al (tailR ty id c0).1.subs.length cap) (tailR ty id c0).1.subs.length (subCells (tailR ty id c0).1.subs) := by
  by_cases h9 : ty = 9
  · exact lists_codes ty id c0 hc HK0 h9
  by_cases h8 : ty = 8
  · exact lists_subs8 ty id c0 hc HK0 h8 hT0 hB
  by_cases h10 : ty = 10
  · exact lists_subs10 ty id c0 hc HK0 h10 hT0 hB
  exact lists_none ty id c0 hc HK0 ⟨h9, h8, h10⟩
end Go.Proofs.YtfljdlaelanliaaDoor
