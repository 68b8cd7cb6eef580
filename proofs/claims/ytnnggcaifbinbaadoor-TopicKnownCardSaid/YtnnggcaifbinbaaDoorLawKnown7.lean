/- The walk of TopicKnown: the chapter's examples on topics. Conditions: the decoder's tables lie as Go lays them. -/
import Derived.Test.YtnnggcaifbinbaaDoorJoin
namespace Go.Proofs.YtnnggcaifbinbaaDoor
open Go.RowKit

theorem some_texts {w : World} {b : Nat} {T : List ByteArray} (h : w.heap.size = b) : CellsA (w.alloc (.cells (T.map Value.string).toArray 9)) (some ⟨b, 0, none⟩) (T.map Value.string) := by
  subst h
  intro j v hv
  refine ⟨_, _, rfl, ?_⟩
  rw [Nat.zero_add, cell_of_row _ _ _ _ _ _ (heap_alloc_new w _)]
  simpa using hv
theorem bl_eq {r : ByteArray} {l : Bs} (h : bl r = l) : r = ⟨l.toArray⟩ := by
  subst h; cases r; simp [bl]

theorem same_texts_built (B : List ByteArray) (L : List ByteArray) (a : Option Addr) (ca cb n b m : Nat) (w : World) (hm : L.length = m) (hn : B.length = n) (hT : L.map bl = B.map bl) (hL : L.length ≤ 9223372036854775807) (ha : CellsA w a (L.map Value.string)) (h : w.heap.size = b) :
    Calls Tryd.prog 26 #[.slice a m ca, .slice (some ⟨b, 0, none⟩) n cb] (w.alloc (.cells (B.map Value.string).toArray 9)) fun e w' => e = .returned (.bool true) ∧ Below (w.alloc (.cells (B.map Value.string).toArray 9)).heap.size (w.alloc (.cells (B.map Value.string).toArray 9)) w' := by
  subst hn
  subst hm
  have h1 := law07_SameTexts a (some ⟨b, 0, none⟩) ca cb L B _ hL (ha.below ((Below.refl _ w).alloc (Nat.le_refl _) _)) (some_texts h)
  rw [hT, beq_self_eq_true] at h1
  exact h1
theorem join_built (B : List ByteArray) (J : Bs) (hJ : joinL (B.map bl) = J) (n c b : Nat) (w : World) (hn : B.length = n) (hc : n ≤ c) (h1 : n ≤ 140737488355328) (h2 : (joinL (B.map bl)).length ≤ 140737488355328) (h : w.heap.size = b) :
    Calls Tryd.prog 45 #[.slice (some ⟨b, 0, none⟩) n c] (w.alloc (.cells (B.map Value.string).toArray 9)) fun e w' => e = .returned (.string ⟨J.toArray⟩) ∧ Below (w.alloc (.cells (B.map Value.string).toArray 9)).heap.size (w.alloc (.cells (B.map Value.string).toArray 9)) w' := by
  subst hn
  subst hJ
  exact topic_Join _ _ _ _ hc (some_texts h) h1 h2

set_option maxRecDepth 100000 in
theorem law07_TopicKnown (w : World) (hE : Env w) : Calls Tryd.prog 14 #[] w fun e w' => e = .returned (.bool true) ∧ Below w.heap.size w w' := by
  obtain ⟨i0, hi, hz0, hz1, hz2⟩ := info_parts (show (Tryd.prog.info? 9).map (fun i => (i.zero, i.size, i.bytes)) = some (some (.string ByteArray.empty), 1, 16) by kernel_rfl)
  have hb := Below.refl w.heap.size w
  have f0 : firstL (bl { data := #[43, 47, 97] }) = ([], false) := by kernel_rfl
  have f1 : firstL (bl { data := #[36, 115, 47, 35] }) = ([36, 115], true) := by kernel_rfl
  have k0 : nameL (bl { data := #[97, 47, 98] }) = true := by kernel_rfl
  have k1 : nameL (bl { data := #[97, 47, 43] }) = false := by kernel_rfl
  have k2 : nameL (bl { data := #[] }) = false := by kernel_rfl
  have k3 : filterL (bl { data := #[97, 47, 43, 47, 35] }) = true := by kernel_rfl
  have k4 : filterL (bl { data := #[97, 47, 35, 47, 98] }) = false := by kernel_rfl
  have k5 : filterL (bl { data := #[97, 43] }) = false := by kernel_rfl
  have k6 : filterL (bl { data := #[47] }) = true := by kernel_rfl
  have k7 : filterL (bl { data := #[] }) = false := by kernel_rfl
  have k8 : matchL (bl { data := #[97, 47, 35] }) (bl { data := #[97] }) = true := by kernel_rfl
  have k9 : matchL (bl { data := #[97, 47, 43] }) (bl { data := #[97] }) = false := by kernel_rfl
  have k10 : matchL (bl { data := #[43, 47, 43] }) (bl { data := #[47, 98] }) = true := by kernel_rfl
  have k11 : matchL (bl { data := #[35] }) (bl { data := #[36, 115, 47, 120] }) = false := by kernel_rfl
  have k12 : matchL (bl { data := #[36, 115, 47, 35] }) (bl { data := #[36, 115, 47, 120] }) = true := by kernel_rfl
  have k13 : matchL (bl { data := #[97, 47, 43] }) (bl { data := #[97, 47] }) = true := by kernel_rfl
  have k14 : coversL (bl { data := #[97, 47, 35] }) (bl { data := #[97, 47, 43, 47, 98] }) = true := by kernel_rfl
  have k15 : coversL (bl { data := #[97, 47, 43] }) (bl { data := #[97, 47, 35] }) = false := by kernel_rfl
  have k16 : coversL (bl { data := #[35] }) (bl { data := #[36, 115, 47, 35] }) = false := by kernel_rfl
  have l0 : levelsL (bl { data := #[97, 47, 47, 98] }) = ([⟨#[97]⟩, ⟨#[]⟩, ⟨#[98]⟩] : List ByteArray).map bl := by kernel_rfl
  have l1 : levelsL (bl { data := #[] }) = ([⟨#[]⟩] : List ByteArray).map bl := by kernel_rfl
  have z1 := Lib.hid (same_texts_built [⟨#[97]⟩, ⟨#[]⟩, ⟨#[98]⟩])
  have z2 := Lib.hid (same_texts_built [⟨#[]⟩])
  have j1 := Lib.hid (fun n c b w => join_built [⟨#[97]⟩, ⟨#[]⟩, ⟨#[98]⟩] [97, 47, 47, 98] (by kernel_rfl) n c b w)
  have j2 := Lib.hid (fun w => topic_Join none 0 [] w (by decide) (CellsA.nil _ _) (by decide) (by decide))
  rw [show joinL (([] : List ByteArray).map bl) = [] from rfl] at j2
  go_enter Tryd.func14, Tryd.ntmps14
  go_wp2_with (first
    | (go_at_call 24; refine (topic_First _ _ hE (by decide)).mono ?_; rintro e w1 ⟨r, he, hr, hb1⟩; simp only [f0, f1] at he hr; obtain rfl := bl_eq hr; subst he; clear hr; replace hE := hE.below hb1; replace hb := Below.then hb hb1)
    | (go_at_call 21; refine (topic_Name _ _ hE (by decide)).mono ?_; rintro e w1 ⟨rfl, hb1⟩; replace hE := hE.below hb1; replace hb := Below.then hb hb1)
    | (go_at_call 20; refine (topic_Filter _ _ hE (by decide)).mono ?_; rintro e w1 ⟨rfl, hb1⟩; replace hE := hE.below hb1; replace hb := Below.then hb hb1)
    | (go_at_call 18; refine (topic_Match _ _ _ hE (by decide) (by decide)).mono ?_; rintro e w1 ⟨rfl, hb1⟩; replace hE := hE.below hb1; replace hb := Below.then hb hb1)
    | (go_at_call 16; refine (topic_Covers _ _ _ hE (by decide) (by decide)).mono ?_; rintro e w1 ⟨rfl, hb1⟩; replace hE := hE.below hb1; replace hb := Below.then hb hb1)
    | (go_at_call 23; refine (topic_Levels _ _ hE (by decide)).mono ?_; rintro e w1 ⟨L1, a1, c1, rfl, hT1, g1, hb1⟩; simp only [l0, l1] at hT1; have HT := Lib.hid hT1; have hLL := congrArg List.length hT1; simp only [List.length_map, List.length_cons, List.length_nil] at hLL; clear hT1; replace hE := hE.below hb1; replace hb := Below.then hb hb1)
    | (go_at_call 26; refine Calls.mono (z1.out L1 _ _ _ _ _ _ _ (by omega) rfl HT.out (by omega) g1 (by simp)) ?_; clear z1 g1 HT hLL; rintro e w1 ⟨rfl, hb1⟩; replace hb := hb.alloc hb.size (.cells #[.string ⟨#[97]⟩, .string ⟨#[]⟩, .string ⟨#[98]⟩] 9); replace hb := Below.then hb hb1; replace hE := (hE.below ((Below.refl _ _).alloc (Nat.le_refl _) (.cells #[.string ⟨#[97]⟩, .string ⟨#[]⟩, .string ⟨#[98]⟩] 9))).below hb1)
    | (go_at_call 26; refine Calls.mono (z2.out L1 _ _ _ _ _ _ _ (by omega) rfl HT.out (by omega) g1 (by simp)) ?_; clear z2 g1 HT hLL; rintro e w1 ⟨rfl, hb1⟩; replace hb := hb.alloc hb.size (.cells #[.string ⟨#[]⟩] 9); replace hb := Below.then hb hb1; replace hE := (hE.below ((Below.refl _ _).alloc (Nat.le_refl _) (.cells #[.string ⟨#[]⟩] 9))).below hb1)
    | (go_at_call 45; refine Calls.mono (j1.out _ _ _ _ rfl (by decide) (by decide) (by decide) (by simp)) ?_; clear j1; rintro e w1 ⟨rfl, hb1⟩; replace hb := hb.alloc hb.size (.cells #[.string ⟨#[97]⟩, .string ⟨#[]⟩, .string ⟨#[98]⟩] 9); replace hb := Below.then hb hb1; replace hE := (hE.below ((Below.refl _ _).alloc (Nat.le_refl _) (.cells #[.string ⟨#[97]⟩, .string ⟨#[]⟩, .string ⟨#[98]⟩] 9))).below hb1)
    | (go_at_call 45; refine Calls.mono (j2.out _) ?_; rintro e w1 ⟨rfl, hb1⟩; replace hE := hE.below hb1; replace hb := Below.then hb hb1)
    | (go_at_call 15; refine (law07_awake _ hE).mono ?_; rintro e w1 ⟨rfl, hb1⟩; replace hb := Below.then hb hb1))
  go_ret
  exact ⟨rfl, hb⟩
end Go.Proofs.YtnnggcaifbinbaaDoor
