/- The walk of ShardKnown: the chapter's examples on hashes and workers. Conditions: the decoder's tables lie as Go lays them. -/
import Derived.Test.YtnnggcaifbinbaaDoorLaw08
namespace Go.Proofs.YtnnggcaifbinbaaDoor
open Go.RowKit

theorem one_text_at {w : World} {b : Nat} {s : ByteArray} (h : w.heap.size = b) : CellsA (w.alloc (.cells #[.string s] 9)) (some ⟨b, 0, none⟩) ([s].map Value.string) := by
  subst h; exact one_text'
theorem some_ints {w : World} {b : Nat} {T : List Nat} (h : w.heap.size = b) : CellsA (w.alloc (.cells (ints T).toArray 3)) (some ⟨b, 0, none⟩) (ints T) := by
  subst h
  intro j v hv
  refine ⟨_, _, rfl, ?_⟩
  rw [Nat.zero_add, cell_of_row _ _ _ _ _ _ (heap_alloc_new w _)]
  simpa using hv

theorem same_built (T : List Nat) (hT : T.length ≤ 9223372036854775807) (a : Option Addr) (ca cb n b : Nat) (w : World) (hn : T.length = n) (ha : CellsA w a (ints T)) (h : w.heap.size = b) :
    Calls Tryd.prog 40 #[.slice a n ca, .slice (some ⟨b, 0, none⟩) n cb] (w.alloc (.cells (ints T).toArray 3)) fun e w' => e = .returned (.bool true) ∧ Below (w.alloc (.cells (ints T).toArray 3)).heap.size (w.alloc (.cells (ints T).toArray 3)) w' := by
  subst hn
  exact law08_SameInts _ _ _ _ T _ hT (ha.below ((Below.refl _ _).alloc (Nat.le_refl _) _)) (some_ints h)

set_option maxRecDepth 100000 in
theorem law08_ShardKnown (w : World) (hE : Env w) : Calls Tryd.prog 9 #[] w fun e w' => e = .returned (.bool true) ∧ Below w.heap.size w w' := by
  obtain ⟨i0, hi, hz0, hz1, hz2⟩ := info_parts (show (Tryd.prog.info? 9).map (fun i => (i.zero, i.size, i.bytes)) = some (some (.string ByteArray.empty), 1, 16) by kernel_rfl)
  obtain ⟨j0, ji, jz0, jz1, jz2⟩ := info_parts (show (Tryd.prog.info? 3).map (fun i => (i.zero, i.size, i.bytes)) = some (some (.int .i64 0), 1, 8) by kernel_rfl)
  have hb := Below.refl w.heap.size w
  have n0 := Lib.hid (fun w => shard_Hash none 0 [] w (by decide) (by decide) (CellsA.nil _ _))
  have n1 := Lib.hid (fun (w : World) (b : Nat) (h : w.heap.size = b) => shard_Hash (some ⟨b, 0, none⟩) 1 [⟨#[97]⟩] (w.alloc (.cells #[.string ⟨#[97]⟩] 9)) (by decide) (by decide) (one_text_at h))
  have n2 := Lib.hid (fun (w : World) (b : Nat) (h : w.heap.size = b) => shard_Hash (some ⟨b, 0, none⟩) 1 [⟨#[102, 111, 111, 98, 97, 114]⟩] (w.alloc (.cells #[.string ⟨#[102, 111, 111, 98, 97, 114]⟩] 9)) (by decide) (by decide) (one_text_at h))
  rw [show hashL (catL []) = 14695981039346656037 by kernel_rfl] at n0
  rw [show hashL (catL [⟨#[97]⟩]) = 12638187200555641996 by kernel_rfl] at n1
  rw [show hashL (catL [⟨#[102, 111, 111, 98, 97, 114]⟩]) = 9625390261332436968 by kernel_rfl] at n2
  have k0 : homeL (bl { data := #[97] }) 4 = 0 := by kernel_rfl
  have k1 : homeL (bl { data := #[97] }) 65 = -1 := by kernel_rfl
  have k2 : gateL 1 4 = 0 := by kernel_rfl
  have k3 : gateL 6 4 = 1 := by kernel_rfl
  have k4 : gateL 0 4 = -1 := by kernel_rfl
  have k5 : hubL (bl { data := #[97, 47, 98] }) 4 = 0 := by kernel_rfl
  have k6 : hubL (bl { data := #[43] }) 4 = -1 := by kernel_rfl
  have k7 : hubsL (bl { data := #[97, 47, 35] }) 4 = [0] := by kernel_rfl
  have k8 : hubsL (bl { data := #[43, 47, 97] }) 3 = [0, 1, 2] := by kernel_rfl
  have k9 : hubsL (bl { data := #[97, 43] }) 3 = [] := by kernel_rfl
  have k10 : hubsL (bl { data := #[35] }) 0 = [] := by kernel_rfl
  have kw : wildL (bl { data := #[43, 47, 97] }) = true := by kernel_rfl
  have z1 := Lib.hid (same_built [0] (by decide))
  have z2 := Lib.hid (same_built [0, 1, 2] (by decide))
  go_enter Tryd.func9, Tryd.ntmps9
  go_wp2_with (first
    | (go_at_call 31; refine Calls.mono (n0.out _) ?_; clear n0; rintro e w1 ⟨rfl, rfl⟩)
    | (go_at_call 31; refine Calls.mono (n1.out _ _ (by simp)) ?_; clear n1; rintro e w1 ⟨rfl, rfl⟩; replace hb := hb.alloc hb.size (.cells #[.string ⟨#[97]⟩] 9))
    | (go_at_call 31; refine Calls.mono (n2.out _ _ (by simp)) ?_; clear n2; rintro e w1 ⟨rfl, rfl⟩; replace hb := hb.alloc hb.size (.cells #[.string ⟨#[102, 111, 111, 98, 97, 114]⟩] 9); replace hE := hE.below hb)
    | (go_at_call 34; refine (shard_Home _ _ _ (by decide)).mono ?_; rintro e w1 ⟨rfl, hb1⟩; replace hE := hE.below hb1; replace hb := Below.then hb hb1)
    | (go_at_call 36; refine (shard_Gate _ _ _ (by decide)).mono ?_; rintro e w1 ⟨rfl, rfl⟩)
    | (go_at_call 38; refine (shard_Hub _ _ _ hE (by decide)).mono ?_; rintro e w1 ⟨rfl, hb1⟩; replace hE := hE.below hb1; replace hb := Below.then hb hb1)
    | (go_at_call 41; refine (shard_Hubs _ _ _ hE (by decide)).mono ?_; rintro e w1 ⟨a1, d1, he, g1, hb1⟩; simp only [k7, k8, k9, k10] at he g1; subst he; replace hE := hE.below hb1; replace hb := Below.then hb hb1)
    | (go_at_call 40; refine Calls.mono (z1.out _ _ _ _ _ _ rfl g1 (by simp)) ?_; clear z1 g1; rintro e w1 ⟨rfl, hb1⟩; replace hb := hb.alloc hb.size (.cells #[.int .i64 0] 3); replace hb := Below.then hb hb1; replace hE := (hE.below ((Below.refl _ _).alloc (Nat.le_refl _) (.cells #[.int .i64 0] 3))).below hb1)
    | (go_at_call 40; refine Calls.mono (z2.out _ _ _ _ _ _ rfl g1 (by simp)) ?_; clear z2 g1; rintro e w1 ⟨rfl, hb1⟩; replace hb := hb.alloc hb.size (.cells #[.int .i64 0, .int .i64 1, .int .i64 2] 3); replace hb := Below.then hb hb1; replace hE := (hE.below ((Below.refl _ _).alloc (Nat.le_refl _) (.cells #[.int .i64 0, .int .i64 1, .int .i64 2] 3))).below hb1)
    | (go_at_call 43; refine (ref07_Wild _ _ (by decide)).mono ?_; rintro e w1 ⟨rfl, hb1⟩; replace hE := hE.below hb1; replace hb := Below.then hb hb1)
    | (go_at_call 30; refine (law08_awake _ hE).mono ?_; rintro e w1 ⟨rfl, hb1⟩; replace hb := Below.then hb hb1))
  go_ret
  exact ⟨rfl, hb⟩
end Go.Proofs.YtnnggcaifbinbaaDoor
