/- The walks of the laws on workers: awake, ShardSpots. Conditions: the decoder's tables lie as Go lays them. -/
import Derived.Test.YtnnggcaifbinbaaDoorRefHubs
namespace Go.Proofs.YtnnggcaifbinbaaDoor
open Go.RowKit

theorem two_texts {w : World} {s t : ByteArray} : CellsA (w.alloc (.cells #[.string s, .string t] 9)) (some ⟨w.heap.size, 0, none⟩) ([s, t].map Value.string) := by
  intro j v hv
  refine ⟨_, _, rfl, ?_⟩
  rw [Nat.zero_add, cell_of_row _ _ _ _ _ _ (heap_alloc_new w _)]
  simpa using hv

theorem law08_awake (w : World) (hE : Env w) : Calls Tryd.prog 30 #[] w fun e w' => e = .returned (.bool true) ∧ Below w.heap.size w w' := by
  obtain ⟨i0, hi, hz0, hz1, hz2⟩ := info_parts (show (Tryd.prog.info? 9).map (fun i => (i.zero, i.size, i.bytes)) = some (some (.string ByteArray.empty), 1, 16) by kernel_rfl)
  have k1 : hashL (catL [⟨#[102, 111, 111]⟩, ⟨#[98, 97, 114]⟩]) = 9625390261332436968 := by kernel_rfl
  have k2 : homeL (bl ⟨#[98]⟩) 64 = 37 := by kernel_rfl
  have k3 : hubL (bl ⟨#[47, 120]⟩) 4 = 1 := by kernel_rfl
  have k4 : hubsL (bl ⟨#[43, 47, 97]⟩) 3 = [0, 1, 2] := by kernel_rfl
  have hb := Below.refl w.heap.size w
  have hH := Lib.hid (shard_Hash (some ⟨w.heap.size, 0, none⟩) 2 [⟨#[102, 111, 111]⟩, ⟨#[98, 97, 114]⟩] (w.alloc (.cells #[.string ⟨#[102, 111, 111]⟩, .string ⟨#[98, 97, 114]⟩] 9)) (by decide) (by decide) two_texts)
  rw [k1] at hH
  have h2 := Lib.hid (fun w => shard_Home ⟨#[98]⟩ 64 w (by decide))
  have h3 := Lib.hid (fun w hE => shard_Hub ⟨#[47, 120]⟩ 4 w hE (by decide))
  have h4 := Lib.hid (fun w hE => shard_Hubs ⟨#[43, 47, 97]⟩ 3 w hE (by decide))
  rw [k2] at h2
  rw [k3] at h3
  rw [k4] at h4
  clear k1 k2 k3 k4
  go_enter Tryd.func30, Tryd.ntmps30
  go_wp2_with (first
    | (go_at_call 31; refine hH.out.mono ?_; rintro e w1 ⟨rfl, rfl⟩; replace hb := hb.alloc (Nat.le_refl _) (.cells #[.string ⟨#[102, 111, 111]⟩, .string ⟨#[98, 97, 114]⟩] 9); replace hE := hE.below hb)
    | (go_at_call 34; refine (h2.out _).mono ?_; rintro e w1 ⟨rfl, hb1⟩; replace hE := hE.below hb1; replace hb := Below.then hb hb1)
    | (go_at_call 38; refine (h3.out _ hE).mono ?_; rintro e w1 ⟨rfl, hb1⟩; replace hE := hE.below hb1; replace hb := Below.then hb hb1)
    | (go_at_call 41; refine (h4.out _ hE).mono ?_; rintro e w1 ⟨a4, c4, rfl, _, hb1⟩; replace hE := hE.below hb1; replace hb := Below.then hb hb1))
  go_ret
  exact ⟨rfl, hb⟩

/-- What a whole number's form says of it. -/
def Whole (n : Int) : Prop := -9223372036854775808 ≤ n ∧ n < 9223372036854775808
theorem wf_of {n : Int} (h : (Lit.int .i64 n).wf = true) : Whole n := by
  unfold Whole
  simp [Lit.wf] at h
  constructor <;> first | exact h.1 | exact h.2 | omega

theorem law08_ShardSpots (s : ByteArray) (c n : Int) (w : World) (hE : Env w) (hc : Whole c) (hn : Whole n) :
    Calls Tryd.prog 8 #[.string s, .int .i64 c, .int .i64 n] w fun e w' => e = .returned (.bool true) ∧ Below w.heap.size w w' := by
  have hb := Below.refl w.heap.size w
  by_cases hsm : s.size ≤ 2000
  · have h1 : ¬ (2000 : Int) < (s.size : Int) := by omega
    have hs1 : s.size < 4294967281 := by omega
    have hs2 : s.size ≤ 9223372036854775807 := by omega
    have hc' := hc.2
    have e1 : (homeL (bl s) n == homeL (bl s) n) = true := beq_self_eq_true _
    have e2 : (gateL c n == gateL c n) = true := beq_self_eq_true _
    have e3 : (hubL (bl s) n == hubL (bl s) n) = true := beq_self_eq_true _
    have hlen : (hubsL (bl s) n).length ≤ 9223372036854775807 := by
      unfold hubsL
      by_cases hf : fewB n = true
      · obtain ⟨m, rfl, _, _⟩ := few_nat hf
        cases filterL (bl s) <;> cases wildL (bl s) <;> simp [hf] <;> omega
      · simp [hf]
    clear hsm hc hn
    go_enter Tryd.func8, Tryd.ntmps8
    go_wp2_with (first
      | (go_at_call 34; refine (shard_Home _ _ _ hs2).mono ?_; rintro e w1 ⟨rfl, hb1⟩; replace hE := hE.below hb1; replace hb := Below.then hb hb1)
      | (go_at_call 35; refine (ref08_Home _ _ _ hs2).mono ?_; rintro e w1 ⟨rfl, hb1⟩; replace hE := hE.below hb1; replace hb := Below.then hb hb1)
      | (go_at_call 36; refine (shard_Gate _ _ _ hc').mono ?_; rintro e w1 ⟨rfl, rfl⟩)
      | (go_at_call 37; refine (ref08_Gate _ _ _ hc').mono ?_; rintro e w1 ⟨rfl, rfl⟩)
      | (go_at_call 38; refine (shard_Hub _ _ _ hE hs1).mono ?_; rintro e w1 ⟨rfl, hb1⟩; replace hE := hE.below hb1; replace hb := Below.then hb hb1)
      | (go_at_call 39; refine (ref08_Hub _ _ _ hs1).mono ?_; rintro e w1 ⟨rfl, hb1⟩; replace hE := hE.below hb1; replace hb := Below.then hb hb1)
      | (go_at_call 41; refine (shard_Hubs _ _ _ hE hs1).mono ?_; rintro e w1 ⟨b1, d1, rfl, g1, hb1⟩; replace hE := hE.below hb1; replace hb := Below.then hb hb1)
      | (go_at_call 42; refine (ref08_Hubs _ _ _ hs1).mono ?_; rintro e w1 ⟨b2, d2, rfl, g2, hb1⟩; replace hE := hE.below hb1; replace hb := Below.then hb hb1; replace g1 := g1.below hb1)
      | (go_at_call 40; refine (law08_SameInts _ _ _ _ _ _ hlen g1 g2).mono ?_; rintro e w1 ⟨rfl, hb1⟩; replace hE := hE.below hb1; replace hb := Below.then hb hb1; clear g1 g2)
      | (go_at_call 30; refine (law08_awake _ hE).mono ?_; rintro e w1 ⟨rfl, hb1⟩; replace hb := Below.then hb hb1))
    go_ret
    exact ⟨rfl, hb⟩
  · have h1 : (2000 : Int) < (s.size : Int) := by omega
    clear hsm
    go_enter Tryd.func8, Tryd.ntmps8
    go_wp2_with (go_at_call 30; refine (law08_awake _ hE).mono ?_; rintro e w1 ⟨rfl, hb1⟩)
    go_ret
    exact ⟨rfl, hb1⟩
end Go.Proofs.YtnnggcaifbinbaaDoor
