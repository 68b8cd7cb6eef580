import Derived.Test.YtnnpokndajpkiaaGreatDoorShard
import Derived.Test.YtnnpokndajpkiaaGreatDoorJoinA
import Derived.Test.YtnnpokndajpkiaaGreatDoorJoinI
namespace Go.Proofs.YtnnpokndajpkiaaGreatDoor
open Go.RowKit
theorem shard_few (n : Int) (w : World) : Calls Tryz.prog 55 #[.int .i64 n] w fun e w' => e = .returned (.bool (fewB n)) ∧ w = w' := by
  unfold fewB; by_cases h1 : 1 ≤ n
  · have e1 : decide (1 ≤ n) = true := decide_eq_true h1
    go_enter Tryz.func55, Tryz.ntmps55
    go_wp2_with fail
    go_ret
    exact ⟨ret_bool (by simp [h1]), rfl⟩
  · have e1 : decide (1 ≤ n) = false := decide_eq_false h1
    go_enter Tryz.func55, Tryz.ntmps55
    go_wp2_with fail
    go_ret
    exact ⟨ret_bool (by simp [h1]), rfl⟩
theorem few_nat {n : Int} (h : fewB n = true) : ∃ m : Nat, n = m ∧ 1 ≤ m ∧ m ≤ 64 := by
  unfold fewB at h; simp at h
  exact ⟨n.toNat, by omega, by omega, by omega⟩
theorem one_text' {w : World} {s : ByteArray} : CellsA (w.alloc (.cells #[.string s] 9)) (some ⟨w.heap.size, 0, none⟩) ([s].map Value.string) := by
  intro j v hv; refine ⟨_, _, rfl, ?_⟩; rw [Nat.zero_add, cell_of_row _ _ _ _ _ _ (heap_alloc_new w _)]; simpa using hv
theorem catL_one (s : ByteArray) : catL [s] = bl s := by simp [catL]
theorem shard_rest (s : ByteArray) (m : Nat) (w : World) (hs : s.size ≤ 9223372036854775807) (h1 : 1 ≤ m) (h2 : m ≤ 64) :
    Calls Tryz.prog 84 #[.string s, .int .i64 m] w fun e w' => e = .returned (.int .i64 (restL (bl s) m : Nat)) ∧ Below w.heap.size w w' := by
  obtain ⟨i0, hi, hz0, hz1, hz2⟩ := info_parts (show (Tryz.prog.info? 9).map (fun i => (i.zero, i.size, i.bytes)) = some (some (.string ByteArray.empty), 1, 16) by kernel_rfl); have hb := Below.refl w.heap.size w; have hL := Lib.hid (shard_Hash (some ⟨w.heap.size, 0, none⟩) 1 [s] (w.alloc (.cells #[.string s] 9)) (by simp) (by simpa using hs) one_text'); rw [catL_one] at hL; have hlt := hashL_lt (bl s); unfold two64 at hlt; have hR : hashL (bl s) % m = restL (bl s) m := rfl; have hR2 : restL (bl s) m < 64 := by rw [← hR]; exact Nat.lt_of_lt_of_le (Nat.mod_lt _ (by omega)) h2
  generalize hashL (bl s) = H at *; generalize restL (bl s) m = R at *; have t1 : (H : Int).tmod (m : Int) = (R : Int) := by rw [← hR]; rfl
  have c1 : ¬ (m : Int) = 0 := by omega
  have c2 : IntKind.u64.wrap (m : Int) = m := by rw [IntKind.wrap_u64]; omega
  have c3 : IntKind.i64.wrap (R : Int) = R := by rw [IntKind.wrap_i64]; omega
  go_enter Tryz.func84, Tryz.ntmps84
  go_wp2_with (first
    | (go_at_call 101; refine hL.out.mono ?_; rintro e w1 ⟨rfl, rfl⟩; replace hb := hb.alloc (Nat.le_refl _) (.cells #[.string s] 9)))
  go_ret
  exact ⟨rfl, hb⟩
theorem shard_Home (s : ByteArray) (n : Int) (w : World) (hs : s.size ≤ 9223372036854775807) :
    Calls Tryz.prog 63 #[.string s, .int .i64 n] w fun e w' => e = .returned (.int .i64 (homeL (bl s) n)) ∧ Below w.heap.size w w' := by
  unfold homeL; have hF := Lib.hid (fun w => shard_few n w); cases hf : fewB n
  · rw [hf] at hF
    go_enter Tryz.func63, Tryz.ntmps63
    go_wp2_with (first
      | (go_at_call 55; refine (hF.out _).mono ?_; rintro e w1 ⟨rfl, rfl⟩))
    go_ret
    exact ⟨rfl, Below.refl _ _⟩
  · rw [hf] at hF
    obtain ⟨m, rfl, h1, h2⟩ := few_nat hf; go_enter Tryz.func63, Tryz.ntmps63
    go_wp2_with (first
      | (go_at_call 55; refine (hF.out _).mono ?_; rintro e w1 ⟨rfl, rfl⟩)
      | (go_at_call 84; refine (shard_rest s m _ hs h1 h2).mono ?_; rintro e w1 ⟨rfl, hb⟩))
    go_ret
    exact ⟨rfl, hb⟩
theorem shard_Gate (c n : Int) (w : World) (hc : c < 9223372036854775808) :
    Calls Tryz.prog 34 #[.int .i64 c, .int .i64 n] w fun e w' => e = .returned (.int .i64 (gateL c n)) ∧ w = w' := by
  have G0 : fewB n = false → gateL c n = -1 := fun h => by simp [gateL, h]
  have G1 : ¬ 1 ≤ c → gateL c n = -1 := fun h => by simp [gateL, h]
  have G2 : fewB n = true → 1 ≤ c → gateL c n = (c - 1) % n := fun h h2 => by simp [gateL, h, h2]
  have hF := Lib.hid (fun w => shard_few n w); cases hf : fewB n
  · rw [hf] at hF
    go_enter Tryz.func34, Tryz.ntmps34
    go_wp2_with (first
      | (go_at_call 55; refine (hF.out _).mono ?_; rintro e w1 ⟨rfl, rfl⟩))
    go_ret
    exact ⟨ret_int (G0 hf).symm, rfl⟩
  · rw [hf] at hF
    obtain ⟨m, rfl, h1, h2⟩ := few_nat hf; by_cases hc1 : 1 ≤ c
    · have c1 : ¬ (m : Int) = 0 := by omega
      have c2 : ¬ c < 1 := by omega
      have c3 : IntKind.i64.wrap (c - 1) = c - 1 := by rw [IntKind.wrap_i64]; omega
      have t1 : (c - 1).tmod (m : Int) = (c - 1) % (m : Int) := Int.tmod_eq_emod_of_nonneg (by omega); go_enter Tryz.func34, Tryz.ntmps34
      go_wp2_with (first
        | (go_at_call 55; refine (hF.out _).mono ?_; rintro e w1 ⟨rfl, rfl⟩))
      go_ret
      exact ⟨ret_int (G2 hf hc1).symm, rfl⟩
    · have c2 : c < 1 := by omega
      go_enter Tryz.func34, Tryz.ntmps34
      go_wp2_with (first
        | (go_at_call 55; refine (hF.out _).mono ?_; rintro e w1 ⟨rfl, rfl⟩))
      go_ret
      exact ⟨ret_int (G1 hc1).symm, rfl⟩
end Go.Proofs.YtnnpokndajpkiaaGreatDoor
