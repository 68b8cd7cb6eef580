/- The walks of a filter's workers, the program's and the reference's, and of the reference's own helpers. Conditions: texts shorter than the model's bound for a search; the decoder's tables lie as Go lays them. -/
import Derived.Test.YtnnggcaifbinbaaDoorWorkers
namespace Go.Proofs.YtnnggcaifbinbaaDoor
open Go.RowKit

theorem ref08_Home (s : ByteArray) (n : Int) (w : World) (hs : s.size ≤ 9223372036854775807) :
    Calls Tryd.prog 35 #[.string s, .int .i64 n] w fun e w' => e = .returned (.int .i64 (homeL (bl s) n)) ∧ Below w.heap.size w w' := by
  have G0 : fewB n = false → homeL (bl s) n = -1 := fun h => by simp [homeL, h]
  have hF := Lib.hid (fun w => ref08_Few n w)
  cases hf : fewB n
  · rw [hf] at hF
    go_enter Tryd.func35, Tryd.ntmps35
    go_wp2_with (first
      | (go_at_call 57; refine (hF.out _).mono ?_; rintro e w1 ⟨rfl, rfl⟩))
    go_ret
    exact ⟨ret_int (G0 hf).symm, Below.refl _ _⟩
  · rw [hf] at hF
    obtain ⟨m, rfl, h1, h2⟩ := few_nat hf
    have G1 : homeL (bl s) (m : Int) = (restL (bl s) m : Nat) := by simp [homeL, hf]
    have hlt := hashL_lt (bl s)
    unfold two64 at hlt
    have hR : hashL (bl s) % m = restL (bl s) m := rfl
    have hR2 : restL (bl s) m < 64 := by rw [← hR]; exact Nat.lt_of_lt_of_le (Nat.mod_lt _ (by omega)) h2
    have hH := Lib.hid (fun w => ref08_Hash s w hs)
    rw [G1]
    generalize hashL (bl s) = H at *
    generalize restL (bl s) m = R at *
    have t1 : (H : Int).tmod (m : Int) = (R : Int) := by rw [← hR]; rfl
    have c1 : ¬ (m : Int) = 0 := by omega
    have c2 : IntKind.u64.wrap (m : Int) = m := by rw [IntKind.wrap_u64]; omega
    have c3 : IntKind.i64.wrap (R : Int) = R := by rw [IntKind.wrap_i64]; omega
    clear G0 G1
    go_enter Tryd.func35, Tryd.ntmps35
    go_wp2_with (first
      | (go_at_call 57; refine (hF.out _).mono ?_; rintro e w1 ⟨rfl, rfl⟩)
      | (go_at_call 32; refine (hH.out _).mono ?_; rintro e w1 ⟨rfl, hb⟩))
    go_ret
    exact ⟨rfl, hb⟩

theorem ref08_Gate (c n : Int) (w : World) (hc : c < 9223372036854775808) :
    Calls Tryd.prog 37 #[.int .i64 c, .int .i64 n] w fun e w' => e = .returned (.int .i64 (gateL c n)) ∧ w = w' := by
  have G0 : fewB n = false → gateL c n = -1 := fun h => by simp [gateL, h]
  have G1 : ¬ 1 ≤ c → gateL c n = -1 := fun h => by simp [gateL, h]
  have G2 : fewB n = true → 1 ≤ c → gateL c n = (c - 1) % n := fun h h2 => by simp [gateL, h, h2]
  have hF := Lib.hid (fun w => ref08_Few n w)
  cases hf : fewB n
  · rw [hf] at hF
    go_enter Tryd.func37, Tryd.ntmps37
    go_wp2_with (first
      | (go_at_call 57; refine (hF.out _).mono ?_; rintro e w1 ⟨rfl, rfl⟩))
    go_ret
    exact ⟨ret_int (G0 hf).symm, rfl⟩
  · rw [hf] at hF
    obtain ⟨m, rfl, h1, h2⟩ := few_nat hf
    by_cases hc1 : 1 ≤ c
    · have c1 : ¬ (m : Int) = 0 := by omega
      have c2 : ¬ c < 1 := by omega
      have c3 : IntKind.i64.wrap (c - 1) = c - 1 := by rw [IntKind.wrap_i64]; omega
      have t1 : (c - 1).tmod (m : Int) = (c - 1) % (m : Int) := Int.tmod_eq_emod_of_nonneg (by omega)
      go_enter Tryd.func37, Tryd.ntmps37
      go_wp2_with (first
        | (go_at_call 57; refine (hF.out _).mono ?_; rintro e w1 ⟨rfl, rfl⟩))
      go_ret
      exact ⟨ret_int (G2 hf hc1).symm, rfl⟩
    · have c2 : c < 1 := by omega
      go_enter Tryd.func37, Tryd.ntmps37
      go_wp2_with (first
        | (go_at_call 57; refine (hF.out _).mono ?_; rintro e w1 ⟨rfl, rfl⟩))
      go_ret
      exact ⟨ret_int (G1 hc1).symm, rfl⟩

theorem ref08_Hub (s : ByteArray) (n : Int) (w : World) (hs : s.size < 4294967281) :
    Calls Tryd.prog 39 #[.string s, .int .i64 n] w fun e w' => e = .returned (.int .i64 (hubL (bl s) n)) ∧ Below w.heap.size w w' := by
  have G0 : fewB n = false → hubL (bl s) n = -1 := fun h => by simp [hubL, h]
  have G1 : nameL (bl s) = false → hubL (bl s) n = -1 := fun h => by simp [hubL, h]
  have hF := Lib.hid (fun w => ref08_Few n w)
  have hN := Lib.hid (fun w => ref07_Name s w hs)
  cases hf : fewB n
  · rw [hf] at hF
    go_enter Tryd.func39, Tryd.ntmps39
    go_wp2_with (first
      | (go_at_call 57; refine (hF.out _).mono ?_; rintro e w1 ⟨rfl, rfl⟩))
    go_ret
    exact ⟨ret_int (G0 hf).symm, Below.refl _ _⟩
  · rw [hf] at hF
    obtain ⟨m, rfl, h1, h2⟩ := few_nat hf
    cases hn : nameL (bl s)
    · rw [hn] at hN
      go_enter Tryd.func39, Tryd.ntmps39
      go_wp2_with (first
        | (go_at_call 57; refine (hF.out _).mono ?_; rintro e w1 ⟨rfl, rfl⟩)
        | (go_at_call 28; refine (hN.out _).mono ?_; rintro e w1 ⟨rfl, hb⟩))
      go_ret
      exact ⟨ret_int (G1 hn).symm, hb⟩
    · rw [hn] at hN
      have G2 : hubL (bl s) (m : Int) = (restL (headL (bl s)) m : Nat) := by simp [hubL, hf, hn]
      have hlt := hashL_lt (headL (bl s))
      unfold two64 at hlt
      have hR : hashL (headL (bl s)) % m = restL (headL (bl s)) m := rfl
      have hR2 : restL (headL (bl s)) m < 64 := by rw [← hR]; exact Nat.lt_of_lt_of_le (Nat.mod_lt _ (by omega)) h2
      obtain ⟨hd, hhd⟩ : ∃ t, headL (bl s) = t := ⟨_, rfl⟩
      have hH := Lib.hid (fun (r : ByteArray) (hr : bl r = hd) w => ref08_Hash r w (first_size (s := s) (hr.trans hhd.symm) hs))
      have HH := Lib.hid hhd
      rw [G2]
      rw [hhd] at hlt hR hR2 ⊢
      clear G0 G1 G2 hhd
      obtain ⟨H, hHe⟩ : ∃ H, hashL hd = H := ⟨_, rfl⟩
      generalize restL hd m = R at *
      rw [hHe] at hlt hR
      have t1 : (H : Int).tmod (m : Int) = (R : Int) := by rw [← hR]; rfl
      have c1 : ¬ (m : Int) = 0 := by omega
      have c2 : IntKind.u64.wrap (m : Int) = m := by rw [IntKind.wrap_u64]; omega
      have c3 : IntKind.i64.wrap (R : Int) = R := by rw [IntKind.wrap_i64]; omega
      have HE := Lib.hid hHe
      clear hHe hR
      go_enter Tryd.func39, Tryd.ntmps39
      go_wp2_with (first
        | (go_at_call 57; refine (hF.out _).mono ?_; rintro e w1 ⟨rfl, rfl⟩)
        | (go_at_call 28; refine (hN.out _).mono ?_; rintro e w1 ⟨rfl, hb⟩)
        | (go_at_call 27; refine (ref07_Levels s _ (by omega)).mono ?_; rintro e w1 ⟨L, a, c, rfl, hT, hcells, hb1⟩; replace hb := Below.then hb hb1; obtain ⟨x, hx, hh, hlen⟩ := head_of hT (levelsL_ne _); obtain ⟨b, o, rfl, hcell⟩ := hcells.text hx; rw [Nat.add_zero] at hcell; replace hh : bl x = hd := hh.symm.trans HH.out; clear hT hx hcells)
        | (go_at_call 32; refine (hH.out _ hh _).mono ?_; rintro e w1 ⟨he, hb1⟩; rw [hh, HE.out] at he; subst he; replace hb := Below.then hb hb1))
      go_ret
      exact ⟨rfl, hb⟩

/-- A row of numbers comes back. -/
def RetInts (T : List Nat) (w : World) (e : Ending) (w' : World) : Prop :=
  ∃ (a : Option Addr) (c : Nat), e = .returned (.slice a T.length c) ∧ CellsA w' a (T.map fun (k : Nat) => Value.int .i64 k) ∧ Below w.heap.size w w'

theorem own_ints {w w' : World} {v : Value} {T : List Nat} (h2 : w'.ownsRow w.heap.size 3 1 v T.length (T.map fun (k : Nat) => Value.int .i64 k)) (h3 : Below w.heap.size w w') : RetInts T w (.returned v) w' := by
  rcases h2.2 with ⟨rfl, hn⟩ | ⟨g, cap, cur, rfl, hbg, hg, hnc, hcm, hcs, htake⟩
  · exact ⟨none, 0, by rw [hn], by rw [List.eq_nil_of_length_eq_zero hn]; exact CellsA.nil _ _, h3⟩
  · refine ⟨_, _, rfl, ?_, h3⟩
    intro j v hv
    refine ⟨_, _, rfl, ?_⟩
    rw [Nat.zero_add, cell_of_row _ _ _ _ _ _ hg, ← Array.getElem?_toList]
    rw [← htake] at hv
    have hj : j < T.length * 1 := by
      apply Nat.lt_of_not_le
      intro h
      rw [List.getElem?_eq_none (by rw [List.length_take]; omega)] at hv
      simp at hv
    rw [List.getElem?_take_of_lt hj] at hv
    exact hv
end Go.Proofs.YtnnggcaifbinbaaDoor
