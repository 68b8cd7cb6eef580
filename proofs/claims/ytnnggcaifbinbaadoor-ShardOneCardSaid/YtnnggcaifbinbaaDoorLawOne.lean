/- The walk of ShardOne. Conditions: the decoder's tables lie as Go lays them. -/
import Derived.Test.YtnnggcaifbinbaaDoorLawTakes
import Derived.Deep.RegionHeld3
namespace Go.Proofs.YtnnggcaifbinbaaDoor
open Go.RowKit

set_option maxHeartbeats 2000000 in
set_option maxRecDepth 100000 in
theorem law08_ShardOne (s : ByteArray) (c n : Int) (w : World) (hE : Env w) (hc : Whole c) (hn : Whole n) :
    Calls Tryd.prog 10 #[.string s, .int .i64 c, .int .i64 n] w fun e w' => e = .returned (.bool true) ∧ Below w.heap.size w w' := by
  have hb := Below.refl w.heap.size w
  by_cases hsm : s.size ≤ 2000 ∧ 1 ≤ c ∧ c ≤ 2147483648 ∧ 1 ≤ n ∧ n ≤ 64
  · obtain ⟨s1, s2, s3, s4, s5⟩ := hsm
    obtain ⟨m, rfl⟩ : ∃ m : Nat, n = m := ⟨n.toNat, by omega⟩
    obtain ⟨d, rfl⟩ : ∃ d : Nat, c = (d : Int) + 1 := ⟨(c - 1).toNat, by omega⟩
    have m1 : 1 ≤ m := by omega
    have m2 : m ≤ 64 := by omega
    have hs1 : s.size < 4294967281 := by omega
    have hs2 : s.size ≤ 9223372036854775807 := by omega
    have c1 : ¬ (2000 : Int) < (s.size : Int) := by omega
    have c2 : ¬ (d : Int) + 1 < 1 := by omega
    have c5 : ¬ (2147483648 : Int) < (d : Int) + 1 := by omega
    have c3 : ¬ (m : Int) < 1 := by omega
    have c4 : ¬ (64 : Int) < (m : Int) := by omega
    have G1 := gate_nat (c := d) m1 m2
    have G2 : gateL ((d : Int) + 1 + 1) (m : Int) = ((d + 1) % m : Nat) := gate_nat (c := d + 1) m1 m2
    have G3 : gateL ((d : Int) + 1) 1 = 0 := by
      have h := gate_nat (c := d) (m := 1) (by omega) (by omega)
      rw [Nat.mod_one] at h
      exact h
    have P1 := home_nat (a := bl s) m1 m2
    have P2 := home_one (bl s)
    have g2 : (d + 1) % m = (d % m + 1) % m := (Nat.mod_add_mod d m 1).symm
    have gl : d % m < m := Nat.mod_lt _ m1
    have rl : restL (bl s) m < m := restL_lt _ m1
    rw [g2] at G2
    obtain ⟨g, hg⟩ : ∃ g, d % m = g := ⟨_, rfl⟩
    obtain ⟨r, hr⟩ : ∃ r, restL (bl s) m = r := ⟨_, rfl⟩
    rw [hg] at G1 G2 gl
    rw [hr] at P1 rl
    have t1 : ((g : Int) + 1).tmod (m : Int) = (((g + 1) % m : Nat) : Int) := rfl
    obtain ⟨x, hx⟩ : ∃ x, (g + 1) % m = x := ⟨_, rfl⟩
    rw [hx] at t1 G2
    have t2 : ¬ (m : Int) = 0 := by omega
    have t3 : ((x : Int) == (x : Int)) = true := beq_self_eq_true _
    have t4 : IntKind.i64.wrap ((g : Int) + 1) = (g : Int) + 1 := by rw [IntKind.wrap_i64]; omega
    have t5 : IntKind.i64.wrap ((d : Int) + 1 + 1) = (d : Int) + 1 + 1 := by rw [IntKind.wrap_i64]; omega
    have q1 : ¬ (r : Int) < 0 := by omega
    have q2 : decide (m ≤ r) = false := decide_eq_false (by omega)
    have q2' : decide ((m : Int) ≤ (r : Int)) = false := decide_eq_false (by omega)
    have q4' : decide ((m : Int) ≤ (g : Int)) = false := decide_eq_false (by omega)
    have q1' : decide ((r : Int) < 0) = false := decide_eq_false (by omega)
    have q3' : decide ((g : Int) < 0) = false := decide_eq_false (by omega)
    have t3' : ((x : Int) != (x : Int)) = false := bne_self_eq_false _
    have q3 : ¬ (g : Int) < 0 := by omega
    have q4 : decide (m ≤ g) = false := decide_eq_false (by omega)
    have A1 := Lib.hid (fun w => shard_Home s (m : Int) w hs2)
    have A2 := Lib.hid (fun w => shard_Home s 1 w hs2)
    have A3 := Lib.hid (fun w => shard_Gate ((d : Int) + 1) (m : Int) w (by omega))
    have A4 := Lib.hid (fun w => shard_Gate ((d : Int) + 1 + 1) (m : Int) w (by omega))
    have A5 := Lib.hid (fun w => shard_Gate ((d : Int) + 1) 1 w (by omega))
    have A6 := Lib.hid (fun w hE => shard_Hubs s (m : Int) w hE hs1)
    rw [P1] at A1
    rw [P2] at A2
    rw [G1] at A3
    rw [G2] at A4
    rw [G3] at A5
    have S0 := @hubs_sorted (bl s) m m1 m2
    have S1 := (@hubs_len (bl s) m m1 m2).1
    have S2 : nameL (bl s) = true → hubsL (bl s) (m : Int) = [restL (headL (bl s)) m] ∧ hubL (bl s) (m : Int) = (restL (headL (bl s)) m : Nat) := fun h => ⟨hubs_name m1 m2 h, hub_name m1 m2 h⟩
    obtain ⟨X, hX⟩ : ∃ X, hubsL (bl s) (m : Int) = X := ⟨_, rfl⟩
    obtain ⟨R, hR⟩ : ∃ R, restL (headL (bl s)) m = R := ⟨_, rfl⟩
    rw [hX] at S0 S1 S2 A6
    rw [hR] at S2
    have SS := Lib.hid S0
    have SN := Lib.hid S2
    have HN := Lib.hid (fun w hE => topic_Name s w hE hs1)
    have HU := Lib.hid (fun w hE => shard_Hub s (m : Int) w hE hs1)
    clear S0 S2 hX hR
    clear P1 P2 G1 G2 G3 hg hr g2 hx s1 s2 s3 s4 s5 hc hn
    go_enter Tryd.func10, Tryd.ntmps10
    go_wp2_with (first
      | (go_at_call 34; refine Calls.mono (A1.out _) ?_; rintro e w1 ⟨rfl, hb1⟩; replace hE := hE.below hb1; replace hb := Below.then hb hb1; clear A1)
      | (go_at_call 34; refine Calls.mono (A2.out _) ?_; rintro e w1 ⟨rfl, hb1⟩; replace hE := hE.below hb1; replace hb := Below.then hb hb1)
      | (go_at_call 36; refine Calls.mono (A3.out _) ?_; rintro e w1 ⟨rfl, rfl⟩; clear A3)
      | (go_at_call 36; refine Calls.mono (A4.out _) ?_; rintro e w1 ⟨rfl, rfl⟩; clear A4)
      | (go_at_call 36; refine Calls.mono (A5.out _) ?_; rintro e w1 ⟨rfl, rfl⟩)
      | (go_at_call 41; refine Calls.mono (A6.out _ hE) ?_; rintro e w1 ⟨b1, d1, rfl, g1, hb1⟩; replace hE := hE.below hb1; replace hb := Below.then hb hb1))
    clear A2 A5 A6
    go_loopw [11] (fun i wr => ∃ k : Nat, k ≤ X.length ∧ i = .int .i64 k ∧ Below w1.heap.size w1 wr) (fun i _ => X.length - (intOf i).toNat)
    case atStart => exact ⟨0, by omega, rfl, Below.refl _ _⟩
    case round =>
      obtain ⟨k, hk, rfl, hbr⟩ := hrel
      by_cases hlt : k < X.length
      · obtain ⟨y, hy⟩ : ∃ y, X[k]? = some y := ⟨_, List.getElem?_eq_getElem hlt⟩
        have hym := SS.out.1 k y hy
        have y1 : decide ((y : Int) < 0) = false := decide_eq_false (by omega)
        have y2 : decide ((m : Int) ≤ (y : Int)) = false := decide_eq_false (by omega)
        have y3 : decide (m ≤ y) = false := decide_eq_false (by omega)
        obtain ⟨bo, oo, rfl, hcell⟩ := (g1.below hbr).int hy
        by_cases hk0 : k = 0
        · subst hk0
          clear hy
          rw [Nat.add_zero] at hcell
          go_wp2_with fail
          go_quiet (fail)
          generalize hw2 : World.drewN wr _ = w9
          have hq2 := Below.then hbr (below_draws hw2)
          clear hw2
          go_wp2_with fail
          go_roundw
          case rel => exact ⟨1, by omega, by go_num, hq2⟩
          case measure => simp [intOf]; omega
        · obtain ⟨j, hj⟩ : ∃ j, k = j + 1 := ⟨k - 1, by omega⟩
          obtain ⟨z, hz⟩ : ∃ z, X[j]? = some z := ⟨_, List.getElem?_eq_getElem (by omega)⟩
          have hzy := SS.out.2 j z y hz (by rw [← hj]; exact hy)
          obtain ⟨bo', oo', heq, hcell2⟩ := (g1.below hbr).int hz
          simp only [Option.some.injEq, Addr.mk.injEq, and_true] at heq
          obtain ⟨rfl, rfl⟩ := heq
          have z1 : decide ((y : Int) ≤ (z : Int)) = false := decide_eq_false (by omega)
          have z2 : decide (y ≤ z) = false := decide_eq_false (by omega)
          have z3 : decide ((0 : Int) < (k : Int)) = true := decide_eq_true (by omega)
          have z4 : (k : Int) - 1 = (j : Int) := by omega
          have z5 : decide (0 < k) = true := decide_eq_true (by omega)
          have hjX : j < X.length := by omega
          have HJ := Lib.hid hj
          clear hy hz hj
          go_wp2_with fail
          go_quiet (fail)
          generalize hw2 : World.drewN wr _ = w9
          have hq2 := Below.then hbr (below_draws hw2)
          clear hw2
          go_wp2_with fail
          go_roundw
          case rel => exact ⟨k + 1, by omega, by go_num, hq2⟩
          case measure => simp [intOf]; omega
      · have : k = X.length := by omega
        subst this
        have hE' : Env wr := hE.below hbr
        have hb' : Below w.heap.size w wr := Below.then hb hbr
        cases hn : nameL (bl s)
        · rw [hn] at HN
          go_wp2_with fail
          refine wp_region_noPanic ?_
          refine wp_region_held_drew (S := fun w' => Env w' ∧ Below w.heap.size w w') (by kernel_rfl) ?_ (fun hHeld => ?_)
          · (go_split_ands; first | exact ⟨by assumption, by assumption⟩ | exact ⟨Env.below (by assumption) (below_draws (n := 1) rfl), Below.then (by assumption) (below_draws (n := 1) rfl)⟩ | exact ⟨Env.below (by assumption) (by assumption), Below.then (by assumption) (by assumption)⟩)
          refine wpAnyH_take (i := 0) (oi := ⟨some 114, _, _, _, _, _⟩) (v := ?_) rfl (by kernel_rfl) (by kernel_rfl) (by kernel_rfl) (fun _ _ _ h => h) (Or.inl ⟨by rfl, ?_⟩) (by assumption) ?_
          rotate_left
          · (intro w hSw; (try dsimp only at hSw); go_simp; try with_reducible rfl)
          try simp only [Act.put, List.setIfInBounds_toArray, List.set_cons_zero, List.set_cons_succ]
          refine wpAnyH_ready (rs := [1]) (by kernel_rfl) (by simp) ?_
          refine AllReadyH.cons (o := ⟨some 115, _, _, _, _, _⟩) rfl (fun K hK => ?_) AllReadyH.nil
          go_simp
          (go_split_ands; go_at_call 21; refine Calls.mono (HN.out _ (by assumption)) ?_; rintro e w2 ⟨rfl, hb1⟩; go_simp)
          refine hK.out _ _ ?_ (fun hHeld => ?_)
          · (go_split_ands; first | exact ⟨by assumption, by assumption⟩ | exact ⟨Env.below (by assumption) (below_draws (n := 1) rfl), Below.then (by assumption) (below_draws (n := 1) rfl)⟩ | exact ⟨Env.below (by assumption) (by assumption), Below.then (by assumption) (by assumption)⟩)
          clear hK K
          try simp only [Act.put, List.setIfInBounds_toArray, List.set_cons_zero, List.set_cons_succ]
          refine wpAnyH_take (i := 2) (oi := ⟨some 116, _, _, _, _, _⟩) (v := ?_) rfl (by kernel_rfl) (by kernel_rfl) (by kernel_rfl) (fun _ _ _ h => h) (Or.inl ⟨by rfl, ?_⟩) (by assumption) ?_
          rotate_left
          · (intro w hSw; (try dsimp only at hSw); go_simp; try with_reducible rfl)
          try simp only [Act.put, List.setIfInBounds_toArray, List.set_cons_zero, List.set_cons_succ]
          refine wpAnyH_take (i := 3) (oi := ⟨some 117, _, _, _, _, _⟩) (v := ?_) rfl (by kernel_rfl) (by kernel_rfl) (by kernel_rfl) (fun _ _ _ h => h) (Or.inl ⟨by rfl, ?_⟩) (by assumption) ?_
          rotate_left
          · (intro w hSw; (try dsimp only at hSw); go_simp; try with_reducible rfl)
          try simp only [Act.put, List.setIfInBounds_toArray, List.set_cons_zero, List.set_cons_succ]
          refine wpAnyH_take (i := 4) (oi := ⟨some 118, _, _, _, _, _⟩) (v := undef) rfl (by kernel_rfl) (by kernel_rfl) (by kernel_rfl) (fun _ _ _ h => h) (Or.inr ⟨by kernel_rfl, rfl⟩) (by assumption) ?_
          try simp only [Act.put, List.setIfInBounds_toArray, List.set_cons_zero, List.set_cons_succ]
          refine wpAnyH_take (i := 5) (oi := ⟨some 119, _, _, _, _, _⟩) (v := undef) rfl (by kernel_rfl) (by kernel_rfl) (by kernel_rfl) (fun _ _ _ h => h) (Or.inr ⟨by kernel_rfl, rfl⟩) (by assumption) ?_
          try simp only [Act.put, List.setIfInBounds_toArray, List.set_cons_zero, List.set_cons_succ]
          refine wpAnyH_take (i := 6) (oi := ⟨some 120, _, _, _, _, _⟩) (v := undef) rfl (by kernel_rfl) (by kernel_rfl) (by kernel_rfl) (fun _ _ _ h => h) (Or.inr ⟨by kernel_rfl, rfl⟩) (by assumption) ?_
          try simp only [Act.put, List.setIfInBounds_toArray, List.set_cons_zero, List.set_cons_succ]
          refine wpAnyH_take (i := 7) (oi := ⟨some 121, _, _, _, _, _⟩) (v := undef) rfl (by kernel_rfl) (by kernel_rfl) (by kernel_rfl) (fun _ _ _ h => h) (Or.inr ⟨by kernel_rfl, rfl⟩) (by assumption) ?_
          try simp only [Act.put, List.setIfInBounds_toArray, List.set_cons_zero, List.set_cons_succ]
          refine wpAnyH_take (i := 8) (oi := ⟨some 122, _, _, _, _, _⟩) (v := undef) rfl (by kernel_rfl) (by kernel_rfl) (by kernel_rfl) (fun _ _ _ h => h) (Or.inr ⟨by kernel_rfl, rfl⟩) (by assumption) ?_
          try simp only [Act.put, List.setIfInBounds_toArray, List.set_cons_zero, List.set_cons_succ]
          refine wpAnyH_take (i := 9) (oi := ⟨some 123, _, _, _, _, _⟩) (v := undef) rfl (by kernel_rfl) (by kernel_rfl) (by kernel_rfl) (fun _ _ _ h => h) (Or.inr ⟨by kernel_rfl, rfl⟩) (by assumption) ?_
          try simp only [Act.put, List.setIfInBounds_toArray, List.set_cons_zero, List.set_cons_succ]
          refine wpAnyH_take (i := 10) (oi := ⟨some 124, _, _, _, _, _⟩) (v := undef) rfl (by kernel_rfl) (by kernel_rfl) (by kernel_rfl) (fun _ _ _ h => h) (Or.inr ⟨by kernel_rfl, rfl⟩) (by assumption) ?_
          try simp only [Act.put, List.setIfInBounds_toArray, List.set_cons_zero, List.set_cons_succ]
          refine wpAnyH_take (i := 11) (oi := ⟨some 125, _, _, _, _, _⟩) (v := undef) rfl (by kernel_rfl) (by kernel_rfl) (by kernel_rfl) (fun _ _ _ h => h) (Or.inr ⟨by kernel_rfl, rfl⟩) (by assumption) ?_
          try simp only [Act.put, List.setIfInBounds_toArray, List.set_cons_zero, List.set_cons_succ]
          refine wpAnyH_take (i := 12) (oi := ⟨some 126, _, _, _, _, _⟩) (v := undef) rfl (by kernel_rfl) (by kernel_rfl) (by kernel_rfl) (fun _ _ _ h => h) (Or.inr ⟨by kernel_rfl, rfl⟩) (by assumption) ?_
          try simp only [Act.put, List.setIfInBounds_toArray, List.set_cons_zero, List.set_cons_succ]
          refine wpAnyH_take (i := 13) (oi := ⟨some 127, _, _, _, _, _⟩) (v := undef) rfl (by kernel_rfl) (by kernel_rfl) (by kernel_rfl) (fun _ _ _ h => h) (Or.inr ⟨by kernel_rfl, rfl⟩) (by assumption) ?_
          try simp only [Act.put, List.setIfInBounds_toArray, List.set_cons_zero, List.set_cons_succ]
          refine wpAnyH_take (i := 14) (oi := ⟨some 128, _, _, _, _, _⟩) (v := undef) rfl (by kernel_rfl) (by kernel_rfl) (by kernel_rfl) (fun _ _ _ h => h) (Or.inr ⟨by kernel_rfl, rfl⟩) (by assumption) ?_
          try simp only [Act.put, List.setIfInBounds_toArray, List.set_cons_zero, List.set_cons_succ]
          refine wpAnyH_take (i := 15) (oi := ⟨some 129, _, _, _, _, _⟩) (v := undef) rfl (by kernel_rfl) (by kernel_rfl) (by kernel_rfl) (fun _ _ _ h => h) (Or.inr ⟨by kernel_rfl, rfl⟩) (by assumption) ?_
          try simp only [Act.put, List.setIfInBounds_toArray, List.set_cons_zero, List.set_cons_succ]
          refine wpAnyH_take (i := 16) (oi := ⟨some 130, _, _, _, _, _⟩) (v := ?_) rfl (by kernel_rfl) (by kernel_rfl) (by kernel_rfl) (fun _ _ _ h => h) (Or.inl ⟨by rfl, ?_⟩) (by assumption) ?_
          rotate_left
          · (intro w hSw; (try dsimp only at hSw); go_simp; try with_reducible rfl)
          try simp only [Act.put, List.setIfInBounds_toArray, List.set_cons_zero, List.set_cons_succ]
          refine wpAnyH_take (i := 17) (oi := ⟨some 131, _, _, _, _, _⟩) (v := ?_) rfl (by kernel_rfl) (by kernel_rfl) (by kernel_rfl) (fun _ _ _ h => h) (Or.inl ⟨by rfl, ?_⟩) (by assumption) ?_
          rotate_left
          · (intro w hSw; (try dsimp only at hSw); go_simp; try with_reducible rfl)
          try simp only [Act.put, List.setIfInBounds_toArray, List.set_cons_zero, List.set_cons_succ]
          refine wpAnyH_ready (rs := [18]) (by kernel_rfl) (by simp) ?_
          refine AllReadyH.cons (o := ⟨some 132, _, _, _, _, _⟩) rfl (fun K hK => ?_) AllReadyH.nil
          go_simp
          (go_split_ands; go_at_call 30; refine (law08_awake _ (by assumption)).mono ?_; rintro e w3 ⟨rfl, hb1⟩; go_simp)
          refine hK.out _ _ ?_ (fun hHeld => ?_)
          · (go_split_ands; first | exact ⟨by assumption, by assumption⟩ | exact ⟨Env.below (by assumption) (below_draws (n := 1) rfl), Below.then (by assumption) (below_draws (n := 1) rfl)⟩ | exact ⟨Env.below (by assumption) (by assumption), Below.then (by assumption) (by assumption)⟩)
          clear hK K
          try simp only [Act.put, List.setIfInBounds_toArray, List.set_cons_zero, List.set_cons_succ]
          refine wpAnyH_take (i := 19) (oi := ⟨some 133, _, _, _, _, _⟩) (v := ?_) rfl (by kernel_rfl) (by kernel_rfl) (by kernel_rfl) (fun _ _ _ h => h) (Or.inl ⟨by rfl, ?_⟩) (by assumption) ?_
          rotate_left
          · (intro w hSw; (try dsimp only at hSw); go_simp; try with_reducible rfl)
          try simp only [Act.put, List.setIfInBounds_toArray, List.set_cons_zero, List.set_cons_succ]
          refine wpAnyH_take (i := 20) (oi := ⟨some 6, _, _, _, _, _⟩) (v := ?_) rfl (by kernel_rfl) (by kernel_rfl) (by kernel_rfl) (fun _ _ _ h => h) (Or.inl ⟨by rfl, ?_⟩) (by assumption) ?_
          rotate_left
          · (intro w hSw; (try dsimp only at hSw); go_simp; try with_reducible rfl)
          try simp only [Act.put, List.setIfInBounds_toArray, List.set_cons_zero, List.set_cons_succ]
          refine wpAnyH_done (by kernel_rfl) ?_ _
          refine NoPanic.normal ?_
          go_split_ands
          clear t1 t2 t3 t4 t5 q2 q2' q4' q1' q3' t3' q4 SS SN HN HU hlt hk hn g1
          go_wp2_with fail
          go_ret
          exact ⟨rfl, by assumption⟩
        · rw [hn] at HN
          obtain ⟨hX, hR⟩ := SN.out hn
          subst hX
          obtain ⟨bo, oo, rfl, hcell⟩ := (g1.below hbr).int (k := 0) (x := R) rfl
          rw [Nat.add_zero] at hcell
          rw [hR] at HU
          have hRR : ((R : Int) == (R : Int)) = true := beq_self_eq_true _
          go_wp2_with fail
          first | go_region_held3 (fun w' => w'.cell? ⟨bo, oo, none⟩ = some (.int .i64 R) ∧ Env w' ∧ Below w.heap.size w w') ((go_split_ands; first | exact ⟨by assumption, by assumption, by assumption⟩ | exact ⟨cell_later (by assumption) (by assumption), Env.below (by assumption) (by assumption), Below.then (by assumption) (by assumption)⟩ | exact ⟨by assumption, Env.below (by assumption) (below_draws (n := 1) rfl), Below.then (by assumption) (below_draws (n := 1) rfl)⟩))
            ((go_split_ands; first
            | (go_at_call 21; refine Calls.mono (HN.out _ (by assumption)) ?_; rintro e w2 ⟨rfl, hb1⟩)
            | (go_at_call 38; refine Calls.mono (HU.out _ (by assumption)) ?_; rintro e w2 ⟨rfl, hb1⟩)
            | (go_at_call 30; refine (law08_awake _ (by assumption)).mono ?_; rintro e w2 ⟨rfl, hb1⟩))) | fail "held3"
          all_goals go_wp2_with fail
          all_goals go_ret
          all_goals go_split_ands
          all_goals exact ⟨rfl, by assumption⟩
  · have hsm' : (2000 : Int) < (s.size : Int) ∨ ((s.size : Int) ≤ 2000 ∧ c < 1) ∨ ((s.size : Int) ≤ 2000 ∧ 1 ≤ c ∧ 2147483648 < c) ∨ ((s.size : Int) ≤ 2000 ∧ 1 ≤ c ∧ c ≤ 2147483648 ∧ n < 1) ∨ ((s.size : Int) ≤ 2000 ∧ 1 ≤ c ∧ c ≤ 2147483648 ∧ 1 ≤ n ∧ 64 < n) := by omega
    clear hsm
    rcases hsm' with h1 | ⟨h1, h2⟩ | ⟨h1, h2, h3⟩ | ⟨h1, h2, h3, h4⟩ | ⟨h1, h2, h3, h4, h5⟩
    all_goals
      go_enter Tryd.func10, Tryd.ntmps10
      go_wp2_with (go_at_call 30; refine (law08_awake _ hE).mono ?_; rintro e w1 ⟨rfl, hb1⟩)
      go_ret
      exact ⟨rfl, hb1⟩
end Go.Proofs.YtnnggcaifbinbaaDoor
