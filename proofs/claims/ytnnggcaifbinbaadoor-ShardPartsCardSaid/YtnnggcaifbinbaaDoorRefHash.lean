/- The walk of the document's hash, which takes the xor bit by bit. Conditions: the text is shorter than the model's bound. -/
import Derived.Test.YtnnggcaifbinbaaDoorShard
namespace Go.Proofs.YtnnggcaifbinbaaDoor
open Go.RowKit

theorem xor_bits' (x y p z r : Nat) (hp : ∃ j, p = 2 ^ j) (hz : z = x ^^^ y) (hr : r = z % p) (v : Bool) (hv : (((x / p % 2 : Nat) : Int) != ((y / p % 2 : Nat) : Int)) = v) : z % (2 * p) = r + (if v then p else 0) := by
  obtain ⟨j, rfl⟩ := hp
  subst hz hr
  have h := xor_bits x y j
  rw [Nat.pow_succ, Nat.mul_comm] at h
  rw [h]
  subst hv
  by_cases e : x / 2 ^ j % 2 = y / 2 ^ j % 2
  · simp [e]
  · have : ((x / 2 ^ j % 2 : Nat) : Int) ≠ ((y / 2 ^ j % 2 : Nat) : Int) := by omega
    have hb : (((x / 2 ^ j % 2 : Nat) : Int) != ((y / 2 ^ j % 2 : Nat) : Int)) = true := bne_iff_ne.2 this
    rw [hb, if_neg e, if_pos rfl]

theorem ref08_Hash (s : ByteArray) (w : World) (hs : s.size ≤ 9223372036854775807) :
    Calls Tryd.prog 32 #[.string s] w fun e w' => e = .returned (.int .u64 (hashL (bl s) : Nat)) ∧ Below w.heap.size w w' := by
  have fin : ∀ (n : Nat) (w' : World), hashL (bl s) = n → Below w.heap.size w w' → Ending.returned (.int .u64 (n : Int)) = .returned (.int .u64 (hashL (bl s) : Nat)) ∧ Below w.heap.size w w' := by
    rintro n w' rfl h; exact ⟨rfl, h⟩
  have FIN := Lib.hid fin; clear fin
  go_enter Tryd.func32, Tryd.ntmps32
  go_wp2_with fail
  go_loopw [3, 4] (fun h i wr => ∃ k n : Nat, k ≤ s.size ∧ i = .int .i64 k ∧ h = .int .u64 n ∧ n < 18446744073709551616 ∧ Hid (hashFrom n ((bl s).drop k) = hashL (bl s)) ∧ Below w.heap.size w wr) (fun _ i _ => s.size - (intOf i).toNat)
  case atStart => exact ⟨0, basis, by omega, rfl, rfl, by decide, rfl, Below.refl _ _⟩
  case round =>
    obtain ⟨k, n, hk, rfl, rfl, hn, HP, hb⟩ := hrel
    by_cases hlt : k < s.size
    · have hd : (bl s).drop k = (s[k]'hlt) :: (bl s).drop (k + 1) := List.drop_eq_getElem_cons (by rw [bl_len]; exact hlt)
      obtain ⟨y, hy⟩ : ∃ y, s[k]'hlt = y := ⟨_, rfl⟩
      rw [hy] at hd
      have hr := hash_round n y hn
      have HQ := Lib.hid (show hashFrom (hashB n y) ((bl s).drop (k + 1)) = hashL (bl s) by rw [← HP.out, hd]; rfl)
      clear hd
      have hyb := y.toNat_lt
      obtain ⟨lo, hlo⟩ : ∃ lo, n % 256 = lo := ⟨_, rfl⟩
      have hlo2 : lo < 256 := by rw [← hlo]; exact Nat.mod_lt _ (by decide)
      have hlo3 : lo ≤ n := by rw [← hlo]; exact Nat.mod_le _ _
      have hmod : ((n : Int) % 256) = (lo : Int) := by omega
      have hmod2 : Int.tmod (n : Int) 256 = (lo : Int) := by rw [Int.tmod_eq_emod_of_nonneg (by omega)]; exact hmod
      go_wp2_with fail
      obtain ⟨z, hz⟩ : ∃ z, z = lo ^^^ y.toNat := ⟨_, rfl⟩
      have hzl : z < 256 := by rw [hz]; exact Nat.xor_lt_two_pow (n := 8) hlo2 hyb
      have hxl := xor_low n y.toNat hyb
      rw [hlo, ← hz, Nat.mod_eq_of_lt hzl] at hxl
      have HZ := Lib.hid hz
      have HX := Lib.hid hxl
      clear hz hxl
      have hno : n - lo + 255 < 18446744073709551616 := by omega
      have hsub : (n : Int) - (lo : Int) = ((n - lo : Nat) : Int) := by omega
      go_loopw [3, 7, 8] (fun h bit i wr => ∃ j p m : Nat, j ≤ 8 ∧ p = 2 ^ j ∧ 0 < p ∧ p ≤ 256 ∧ i = .int .i64 j ∧ bit = .int .u64 p ∧ h = .int .u64 ((n - lo : Nat) + m : Nat) ∧ m = z % p ∧ m < 256 ∧ Below w.heap.size w wr) (fun _ _ i _ => 8 - (intOf i).toNat)
      case atStart => exact ⟨0, 1, 0, by omega, rfl, by omega, by omega, rfl, rfl, by simp [hsub], by omega, by omega, hb⟩
      case round =>
        obtain ⟨j, p, m, hj, hp, hp0, hp1, rfl, rfl, rfl, hm, hm2, hb⟩ := hrel
        by_cases hjt : j < 8
        · have hp2 : p ≤ 128 := by
            rw [hp]
            exact Nat.le_trans (Nat.pow_le_pow_right (by omega) (show j ≤ 7 by omega)) (by decide)
          obtain ⟨v, hv⟩ : ∃ v, (((lo / p % 2 : Nat) : Int) != ((y.toNat / p % 2 : Nat) : Int)) = v := ⟨_, rfl⟩
          have HV := Lib.hid (xor_bits' lo y.toNat p z m ⟨j, hp⟩ HZ.out hm v hv)
          have d1 : (lo : Int).tdiv (p : Int) = ((lo / p : Nat) : Int) := rfl
          have d2 : (y.toNat : Int).tdiv (p : Int) = ((y.toNat / p : Nat) : Int) := rfl
          have b1 : lo / p < 256 := Nat.lt_of_le_of_lt (Nat.div_le_self _ _) hlo2
          have b2 : y.toNat / p < 256 := Nat.lt_of_le_of_lt (Nat.div_le_self _ _) hyb
          obtain ⟨x1, hx1⟩ : ∃ x, lo / p = x := ⟨_, rfl⟩
          obtain ⟨x2, hx2⟩ : ∃ x, y.toNat / p = x := ⟨_, rfl⟩
          rw [hx1] at d1 b1 hv
          rw [hx2] at d2 b2 hv
          have t1 : (x1 : Int).tmod 2 = ((x1 % 2 : Nat) : Int) := rfl
          have t2 : (x2 : Int).tmod 2 = ((x2 % 2 : Nat) : Int) := rfl
          have u1 : IntKind.u64.wrap (x1 : Int) = x1 := by rw [IntKind.wrap_u64]; omega
          have u2 : IntKind.u64.wrap (x2 : Int) = x2 := by rw [IntKind.wrap_u64]; omega
          obtain ⟨y1, hy1⟩ : ∃ x, x1 % 2 = x := ⟨_, rfl⟩
          obtain ⟨y2, hy2⟩ : ∃ x, x2 % 2 = x := ⟨_, rfl⟩
          rw [hy1] at t1 hv
          rw [hy2] at t2 hv
          have pne : ¬ (p : Int) = 0 := by omega
          have HJ := Lib.hid hp
          clear hx1 hx2 hy1 hy2 hp hm
          go_wp2_with fail
          go_quiet (fail)
          generalize hw2 : World.drewN wr _ = w9
          have hb9 := Below.then hb (below_draws hw2)
          clear hw2
          cases v
          · go_wp2_with fail
            go_roundw
            case rel => exact ⟨j + 1, 2 * p, m, by omega, by rw [Nat.pow_succ, ← HJ.out]; omega, by omega, by omega, by go_num, by go_num, by first | rfl | go_num, by rw [HV.out]; simp, hm2, hb9⟩
            case measure => simp [intOf]; omega
          · have hmp : m + p < 256 := by
              have h := HV.out
              rw [if_pos rfl] at h
              rw [← h]
              exact Nat.lt_of_le_of_lt (Nat.mod_le _ _) hzl
            go_wp2_with fail
            go_roundw
            case rel => exact ⟨j + 1, 2 * p, m + p, by omega, by rw [Nat.pow_succ, ← HJ.out]; omega, by omega, by omega, by go_num, by go_num, by first | rfl | go_num, by rw [HV.out]; simp, hmp, hb9⟩
            case measure => simp [intOf]; omega
        · have : j = 8 := by omega
          subst this
          have hp8 : p = 256 := hp.trans (by decide)
          subst hp8
          have hfin : n - lo + m = n ^^^ y.toNat := by rw [hm, Nat.mod_eq_of_lt hzl]; exact HX.out
          have hr' : IntKind.u64.wrap (((n - lo + m : Nat) : Int) * 1099511628211) = ((hashB n y : Nat) : Int) := by
            rw [← hr, hfin, u64_xor_nat n y.toNat hn (by omega)]
          have hl2 := hashB_lt n y
          unfold two64 at hl2
          clear hm hfin
          go_wp2_with fail
          go_roundw
          case rel => exact ⟨k + 1, hashB n y, by omega, by go_num, by rw [← Int.natCast_add, hr'], hl2, HQ.out, hb⟩
          case measure => simp [intOf]; omega
    · have : k = s.size := by omega
      subst this
      go_wp2_with fail
      go_ret
      exact FIN.out _ _ (by rw [← HP.out, List.drop_eq_nil_of_le (by rw [bl_len]; exact Nat.le_refl _)]; rfl) hb
end Go.Proofs.YtnnggcaifbinbaaDoor
