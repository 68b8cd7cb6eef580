/- The walk of PacketTopics: a name is a filter; what a filter's + and # allow behind it. Conditions: the decoder's tables lie as Go lays them. -/
import Derived.Test.YtkphaihbdmjogaaDoorLaw03
namespace Go.Proofs.YtkphaihbdmjogaaDoor
open Go.RowKit

theorem topics_fin (A B : Bs) (hA : A.length ≤ 3000) (hB : B.length ≤ 3000) :
    nameL A = (filterL A && !wildB A) ∧ (filterL A = true → filterL B = true → filterL (A ++ 47 :: B) = !hashB' A) ∧ (hashB' A = true → filterL (A ++ [47]) = false) ∧ (hashB' A = true → filterL (A ++ [120]) = false) ∧ (filterL A = true → hashB' A = false → filterL (A ++ [47]) = true) :=
  ⟨name_filter A, fun h1 h2 => filter_slash' h1 h2 (by simp; omega), hash_end A, hash_x A, fun h1 h2 => filter_slash_end h1 h2 (by omega)⟩
theorem bl_slash (a b : ByteArray) : bl (a ++ ⟨#[47]⟩ ++ b) = bl a ++ 47 :: bl b := by unfold bl; simp
theorem bl_one (a : ByteArray) (c : UInt8) : bl (a ++ ⟨#[c]⟩) = bl a ++ [c] := by unfold bl; simp
theorem u8_beq (x y : UInt8) : (((x.toNat : Int) == (y.toNat : Int))) = (x == y) := by
  rw [Bool.eq_iff_iff, beq_iff_eq, beq_iff_eq, Int.natCast_inj, UInt8.toNat_inj]
theorem any_take' (p : UInt8 → Bool) (L : Bs) (k : Nat) (x : UInt8) (hx : L[k]? = some x) : (L.take (k + 1)).any p = ((L.take k).any p || p x) := by
  rw [List.take_add_one, hx, List.any_append]; simp
set_option maxRecDepth 100000 in
set_option maxHeartbeats 2000000 in
theorem law03_PacketTopics (a b : ByteArray) (w : World) (hE : Env w) : Calls Tryd.prog 7 #[.string a, .string b] w fun e w' => e = .returned (.bool true) ∧ Below w.heap.size w w' := by
  have HK := Lib.hid (Keep.begin hE [] (by intro r hr; cases hr))
  clear hE
  by_cases hg : 3000 < a.size ∨ 3000 < b.size
  · have hg2 : 3000 < a.size ∨ (a.size ≤ 3000 ∧ 3000 < b.size) := by omega
    clear hg
    rcases hg2 with hg | ⟨hg, hg2⟩
    all_goals
      go_enter Tryd.func7, Tryd.ntmps7
      go_wp2_with (first | (go_at_call 16; refine Calls.mono (law03_awake _ HK.out.env) ?_; rintro e w1 ⟨rfl, hb1⟩; replace HK := Lib.hid (HK.out.below hb1); clear hb1))
      go_ret
      exact ⟨rfl, HK.out.low⟩
  · have ha : a.size ≤ 3000 := by omega
    have hb : b.size ≤ 3000 := by omega
    clear hg
    go_enter Tryd.func7, Tryd.ntmps7
    go_wp2_with fail
    go_loopw [5, 6, 7] (fun x y i wr => ∃ k : Nat, k ≤ a.size ∧ i = .int .i64 k ∧ ∃ vx vy : Bool, x = .bool vx ∧ y = .bool vy ∧ Hid (vx = wildB ((bl a).take k) ∧ vy = hashB' ((bl a).take k)) ∧ w = wr) (fun _ _ i _ => a.size - (intOf i).toNat)
    case atStart => exact ⟨0, by omega, rfl, false, false, rfl, rfl, ⟨rfl, rfl⟩, rfl⟩
    case round =>
      obtain ⟨k, hk, rfl, vx, vy, rfl, rfl, HV, rfl⟩ := hrel
      by_cases hlt : k < a.size
      · have hx := get_bl a k hlt
        have hs1 := any_take' (fun b => b == 43 || b == 35) (bl a) k _ hx
        have hs2 := any_take' (fun b => b == 35) (bl a) k _ hx
        have H1 := Lib.hid (show wildB ((bl a).take (k + 1)) = (vx || ((a[k]'hlt) == 43 || (a[k]'hlt) == 35)) from hs1.trans (by rw [HV.out.1]; rfl))
        have H2 := Lib.hid (show hashB' ((bl a).take (k + 1)) = (vy || (a[k]'hlt) == 35) from hs2.trans (by rw [HV.out.2]; rfl))
        clear hs1 hs2 hx HV
        have e43 : (((a[k]'hlt).toNat : Int) == 43) = ((a[k]'hlt) == 43) := u8_beq _ 43
        have e35 : (((a[k]'hlt).toNat : Int) == 35) = ((a[k]'hlt) == 35) := u8_beq _ 35
        cases h43 : ((a[k]'hlt) == 43) <;> cases h35 : ((a[k]'hlt) == 35) <;> cases vx <;> cases vy
        all_goals
          rw [h43] at e43
          rw [h35] at e35
          have H3 := Lib.hid (And.intro h43 h35)
          clear h43 h35
          go_wp2_with fail
          go_roundw
          case rel => exact ⟨k + 1, by omega, by first | rfl | go_num, _, _, rfl, rfl, ⟨by rw [H1.out, H3.out.1, H3.out.2]; rfl, by rw [H2.out, H3.out.2]; rfl⟩, by first | rfl | trivial⟩
          case measure => simp [intOf]; omega
      · have hk2 : k = a.size := by omega
        have HV2 := Lib.hid (show vx = wildB (bl a) ∧ vy = hashB' (bl a) by
          have := HV.out
          rw [hk2, ← bl_len, List.take_length] at this
          exact this)
        subst hk2
        clear HV
        obtain ⟨t1, t2, t3, t4, t5⟩ := topics_fin (bl a) (bl b) (by rw [bl_len]; exact ha) (by rw [bl_len]; exact hb)
        rw [← HV2.out.1] at t1
        rw [← HV2.out.2] at t2 t3 t4 t5
        clear HV2
        have hT := fun w1 hE => law03_topic a w1 hE (by omega)
        have hF := fun w1 hE => law03_filter a w1 hE (by omega)
        have hG := fun w1 hE => law03_filter b w1 hE (by omega)
        have hF1 := fun w1 hE => law03_filter (a ++ ⟨#[47]⟩ ++ b) w1 hE (by rw [bsize, bsize]; show a.size + 1 + b.size ≤ _; omega)
        have hF2 := fun w1 hE => law03_filter (a ++ ⟨#[47]⟩) w1 hE (by rw [bsize]; show a.size + 1 ≤ _; omega)
        have hF3 := fun w1 hE => law03_filter (a ++ ⟨#[120]⟩) w1 hE (by rw [bsize]; show a.size + 1 ≤ _; omega)
        have hW := fun w1 hE ha' => packet_Right (willP a) none 0 w1 hE (will_ok a (by omega)) ha'
        rw [will_right] at hW
        rw [bl_slash] at hF1
        rw [bl_one] at hF2 hF3
        obtain ⟨n, hn⟩ : ∃ v, nameL (bl a) = v := ⟨_, rfl⟩
        obtain ⟨f, hf⟩ : ∃ v, filterL (bl a) = v := ⟨_, rfl⟩
        obtain ⟨g, hg⟩ : ∃ v, filterL (bl b) = v := ⟨_, rfl⟩
        obtain ⟨r1, hr1⟩ : ∃ v, filterL (bl a ++ 47 :: bl b) = v := ⟨_, rfl⟩
        obtain ⟨r2, hr2⟩ : ∃ v, filterL (bl a ++ [47]) = v := ⟨_, rfl⟩
        obtain ⟨r3, hr3⟩ : ∃ v, filterL (bl a ++ [120]) = v := ⟨_, rfl⟩
        rw [hn] at hT hW t1
        rw [hf] at hF t1 t2 t5
        rw [hg] at hG t2
        rw [hr1] at hF1 t2
        rw [hr2] at hF2 t3 t5
        rw [hr3] at hF3 t4
        clear hn hf hg hr1 hr2 hr3
        have sz1 : ¬ 9223372036854775807 < a.size + 1 := by omega
        have sz2 : ¬ 9223372036854775807 < a.size + 1 + b.size := by omega
        have HT := Lib.hid hT
        have HF := Lib.hid hF
        have HG := Lib.hid hG
        have HF1 := Lib.hid hF1
        have HF2 := Lib.hid hF2
        have HF3 := Lib.hid hF3
        have HW := Lib.hid hW
        clear hT hF hG hF1 hF2 hF3 hW
        subst t1
        cases f <;> cases vy
        · cases vx <;> clear t2 t3 t4 t5
          all_goals
            go_wp2_with (first
          | (go_at_call 27; (with_reducible refine Calls.mono (HT.out _ HK.out.env) ?_); rintro e w1 ⟨rfl, hb1⟩; replace HK := Lib.hid (HK.out.below hb1); clear hb1)
          | (go_at_call 28; (with_reducible refine Calls.mono (HF.out _ HK.out.env) ?_); rintro e w1 ⟨rfl, hb1⟩; replace HK := Lib.hid (HK.out.below hb1); clear hb1)
          | (go_at_call 28; (with_reducible refine Calls.mono (HG.out _ HK.out.env) ?_); rintro e w1 ⟨rfl, hb1⟩; replace HK := Lib.hid (HK.out.below hb1); clear hb1)
          | (go_at_call 28; (with_reducible refine Calls.mono (HF1.out _ HK.out.env) ?_); rintro e w1 ⟨rfl, hb1⟩; replace HK := Lib.hid (HK.out.below hb1); clear hb1)
          | (go_at_call 28; (with_reducible refine Calls.mono (HF2.out _ HK.out.env) ?_); rintro e w1 ⟨rfl, hb1⟩; replace HK := Lib.hid (HK.out.below hb1); clear hb1)
          | (go_at_call 28; (with_reducible refine Calls.mono (HF3.out _ HK.out.env) ?_); rintro e w1 ⟨rfl, hb1⟩; replace HK := Lib.hid (HK.out.below hb1); clear hb1)
          | (go_at_call 18; refine Calls.mono (HW.out _ HK.out.env (cells_nil _ _)) ?_; rintro e w1 ⟨rfl, hb1⟩; replace HK := Lib.hid (HK.out.below hb1); clear hb1)
          | (go_at_call 16; refine Calls.mono (law03_awake _ HK.out.env) ?_; rintro e w1 ⟨rfl, hb1⟩; replace HK := Lib.hid (HK.out.below hb1); clear hb1)
          | ((with_reducible show wpList _ _ _ (⟨some 57, _, _, _, _, _⟩ :: _) _ _); refine wpList_build_G (by kernel_rfl) 27 _ rfl (pkV (willP a) none 0) (by kernel_rfl) ?_))
            go_ret
            exact ⟨rfl, HK.out.low⟩
        · obtain rfl := t3 rfl
          obtain rfl := t4 rfl
          cases vx <;> clear t2 t3 t4 t5
          all_goals
            go_wp2_with (first
          | (go_at_call 27; (with_reducible refine Calls.mono (HT.out _ HK.out.env) ?_); rintro e w1 ⟨rfl, hb1⟩; replace HK := Lib.hid (HK.out.below hb1); clear hb1)
          | (go_at_call 28; (with_reducible refine Calls.mono (HF.out _ HK.out.env) ?_); rintro e w1 ⟨rfl, hb1⟩; replace HK := Lib.hid (HK.out.below hb1); clear hb1)
          | (go_at_call 28; (with_reducible refine Calls.mono (HG.out _ HK.out.env) ?_); rintro e w1 ⟨rfl, hb1⟩; replace HK := Lib.hid (HK.out.below hb1); clear hb1)
          | (go_at_call 28; (with_reducible refine Calls.mono (HF1.out _ HK.out.env) ?_); rintro e w1 ⟨rfl, hb1⟩; replace HK := Lib.hid (HK.out.below hb1); clear hb1)
          | (go_at_call 28; (with_reducible refine Calls.mono (HF2.out _ HK.out.env) ?_); rintro e w1 ⟨rfl, hb1⟩; replace HK := Lib.hid (HK.out.below hb1); clear hb1)
          | (go_at_call 28; (with_reducible refine Calls.mono (HF3.out _ HK.out.env) ?_); rintro e w1 ⟨rfl, hb1⟩; replace HK := Lib.hid (HK.out.below hb1); clear hb1)
          | (go_at_call 18; refine Calls.mono (HW.out _ HK.out.env (cells_nil _ _)) ?_; rintro e w1 ⟨rfl, hb1⟩; replace HK := Lib.hid (HK.out.below hb1); clear hb1)
          | (go_at_call 16; refine Calls.mono (law03_awake _ HK.out.env) ?_; rintro e w1 ⟨rfl, hb1⟩; replace HK := Lib.hid (HK.out.below hb1); clear hb1)
          | ((with_reducible show wpList _ _ _ (⟨some 57, _, _, _, _, _⟩ :: _) _ _); refine wpList_build_G (by kernel_rfl) 27 _ rfl (pkV (willP a) none 0) (by kernel_rfl) ?_))
            go_ret
            exact ⟨rfl, HK.out.low⟩
        · obtain rfl := t5 rfl rfl
          cases g
          · cases vx <;> clear t2 t3 t4 t5
            all_goals
              go_wp2_with (first
          | (go_at_call 27; (with_reducible refine Calls.mono (HT.out _ HK.out.env) ?_); rintro e w1 ⟨rfl, hb1⟩; replace HK := Lib.hid (HK.out.below hb1); clear hb1)
          | (go_at_call 28; (with_reducible refine Calls.mono (HF.out _ HK.out.env) ?_); rintro e w1 ⟨rfl, hb1⟩; replace HK := Lib.hid (HK.out.below hb1); clear hb1)
          | (go_at_call 28; (with_reducible refine Calls.mono (HG.out _ HK.out.env) ?_); rintro e w1 ⟨rfl, hb1⟩; replace HK := Lib.hid (HK.out.below hb1); clear hb1)
          | (go_at_call 28; (with_reducible refine Calls.mono (HF1.out _ HK.out.env) ?_); rintro e w1 ⟨rfl, hb1⟩; replace HK := Lib.hid (HK.out.below hb1); clear hb1)
          | (go_at_call 28; (with_reducible refine Calls.mono (HF2.out _ HK.out.env) ?_); rintro e w1 ⟨rfl, hb1⟩; replace HK := Lib.hid (HK.out.below hb1); clear hb1)
          | (go_at_call 28; (with_reducible refine Calls.mono (HF3.out _ HK.out.env) ?_); rintro e w1 ⟨rfl, hb1⟩; replace HK := Lib.hid (HK.out.below hb1); clear hb1)
          | (go_at_call 18; refine Calls.mono (HW.out _ HK.out.env (cells_nil _ _)) ?_; rintro e w1 ⟨rfl, hb1⟩; replace HK := Lib.hid (HK.out.below hb1); clear hb1)
          | (go_at_call 16; refine Calls.mono (law03_awake _ HK.out.env) ?_; rintro e w1 ⟨rfl, hb1⟩; replace HK := Lib.hid (HK.out.below hb1); clear hb1)
          | ((with_reducible show wpList _ _ _ (⟨some 57, _, _, _, _, _⟩ :: _) _ _); refine wpList_build_G (by kernel_rfl) 27 _ rfl (pkV (willP a) none 0) (by kernel_rfl) ?_))
              go_ret
              exact ⟨rfl, HK.out.low⟩
          · obtain rfl := t2 rfl rfl
            cases vx <;> clear t2 t3 t4 t5
            all_goals
              go_wp2_with (first
          | (go_at_call 27; (with_reducible refine Calls.mono (HT.out _ HK.out.env) ?_); rintro e w1 ⟨rfl, hb1⟩; replace HK := Lib.hid (HK.out.below hb1); clear hb1)
          | (go_at_call 28; (with_reducible refine Calls.mono (HF.out _ HK.out.env) ?_); rintro e w1 ⟨rfl, hb1⟩; replace HK := Lib.hid (HK.out.below hb1); clear hb1)
          | (go_at_call 28; (with_reducible refine Calls.mono (HG.out _ HK.out.env) ?_); rintro e w1 ⟨rfl, hb1⟩; replace HK := Lib.hid (HK.out.below hb1); clear hb1)
          | (go_at_call 28; (with_reducible refine Calls.mono (HF1.out _ HK.out.env) ?_); rintro e w1 ⟨rfl, hb1⟩; replace HK := Lib.hid (HK.out.below hb1); clear hb1)
          | (go_at_call 28; (with_reducible refine Calls.mono (HF2.out _ HK.out.env) ?_); rintro e w1 ⟨rfl, hb1⟩; replace HK := Lib.hid (HK.out.below hb1); clear hb1)
          | (go_at_call 28; (with_reducible refine Calls.mono (HF3.out _ HK.out.env) ?_); rintro e w1 ⟨rfl, hb1⟩; replace HK := Lib.hid (HK.out.below hb1); clear hb1)
          | (go_at_call 18; refine Calls.mono (HW.out _ HK.out.env (cells_nil _ _)) ?_; rintro e w1 ⟨rfl, hb1⟩; replace HK := Lib.hid (HK.out.below hb1); clear hb1)
          | (go_at_call 16; refine Calls.mono (law03_awake _ HK.out.env) ?_; rintro e w1 ⟨rfl, hb1⟩; replace HK := Lib.hid (HK.out.below hb1); clear hb1)
          | ((with_reducible show wpList _ _ _ (⟨some 57, _, _, _, _, _⟩ :: _) _ _); refine wpList_build_G (by kernel_rfl) 27 _ rfl (pkV (willP a) none 0) (by kernel_rfl) ?_))
              go_ret
              exact ⟨rfl, HK.out.low⟩
        · obtain rfl := t3 rfl
          obtain rfl := t4 rfl
          cases g
          · cases vx <;> clear t2 t3 t4 t5
            all_goals
              go_wp2_with (first
          | (go_at_call 27; (with_reducible refine Calls.mono (HT.out _ HK.out.env) ?_); rintro e w1 ⟨rfl, hb1⟩; replace HK := Lib.hid (HK.out.below hb1); clear hb1)
          | (go_at_call 28; (with_reducible refine Calls.mono (HF.out _ HK.out.env) ?_); rintro e w1 ⟨rfl, hb1⟩; replace HK := Lib.hid (HK.out.below hb1); clear hb1)
          | (go_at_call 28; (with_reducible refine Calls.mono (HG.out _ HK.out.env) ?_); rintro e w1 ⟨rfl, hb1⟩; replace HK := Lib.hid (HK.out.below hb1); clear hb1)
          | (go_at_call 28; (with_reducible refine Calls.mono (HF1.out _ HK.out.env) ?_); rintro e w1 ⟨rfl, hb1⟩; replace HK := Lib.hid (HK.out.below hb1); clear hb1)
          | (go_at_call 28; (with_reducible refine Calls.mono (HF2.out _ HK.out.env) ?_); rintro e w1 ⟨rfl, hb1⟩; replace HK := Lib.hid (HK.out.below hb1); clear hb1)
          | (go_at_call 28; (with_reducible refine Calls.mono (HF3.out _ HK.out.env) ?_); rintro e w1 ⟨rfl, hb1⟩; replace HK := Lib.hid (HK.out.below hb1); clear hb1)
          | (go_at_call 18; refine Calls.mono (HW.out _ HK.out.env (cells_nil _ _)) ?_; rintro e w1 ⟨rfl, hb1⟩; replace HK := Lib.hid (HK.out.below hb1); clear hb1)
          | (go_at_call 16; refine Calls.mono (law03_awake _ HK.out.env) ?_; rintro e w1 ⟨rfl, hb1⟩; replace HK := Lib.hid (HK.out.below hb1); clear hb1)
          | ((with_reducible show wpList _ _ _ (⟨some 57, _, _, _, _, _⟩ :: _) _ _); refine wpList_build_G (by kernel_rfl) 27 _ rfl (pkV (willP a) none 0) (by kernel_rfl) ?_))
              go_ret
              exact ⟨rfl, HK.out.low⟩
          · obtain rfl := t2 rfl rfl
            cases vx <;> clear t2 t3 t4 t5
            all_goals
              go_wp2_with (first
          | (go_at_call 27; (with_reducible refine Calls.mono (HT.out _ HK.out.env) ?_); rintro e w1 ⟨rfl, hb1⟩; replace HK := Lib.hid (HK.out.below hb1); clear hb1)
          | (go_at_call 28; (with_reducible refine Calls.mono (HF.out _ HK.out.env) ?_); rintro e w1 ⟨rfl, hb1⟩; replace HK := Lib.hid (HK.out.below hb1); clear hb1)
          | (go_at_call 28; (with_reducible refine Calls.mono (HG.out _ HK.out.env) ?_); rintro e w1 ⟨rfl, hb1⟩; replace HK := Lib.hid (HK.out.below hb1); clear hb1)
          | (go_at_call 28; (with_reducible refine Calls.mono (HF1.out _ HK.out.env) ?_); rintro e w1 ⟨rfl, hb1⟩; replace HK := Lib.hid (HK.out.below hb1); clear hb1)
          | (go_at_call 28; (with_reducible refine Calls.mono (HF2.out _ HK.out.env) ?_); rintro e w1 ⟨rfl, hb1⟩; replace HK := Lib.hid (HK.out.below hb1); clear hb1)
          | (go_at_call 28; (with_reducible refine Calls.mono (HF3.out _ HK.out.env) ?_); rintro e w1 ⟨rfl, hb1⟩; replace HK := Lib.hid (HK.out.below hb1); clear hb1)
          | (go_at_call 18; refine Calls.mono (HW.out _ HK.out.env (cells_nil _ _)) ?_; rintro e w1 ⟨rfl, hb1⟩; replace HK := Lib.hid (HK.out.below hb1); clear hb1)
          | (go_at_call 16; refine Calls.mono (law03_awake _ HK.out.env) ?_; rintro e w1 ⟨rfl, hb1⟩; replace HK := Lib.hid (HK.out.below hb1); clear hb1)
          | ((with_reducible show wpList _ _ _ (⟨some 57, _, _, _, _, _⟩ :: _) _ _); refine wpList_build_G (by kernel_rfl) 27 _ rfl (pkV (willP a) none 0) (by kernel_rfl) ?_))
              go_ret
              exact ⟨rfl, HK.out.low⟩
end Go.Proofs.YtkphaihbdmjogaaDoor
