/- The walk of TopicOrder: each filter covers itself, what is covered by one covered is covered, a name covers itself alone. Conditions: the decoder's tables lie as Go lays them. -/
import Derived.Test.YtnnggcaifbinbaaDoorLaw07
import Derived.Test.YtnnggcaifbinbaaDoorPlainOrder
namespace Go.Proofs.YtnnggcaifbinbaaDoor
open Go.RowKit

set_option maxRecDepth 100000 in
theorem law07_TopicOrder (a b c : ByteArray) (w : World) (hE : Env w) :
    Calls Tryd.prog 4 #[.string a, .string b, .string c] w fun e w' => e = .returned (.bool true) ∧ Below w.heap.size w w' := by
  have hb := Below.refl w.heap.size w
  by_cases hsm : a.size ≤ 1000 ∧ b.size ≤ 1000 ∧ c.size ≤ 1000
  · have h1 : ¬ (1000 : Int) < (a.size : Int) := by omega
    have h2 : ¬ (1000 : Int) < (b.size : Int) := by omega
    have h3 : ¬ (1000 : Int) < (c.size : Int) := by omega
    have ha' : a.size < 4294967281 := by omega
    have hb' : b.size < 4294967281 := by omega
    have hc' : c.size < 4294967281 := by omega
    have t1 := covers_self (bl a)
    have t2 := @covers_trans (bl a) (bl b) (bl c)
    have t3 := @covers_name (bl a) (bl b)
    have e3 := eqTwo a b _ rfl
    clear hsm
    obtain ⟨v2, q2⟩ : ∃ v, coversL (bl a) (bl b) = v := ⟨_, rfl⟩
    obtain ⟨v3, q3⟩ : ∃ v, coversL (bl b) (bl c) = v := ⟨_, rfl⟩
    obtain ⟨v4, q4⟩ : ∃ v, coversL (bl a) (bl c) = v := ⟨_, rfl⟩
    obtain ⟨v5, q5⟩ : ∃ v, filterL (bl a) = v := ⟨_, rfl⟩
    obtain ⟨v6, q6⟩ : ∃ v, nameL (bl a) = v := ⟨_, rfl⟩
    obtain ⟨v7, q7⟩ : ∃ v, (bl a == bl b) = v := ⟨_, rfl⟩
    have q1 := t1.trans q5
    rw [q7] at e3
    have k1 : (v2 && v3 && !v4) = false := by
      rw [q2, q3, q4] at t2
      cases v2 <;> cases v3 <;> cases v4 <;> simp_all
    have k2 : v6 = true → v2 = v7 := by
      rw [q6, q2, q7] at t3
      exact t3
    have Q := Lib.hid (And.intro q1 (And.intro q2 (And.intro q3 (And.intro q4 (And.intro q5 q6)))))
    clear t1 t2 t3 q1 q2 q3 q4 q5 q6 q7
    have n5 : (!(v5 == v5)) = false := by simp
    have step : ∀ {P : Prop}, (v2 = false → v6 = false → P) → (v2 = false → v6 = true → v7 = false → P) → (v2 = true → v3 = false → v6 = false → P) → (v2 = true → v3 = false → v6 = true → v7 = true → P) → (v2 = true → v3 = true → v4 = true → v6 = false → P) → (v2 = true → v3 = true → v4 = true → v6 = true → v7 = true → P) → P := by
      intro P
      cases v2 <;> cases v3 <;> cases v4 <;> cases v6 <;> cases v7 <;> simp_all
    clear k1 k2
    apply step <;> clear step
    all_goals (intros; subst_vars)
    all_goals go_enter Tryd.func4, Tryd.ntmps4
    all_goals go_wp2_with (first
      | (go_at_call 16; refine (topic_Covers _ _ _ hE (by assumption) (by assumption)).mono ?_; rintro e w1 ⟨he, hb1⟩; obtain ⟨q1, q2, q3, q4, q5, q6⟩ := Q.out; (first | rw [q1] at he | rw [q2] at he | rw [q3] at he | rw [q4] at he); clear q1 q2 q3 q4 q5 q6; subst he; replace hE := hE.below hb1; replace hb := Below.then hb hb1)
      | (go_at_call 20; refine (topic_Filter _ _ hE ha').mono ?_; rintro e w1 ⟨he, hb1⟩; obtain ⟨q1, q2, q3, q4, q5, q6⟩ := Q.out; rw [q5] at he; clear q1 q2 q3 q4 q5 q6; subst he; replace hE := hE.below hb1; replace hb := Below.then hb hb1)
      | (go_at_call 21; refine (topic_Name _ _ hE ha').mono ?_; rintro e w1 ⟨he, hb1⟩; obtain ⟨q1, q2, q3, q4, q5, q6⟩ := Q.out; rw [q6] at he; clear q1 q2 q3 q4 q5 q6; subst he; replace hE := hE.below hb1; replace hb := Below.then hb hb1)
      | (go_at_call 15; refine (law07_awake _ hE).mono ?_; rintro e w1 ⟨rfl, hb1⟩; replace hb := Below.then hb hb1))
    all_goals go_ret
    all_goals exact ⟨rfl, hb⟩
  · have hsm' : (1000 : Int) < (a.size : Int) ∨ ((a.size : Int) ≤ 1000 ∧ (1000 : Int) < (b.size : Int)) ∨ ((a.size : Int) ≤ 1000 ∧ (b.size : Int) ≤ 1000 ∧ (1000 : Int) < (c.size : Int)) := by omega
    clear hsm
    rcases hsm' with h1 | ⟨h1, h2⟩ | ⟨h1, h2, h3⟩
    all_goals
      go_enter Tryd.func4, Tryd.ntmps4
      go_wp2_with (go_at_call 15; refine (law07_awake _ hE).mono ?_; rintro e w1 ⟨rfl, hb1⟩)
      go_ret
      exact ⟨rfl, hb1⟩
end Go.Proofs.YtnnggcaifbinbaaDoor
