/- The walks of a filter's workers, the program's and the reference's. Conditions: texts shorter than the model's bound for a search; the decoder's tables lie as Go lays them. -/
import Derived.Test.YtnnggcaifbinbaaDoorHubs
namespace Go.Proofs.YtnnggcaifbinbaaDoor
open Go.RowKit

abbrev ints (T : List Nat) : List Value := T.map fun (k : Nat) => Value.int .i64 k

theorem one_int {w : World} {r : Nat} : CellsA (w.alloc (.cells #[.int .i64 r] 3)) (some ⟨w.heap.size, 0, none⟩) (ints [r]) := by
  intro j v hv
  refine ⟨_, _, rfl, ?_⟩
  rw [Nat.zero_add, cell_of_row _ _ _ _ _ _ (heap_alloc_new w _)]
  simpa using hv

theorem hubs_none {s : Bs} {n : Int} (h : fewB n = false ∨ filterL s = false) : hubsL s n = [] := by
  unfold hubsL; rcases h with h | h <;> simp [h]
theorem first_filter {s : Bs} (h : filterL s = true) (hw : wildL s = false) : firstL s = (headL s, true) := by
  unfold firstL; rw [h, hw]; rfl
theorem first_wild {s : Bs} (hw : wildL s = true) : firstL s = ([], false) := by
  unfold firstL; rw [hw]; simp

theorem shard_Hubs (s : ByteArray) (n : Int) (w : World) (hE : Env w) (hs : s.size < 4294967281) :
    Calls Tryd.prog 41 #[.string s, .int .i64 n] w (RetInts (hubsL (bl s) n) w) := by
  obtain ⟨i0, hi, hz0, hz1, hz2⟩ := info_parts (show (Tryd.prog.info? 3).map (fun i => (i.zero, i.size, i.bytes)) = some (some (.int .i64 0), 1, 8) by kernel_rfl)
  have hF := Lib.hid (fun w => shard_few n w)
  have hN := Lib.hid (fun w h => topic_Filter s w h hs)
  cases hf : fewB n
  · rw [hf] at hF
    rw [hubs_none (.inl hf)]
    go_enter Tryd.func41, Tryd.ntmps41
    go_wp2_with (first
      | (go_at_call 55; refine (hF.out _).mono ?_; rintro e w1 ⟨rfl, rfl⟩))
    go_ret
    exact ⟨none, 0, rfl, CellsA.nil _ _, Below.refl _ _⟩
  · rw [hf] at hF
    obtain ⟨m, rfl, h1, h2⟩ := few_nat hf
    cases hn : filterL (bl s)
    · rw [hn] at hN
      rw [hubs_none (.inr hn)]
      go_enter Tryd.func41, Tryd.ntmps41
      go_wp2_with (first
        | (go_at_call 55; refine (hF.out _).mono ?_; rintro e w1 ⟨rfl, rfl⟩)
        | (go_at_call 20; refine (hN.out _ hE).mono ?_; rintro e w1 ⟨rfl, hb⟩))
      go_ret
      exact ⟨none, 0, rfl, CellsA.nil _ _, hb⟩
    · rw [hn] at hN
      cases hw : wildL (bl s)
      · have hT : hubsL (bl s) (m : Int) = [restL (headL (bl s)) m] := by simp [hubsL, hf, hn, hw]
        have hfi := first_filter hn hw
        rw [hT]
        clear hT
        go_enter Tryd.func41, Tryd.ntmps41
        go_wp2_with (first
          | (go_at_call 55; refine (hF.out _).mono ?_; rintro e w1 ⟨rfl, rfl⟩)
          | (go_at_call 20; refine (hN.out _ hE).mono ?_; rintro e w1 ⟨rfl, hb⟩; replace hE := hE.below hb)
          | (go_at_call 24; refine (topic_First s _ hE hs).mono ?_; rw [hfi]; rintro e w1 ⟨r, rfl, hr, hb1⟩; replace hr : bl r = headL (bl s) := hr; replace hb := Below.then hb hb1; have hrs := first_size (s := s) hr hs)
          | (go_at_call 56; refine (shard_rest r m _ hrs h1 h2).mono ?_; rw [hr]; rintro e w1 ⟨rfl, hb1⟩; replace hb := Below.then hb hb1))
        go_ret
        exact ⟨_, _, rfl, one_int, hb.alloc hb.size _⟩
      · have hT : hubsL (bl s) (m : Int) = List.range m := by simp [hubsL, hf, hn, hw]
        have hfi := first_wild hw
        rw [hT]
        clear hT
        have fin : ∀ (v : Value) (w' : World), w'.ownsRow w.heap.size 3 1 v m (ints (List.range m)) → Below w.heap.size w w' → RetInts (List.range m) w (.returned v) w' := by
          intro v w' h2 h3
          exact own_ints (T := List.range m) (by rw [List.length_range]; exact h2) h3
        have FIN := Lib.hid fin; clear fin
        go_enter Tryd.func41, Tryd.ntmps41
        go_wp2_with (first
          | (go_at_call 55; refine (hF.out _).mono ?_; rintro e w1 ⟨rfl, rfl⟩)
          | (go_at_call 20; refine (hN.out _ hE).mono ?_; rintro e w1 ⟨rfl, hb⟩; replace hE := hE.below hb)
          | (go_at_call 24; refine (topic_First s _ hE hs).mono ?_; rw [hfi]; rintro e w1 ⟨r, rfl, hr, hb1⟩; replace hb := Below.then hb hb1))
        clear hE hr hb1
        go_loopw [7, 28] (fun v i wr => ∃ (k : Nat), k ≤ m ∧ i = .int .i64 k ∧ wr.ownsRow w.heap.size 3 1 v k (ints (List.range k)) ∧ Below w.heap.size w wr) (fun _ i _ => m - (intOf i).toNat)
        case atStart =>
          exact ⟨0, by omega, rfl, ⟨rfl, .inl ⟨rfl, rfl⟩⟩, hb⟩
        case round =>
          obtain ⟨k, hk, rfl, hown, hb⟩ := hrel
          by_cases hlt : k < m
          · go_wp2_with (first
              | (at_builtin; refine wpList_append_own _ rfl _ _ 41 rfl w.heap.size 3 i0 (.int .i64 0) 1 8 Tryd.underlying41 hi hz0 hz1 hz2 rfl (by decide) _ _ _ rfl (hown.alloc _) ⟨wr.heap.size, 0, none⟩ 1 1 [.int .i64 (k : Nat)] rfl rfl ?c1 ?c2 ?c3 ?c4 ?c5 ?_))
            case c1 =>
              intro j u hj
              match j, hj with
              | 0, hj => simp at hj; subst hj; simp [Addr.add]
            case c2 => intro u hu; simp at hu; subst hu; rfl
            case c3 => unfold maxLen; omega
            case c4 => omega
            case c5 => have := hb.size; simp; omega
            · intro v' w1 hown' hgrow _
              have hb1 : Below w.heap.size w w1 := (hb.alloc hb.size _).grown hgrow (by have := hb.size; simp; omega) (fun j hj => (hown.lt j hj).1)
              have hown1 : w1.ownsRow w.heap.size 3 1 v' (k + 1) (ints (List.range (k + 1))) := by
                simpa [List.range_succ] using hown'
              clear hown' hgrow hown
              go_wp2
              go_roundw
              case rel => exact ⟨k + 1, by omega, by go_num, hown1, hb1⟩
              case measure => simp [intOf]; omega
          · have : k = m := by omega
            subst this
            go_wp2_with fail
            go_ret
            exact FIN.out _ _ hown hb

theorem filter_one (r : Nat) : ∀ n, (List.range n).filter (fun i => r == i) = if r < n then [r] else []
  | 0 => rfl
  | n + 1 => by
    rw [List.range_succ, List.filter_append, filter_one r n]
    by_cases h : r = n
    · subst h
      simp
    · have h2 : (r == n) = false := by simpa using h
      by_cases h3 : r < n
      · simp [h3, h2, show r < n + 1 by omega]
      · simp [h3, h2, show ¬ r < n + 1 by omega]

theorem SameInts_step (A B : List Nat) (k x y : Nat) (hx : A[k]? = some x) (hy : B[k]? = some y) : (A.drop k == B.drop k) = (x == y && A.drop (k + 1) == B.drop (k + 1)) := by
  obtain ⟨h2, h3⟩ := List.getElem?_eq_some_iff.1 hx
  obtain ⟨h4, h5⟩ := List.getElem?_eq_some_iff.1 hy
  rw [List.drop_eq_getElem_cons h2, h3, List.drop_eq_getElem_cons h4, h5]; rfl

theorem CellsA.int {w : World} {a : Option Addr} {L : List Nat} (h : CellsA w a (ints L)) {k x : Nat} (hx : L[k]? = some x) : ∃ b o, a = some ⟨b, o, none⟩ ∧ w.cell? ⟨b, o + k, none⟩ = some (.int .i64 x) :=
  h k _ (by rw [List.getElem?_map, hx]; rfl)

theorem law08_SameInts (a b : Option Addr) (ca cb : Nat) (A : List Nat) (w : World) (hA : A.length ≤ 9223372036854775807) (ha : CellsA w a (ints A)) (hb : CellsA w b (ints A)) :
    Calls Tryd.prog 40 #[.slice a A.length ca, .slice b A.length cb] w fun e w' => e = .returned (.bool true) ∧ Below w.heap.size w w' := by
  have hl' : ((A.length : Int) != (A.length : Int)) = false := by simp
  go_enter Tryd.func40, Tryd.ntmps40
  go_wp2_with fail
  go_loopw [5] (fun i wr => ∃ k : Nat, k ≤ A.length ∧ i = .int .i64 k ∧ Below w.heap.size w wr) (fun i _ => A.length - (intOf i).toNat)
  case atStart => exact ⟨0, by omega, rfl, Below.refl _ _⟩
  case round =>
    obtain ⟨k, hk, rfl, hbr⟩ := hrel
    by_cases hlt : k < A.length
    · obtain ⟨x, hx⟩ : ∃ x, A[k]? = some x := ⟨_, List.getElem?_eq_getElem hlt⟩
      obtain ⟨ba, oa, rfl, hcx⟩ := (ha.below hbr).int hx
      obtain ⟨bb, ob, rfl, hcy⟩ := (hb.below hbr).int hx
      have hxx : ((x : Int) != (x : Int)) = false := by simp
      clear hx
      go_wp2_with fail
      go_quiet (fail)
      generalize hw2 : World.drewN wr _ = w9
      have hq2 := Below.then hbr (below_draws hw2)
      clear hw2
      go_wp2_with fail
      go_roundw
      case rel => exact ⟨k + 1, by omega, by go_num, hq2⟩
      case measure => simp [intOf]; omega
    · have : k = A.length := by omega
      subst this
      go_wp2_with fail
      go_ret
      exact ⟨rfl, hbr⟩
end Go.Proofs.YtnnggcaifbinbaaDoor
