/- The walk of the reference's workers of a filter. Conditions: the text is shorter than the model's bound for a search. -/
import Derived.Test.YtnnggcaifbinbaaDoorHubs2
namespace Go.Proofs.YtnnggcaifbinbaaDoor
open Go.RowKit

theorem own_below {w w1 : World} {base : Nat} {e : TypeId} {size : Nat} {v : Value} {n : Nat} {xs : List Value} (h : w.ownsRow base e size v n xs) (hb : Below w.heap.size w w1) : w1.ownsRow base e size v n xs := by
  refine ⟨h.1, ?_⟩
  rcases h.2 with ⟨rfl, hn⟩ | ⟨g, cap, cur, rfl, hbg, hg, hnc, hcm, hcs, htake⟩
  · exact .inl ⟨rfl, hn⟩
  · refine .inr ⟨g, cap, cur, rfl, hbg, ?_, hnc, hcm, hcs, htake⟩
    rw [hb.block g (by
      apply Nat.lt_of_not_le
      intro h
      rw [Array.getElem?_eq_none h] at hg
      simp at hg)]
    exact hg

def pickL (W : Bool) (R k : Nat) : List Nat := (List.range k).filter fun i => W || R == i
theorem pickL_succ (W : Bool) (R k : Nat) : pickL W R (k + 1) = if (W || R == k) then pickL W R k ++ [k] else pickL W R k := by
  unfold pickL
  rw [List.range_succ, List.filter_append]
  cases h : (W || R == k) <;> simp [h]
theorem pickL_len (W : Bool) (R k : Nat) : (pickL W R k).length ≤ k := by
  unfold pickL
  exact Nat.le_trans (List.length_filter_le _ _) (by simp)
theorem pickL_hubs {s : Bs} {m : Nat} (hf : fewB (m : Int) = true) (h1 : 1 ≤ m) (hn : filterL s = true) : pickL (wildL s) (restL (headL s) m) m = hubsL s (m : Int) := by
  unfold pickL hubsL
  rw [hf, hn]
  cases wildL s
  · have hR : restL (headL s) m < m := Nat.mod_lt _ h1
    have h := filter_one (restL (headL s) m) m
    rw [if_pos hR] at h
    simpa using h
  · have : ∀ l : List Nat, l.filter (fun i => true || restL (headL s) m == i) = l := by intro l; simp
    rw [this]; simp

theorem ref08_Hubs (s : ByteArray) (n : Int) (w : World) (hs : s.size < 4294967281) :
    Calls Tryd.prog 42 #[.string s, .int .i64 n] w (RetInts (hubsL (bl s) n) w) := by
  obtain ⟨i0, hi, hz0, hz1, hz2⟩ := info_parts (show (Tryd.prog.info? 3).map (fun i => (i.zero, i.size, i.bytes)) = some (some (.int .i64 0), 1, 8) by kernel_rfl)
  have hF := Lib.hid (fun w => ref08_Few n w)
  have hN := Lib.hid (fun w => ref07_Filter s w hs)
  have hW := Lib.hid (fun w => ref07_Wild s w hs)
  cases hf : fewB n
  · rw [hf] at hF
    rw [hubs_none (.inl hf)]
    go_enter Tryd.func42, Tryd.ntmps42
    go_wp2_with (first
      | (go_at_call 57; refine (hF.out _).mono ?_; rintro e w1 ⟨rfl, rfl⟩))
    go_ret
    exact ⟨none, 0, rfl, CellsA.nil _ _, Below.refl _ _⟩
  · rw [hf] at hF
    obtain ⟨m, rfl, h1, h2⟩ := few_nat hf
    cases hn : filterL (bl s)
    · rw [hn] at hN
      rw [hubs_none (.inr hn)]
      go_enter Tryd.func42, Tryd.ntmps42
      go_wp2_with (first
        | (go_at_call 57; refine (hF.out _).mono ?_; rintro e w1 ⟨rfl, rfl⟩)
        | (go_at_call 29; refine (hN.out _).mono ?_; rintro e w1 ⟨rfl, hb⟩))
      go_ret
      exact ⟨none, 0, rfl, CellsA.nil _ _, hb⟩
    · rw [hn] at hN
      rw [← pickL_hubs hf h1 hn]
      have hlt := hashL_lt (headL (bl s))
      unfold two64 at hlt
      have hR : hashL (headL (bl s)) % m = restL (headL (bl s)) m := rfl
      have hR2 : restL (headL (bl s)) m < 64 := by rw [← hR]; exact Nat.lt_of_lt_of_le (Nat.mod_lt _ (by omega)) h2
      obtain ⟨hd, hhd⟩ : ∃ t, headL (bl s) = t := ⟨_, rfl⟩
      have hH := Lib.hid (fun (r : ByteArray) (hr : bl r = hd) w => ref08_Hash r w (first_size (s := s) (hr.trans hhd.symm) hs))
      have HH := Lib.hid hhd
      rw [hhd] at hlt hR hR2 ⊢
      clear hhd
      obtain ⟨H, hHe⟩ : ∃ H, hashL hd = H := ⟨_, rfl⟩
      generalize restL hd m = R at *
      rw [hHe] at hlt hR
      have t1 : (H : Int).tmod (m : Int) = (R : Int) := by rw [← hR]; rfl
      have c1 : ¬ (m : Int) = 0 := by omega
      have c2 : IntKind.u64.wrap (m : Int) = m := by rw [IntKind.wrap_u64]; omega
      have c3 : IntKind.i64.wrap (R : Int) = R := by rw [IntKind.wrap_i64]; omega
      have HE := Lib.hid hHe
      clear hHe hR
      have fin : ∀ (T : List Nat) (v : Value) (w' : World), pickL (wildL (bl s)) R m = T → w'.ownsRow w.heap.size 3 1 v T.length (ints T) → Below w.heap.size w w' → RetInts (pickL (wildL (bl s)) R m) w (.returned v) w' := by
        rintro T v w' rfl h2 h3
        exact own_ints h2 h3
      have FIN := Lib.hid fin; clear fin
      have hS := fun k => pickL_succ (wildL (bl s)) R k
      have hLn := fun k => pickL_len (wildL (bl s)) R k
      cases hw : wildL (bl s)
      all_goals rw [hw] at hW FIN hS hLn
      all_goals
        go_enter Tryd.func42, Tryd.ntmps42
        go_wp2_with (first
          | (go_at_call 57; refine (hF.out _).mono ?_; rintro e w1 ⟨rfl, rfl⟩)
          | (go_at_call 29; refine (hN.out _).mono ?_; rintro e w1 ⟨rfl, hb⟩))
      · go_loopw [5, 6] (fun v i wr => ∃ (k : Nat) (T : List Nat), k ≤ m ∧ i = .int .i64 k ∧ Hid (pickL false R k = T) ∧ T.length ≤ k ∧ wr.ownsRow w.heap.size 3 1 v T.length (ints T) ∧ Below w.heap.size w wr) (fun _ i _ => m - (intOf i).toNat)
        case atStart =>
          exact ⟨0, [], by omega, rfl, rfl, by simp, ⟨rfl, .inl ⟨rfl, rfl⟩⟩, hb⟩
        case round =>
          obtain ⟨k, T, hk, rfl, HT, hlen, hown, hb⟩ := hrel
          by_cases hlt2 : k < m
          · have hk1 := hS k
            rw [HT.out, Bool.false_or] at hk1
            cases hv : R == k
            · have hv' : ((R : Int) == (k : Int)) = false := by
                rw [beq_eq_false_iff_ne] at hv ⊢; omega
              rw [hv] at hk1
              have HK := Lib.hid hk1
              clear hk1 hv hS hLn
              go_wp2_with (first
                | (go_at_call 43; refine (hW.out _).mono ?_; rintro e w1 ⟨rfl, hb1⟩; replace hown := own_below hown hb1; replace hb := Below.then hb hb1)
                | (go_at_call 27; refine (ref07_Levels s _ (by omega)).mono ?_; rintro e w1 ⟨L, a, c, rfl, hT, hcells, hb1⟩; replace hown := own_below hown hb1; replace hb := Below.then hb hb1; obtain ⟨x, hx, hh, hlen⟩ := head_of hT (levelsL_ne _); obtain ⟨b, o, rfl, hcell⟩ := hcells.text hx; rw [Nat.add_zero] at hcell; replace hh : bl x = hd := hh.symm.trans HH.out; clear hT hx hcells)
                | (go_at_call 32; refine (hH.out _ hh _).mono ?_; rintro e w1 ⟨he, hb1⟩; rw [hh, HE.out] at he; subst he; replace hown := own_below hown hb1; replace hb := Below.then hb hb1))
              go_roundw
              case rel => exact ⟨k + 1, T, by omega, by go_num, HK.out, by omega, hown, hb⟩
              case measure => simp [intOf]; omega
            · have hv' : ((R : Int) == (k : Int)) = true := by
                rw [beq_iff_eq] at hv ⊢; omega
              rw [hv, if_pos rfl] at hk1
              have HK := Lib.hid hk1
              clear hk1 hv hS hLn
              go_wp2_with (first
                | (go_at_call 43; refine (hW.out _).mono ?_; rintro e w1 ⟨rfl, hb1⟩; replace hown := own_below hown hb1; replace hb := Below.then hb hb1)
                | (go_at_call 27; refine (ref07_Levels s _ (by omega)).mono ?_; rintro e w1 ⟨L, a, c, rfl, hT, hcells, hb1⟩; replace hown := own_below hown hb1; replace hb := Below.then hb hb1; obtain ⟨x, hx, hh, hlen⟩ := head_of hT (levelsL_ne _); obtain ⟨b, o, rfl, hcell⟩ := hcells.text hx; rw [Nat.add_zero] at hcell; replace hh : bl x = hd := hh.symm.trans HH.out; clear hT hx hcells)
                | (go_at_call 32; refine (hH.out _ hh _).mono ?_; rintro e w1 ⟨he, hb1⟩; rw [hh, HE.out] at he; subst he; replace hown := own_below hown hb1; replace hb := Below.then hb hb1)
                | (at_builtin; refine wpList_append_own _ rfl _ _ 41 rfl w.heap.size 3 i0 (.int .i64 0) 1 8 Tryd.underlying41 hi hz0 hz1 hz2 rfl (by decide) _ _ _ rfl (hown.alloc _) _ 1 1 [.int .i64 (k : Nat)] rfl rfl ?c1 ?c2 ?c3 ?c4 ?c5 ?_))
              case c1 =>
                intro j u hj
                match j, hj with
                | 0, hj => simp at hj; subst hj; simp [Addr.add]
              case c2 => intro u hu; simp at hu; subst hu; rfl
              case c3 => unfold maxLen; omega
              case c4 => omega
              case c5 => have := hb.size; simp; omega
              · intro v' w1 hown' hgrow _
                have hb1 : Below w.heap.size w w1 := (hb.alloc hb.size _).grown hgrow (by have := hb.size; simp; omega) (fun j hj => (hown.lt j hj).1)
                have hown1 : w1.ownsRow w.heap.size 3 1 v' (T ++ [k]).length (ints (T ++ [k])) := by
                  simpa using hown'
                clear hown' hgrow hown
                go_wp2
                go_roundw
                case rel => exact ⟨k + 1, T ++ [k], by omega, by go_num, HK.out, by simp; omega, hown1, hb1⟩
                case measure => simp [intOf]; omega
          · have : k = m := by omega
            subst this
            go_wp2_with fail
            go_ret
            exact FIN.out _ _ _ HT.out hown hb
      · go_loopw [5, 6] (fun v i wr => ∃ (k : Nat) (T : List Nat), k ≤ m ∧ i = .int .i64 k ∧ Hid (pickL true R k = T) ∧ T.length ≤ k ∧ wr.ownsRow w.heap.size 3 1 v T.length (ints T) ∧ Below w.heap.size w wr) (fun _ i _ => m - (intOf i).toNat)
        case atStart =>
          exact ⟨0, [], by omega, rfl, rfl, by simp, ⟨rfl, .inl ⟨rfl, rfl⟩⟩, hb⟩
        case round =>
          obtain ⟨k, T, hk, rfl, HT, hlen, hown, hb⟩ := hrel
          by_cases hlt2 : k < m
          · have hk1 := hS k
            rw [HT.out, Bool.true_or, if_pos rfl] at hk1
            have HK := Lib.hid hk1
            clear hk1 hS hLn
            go_wp2_with (first
              | (go_at_call 43; refine (hW.out _).mono ?_; rintro e w1 ⟨rfl, hb1⟩; replace hown := own_below hown hb1; replace hb := Below.then hb hb1)
              | (go_at_call 27; refine (ref07_Levels s _ (by omega)).mono ?_; rintro e w1 ⟨L, a, c, rfl, hT, hcells, hb1⟩; replace hown := own_below hown hb1; replace hb := Below.then hb hb1; obtain ⟨x, hx, hh, hlen⟩ := head_of hT (levelsL_ne _); obtain ⟨b, o, rfl, hcell⟩ := hcells.text hx; rw [Nat.add_zero] at hcell; replace hh : bl x = hd := hh.symm.trans HH.out; clear hT hx hcells)
              | (go_at_call 32; refine (hH.out _ hh _).mono ?_; rintro e w1 ⟨he, hb1⟩; rw [hh, HE.out] at he; subst he; replace hown := own_below hown hb1; replace hb := Below.then hb hb1)
              | (at_builtin; refine wpList_append_own _ rfl _ _ 41 rfl w.heap.size 3 i0 (.int .i64 0) 1 8 Tryd.underlying41 hi hz0 hz1 hz2 rfl (by decide) _ _ _ rfl (hown.alloc _) _ 1 1 [.int .i64 (k : Nat)] rfl rfl ?c1 ?c2 ?c3 ?c4 ?c5 ?_))
            case c1 =>
              intro j u hj
              match j, hj with
              | 0, hj => simp at hj; subst hj; simp [Addr.add]
            case c2 => intro u hu; simp at hu; subst hu; rfl
            case c3 => unfold maxLen; omega
            case c4 => omega
            case c5 => have := hb.size; simp; omega
            · intro v' w1 hown' hgrow _
              have hb1 : Below w.heap.size w w1 := (hb.alloc hb.size _).grown hgrow (by have := hb.size; simp; omega) (fun j hj => (hown.lt j hj).1)
              have hown1 : w1.ownsRow w.heap.size 3 1 v' (T ++ [k]).length (ints (T ++ [k])) := by
                simpa using hown'
              clear hown' hgrow hown
              go_wp2
              go_roundw
              case rel => exact ⟨k + 1, T ++ [k], by omega, by go_num, HK.out, by simp; omega, hown1, hb1⟩
              case measure => simp [intOf]; omega
          · have : k = m := by omega
            subst this
            go_wp2_with fail
            go_ret
            exact FIN.out _ _ _ HT.out hown hb
end Go.Proofs.YtnnggcaifbinbaaDoor
