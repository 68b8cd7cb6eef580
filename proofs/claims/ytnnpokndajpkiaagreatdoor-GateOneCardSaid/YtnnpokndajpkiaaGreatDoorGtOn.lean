import Derived.Test.YtnnpokndajpkiaaGreatDoorGtDr
import Derived.Test.YtnnpokndajpkiaaGreatDoorGtOp
namespace Go.Proofs.YtnnpokndajpkiaaGreatDoor
open Go.RowKit
attribute [local irreducible] Ok
theorem read_mails (m W : Nat) (c : Cn) (now ops : Int) : (readC m W c now ops).2.1.length ≤ 1 := by
  have h1 : ∀ c, (cutR W c ops).2.1.length ≤ 1 := fun c => by
    unfold cutR; split
    · exact Nat.le_refl _
    · exact Nat.zero_le _
  have h2 : ∀ c p, (liveR W c p ops).2.1.length ≤ 1 := fun c p => by
    unfold liveR; repeat (first | exact Nat.zero_le _ | exact Nat.le_refl _ | split)
  have h3 : ∀ c p, (freshR W c p ops).2.1.length ≤ 1 := fun c p => by
    unfold freshR; split
    · exact Nat.le_refl _
    · exact Nat.zero_le _
  unfold readC; split
  · exact Nat.zero_le _
  split
  · exact h1 _
  split
  · split
    · exact h2 _ _
    · exact h3 _ _
  split
  · exact h1 _
  · exact Nat.zero_le _
theorem act_mails (W u m : Nat) (G : List Cn) (ops : Int) (q : Ac) : (actS W u m G ops q).2.1.length ≤ 1 := by
  unfold actS; split
  · exact Nat.zero_le _
  split
  · exact Nat.zero_le _
  split
  · exact Nat.zero_le _
  split
  · show (readX m W G q.cn q.now ops).1.length ≤ 1
    unfold readX; split
    · exact Nat.zero_le _
    · exact read_mails _ _ _ _ _
  split
  · exact hearM_len W [q.it] G
  · exact Nat.zero_le _
theorem ml_range {w : World} {v : Value} {M : List MlG} (h : (rowO 51 40 v M.length (mlCs M)).is w) {j : Nat} {x : MlG} (hx : M[j]? = some x) : ∃ g c, v = .slice (some ⟨g, 0, none⟩) M.length c := by
  rcases h.2 with ⟨_, h3⟩ | ⟨g, cap, cur, h2, _⟩
  · have hl := (List.getElem?_eq_some_iff.1 hx).1
    omega
  · exact ⟨g, cap, h2⟩
theorem ml_at {w : World} {g c : Nat} {M : List MlG} (h : (rowO 51 40 (.slice (some ⟨g, 0, none⟩) M.length c) M.length (mlCs M)).is w) {j : Nat} {x : MlG} (hx : M[j]? = some x) : w.rangeAt g (0 + j * 40) (mlC x) := by
  obtain ⟨b, o, e, hj⟩ := CellsA.elem (g := mlC) (m := 40) (fun _ => rfl) (own_cells (show w.ownsRow 0 51 40 _ M.length (mlCs M) from h)) hx (.int .i64 x.1.dst) rfl; injection e with e
  injection e with e1 e2
  subst e1 e2; exact fun j v hv => hj j v hv
set_option maxRecDepth 100000 in
set_option maxHeartbeats 4000000 in
theorem gateOneS {wb : World} {W u m : Int} {al : Option Addr} {cap : Nat} {xs : List Ac} (hX : ∀ w, Below wb.heap.size wb w → CellsA w al (acCs xs) ∧ ∀ a ∈ xs, AcIn w a) (hn : xs.length ≤ 9223372036854775807) (hw : ∀ q ∈ xs, AcWf q) : Spec Tryz.prog wb 4 #[.int .i64 W, .int .i64 u, .int .i64 m, .slice al xs.length cap] [] [] (fun _ : Unit => .bool true) (fun _ => []) (fun _ => []) := by
  intro w H; refine en_call Tryz.func4 H ?_; refine en E0 (eC 4 []) ?_; have HG := great20 (wb := wb) (al := al) (cap := cap) (xs := xs) (X := many []) (fun w h1 _ => hX w h1) hn; cases hm : mayN W u m
  · refine en_spec0 (gate_NewN W u m hm) [] [] [] ?_
    refine en E0 [.c, .c] ?_; cases hb : big20 xs
    · rw [hb] at HG
      refine en_new0 (many []) ?_ (fun _ => ⟨fun c hc => (by cases hc), List.Pairwise.nil⟩) (fun j ⟨c, hc, _⟩ => (by cases hc)); refine en_spec0 (HG) [] [0] [] ?_; refine en E0 (eC 4 []) ?_; refine en_spec0 (law20_awake) [] [] [] ?_; refine en E0 [.c] ?_; exact en_rets () [] [] []
    · rw [hb] at HG
      refine en_new0 (many []) ?_ (fun _ => ⟨fun c hc => (by cases hc), List.Pairwise.nil⟩) (fun j ⟨c, hc, _⟩ => (by cases hc)); refine en_spec0 (HG) [] [0] [] ?_; refine en E0 (eC 4 []) ?_; refine en_spec0 (law20_awake) [] [] [] ?_; refine en E0 [.c] ?_; exact en_rets () [] [] []
  · obtain ⟨W, u, m, rfl, rfl, rfl, m1, m2, m3, m4, m5⟩ := may_nat hm
    refine en_spec (gate_New W u m m1 m2 m3 m4 m5) [] [] [] (fun y => ?_); obtain ⟨g, mb⟩ := y; refine en E0 [.c, .c] ?_; cases hb : big20 xs
    · rw [hb] at HG
      obtain ⟨hlen, hsum, hgood⟩ := small_acts hb hw; refine en_new0 (many []) ?_ (fun _ => ⟨fun c hc => (by cases hc), List.Pairwise.nil⟩) (fun j ⟨c, hc, _⟩ => (by cases hc)); refine en_spec0 (HG) [] [0] [] ?_; refine en E0 (eC 4 []) ?_; refine en_spec (record_New) [] [] [] (fun lg => ?_); refine en E0 [.c, .c] ?_; refine en_drop [] [2, 0, 0] ?_; refine en_loop (α := {y : List CnG × Value × List NtG × Int × Nat // GtGood (sumL (xs.take y.2.2.2.2)) (y.2.2.2.2 * 4000000000) (absK y.1) ∧ 0 ≤ y.2.2.2.1 ∧ y.2.2.2.1 ≤ y.2.2.2.2 ∧ y.2.2.1.length ≤ y.2.2.2.2 ∧ y.2.2.2.2 ≤ xs.length}) (fun y => xs.length - y.1.2.2.2.2) (fun y => [(3, .slice al xs.length cap), (9, .pointer (some ⟨g, 0, none⟩)), (10, .pointer (some ⟨lg, 0, none⟩)), (11, .int .i64 (y.1.2.2.2.2 : Int))]) (fun y => []) (fun y => many [gtC g W u m mb y.1.1, lgC lg y.1.2.1 y.1.2.2.1 y.1.2.2.2.1, many []]) ⟨([], .slice none 0 0, [], 0, 0), fun c hc => (by cases hc), Int.le_refl _, Int.le_refl _, Nat.le_refl _, Nat.zero_le _⟩ (by kernel_rfl) ?_; intro ⟨⟨K, vl, T, ops, k⟩, hG, ho0, hok, hT, hkl⟩ J HJ; simp only at hG ho0 hok hT hkl HJ
      rcases Nat.lt_or_ge k xs.length with hk | hk
      · obtain ⟨q, hq⟩ : ∃ q, xs[k]? = some q := ⟨_, List.getElem?_eq_getElem hk⟩
        have hqm : q ∈ xs := List.mem_of_getElem? hq; have ht : xs.take (k + 1) = xs.take k ++ [q] := by rw [List.take_add_one, hq]; rfl
        have hsum2 : sumL (xs.take (k + 1)) = sumL (xs.take k) + q.bs.size := by rw [ht]; unfold sumL; rw [List.map_append, List.sum_append]; simp
        have hst := sum_take (xs := xs) k; obtain ⟨hqg, hqc, hqb⟩ := hgood q hqm; have hG2 := act_good (W := W) (u := u) (m := m) (ops := ops) hG (by omega) hqg; have hone := act_one W u m (absK K) ops q; have hGx : GtGood (sumL (xs.take (k + 1))) ((k + 1) * 4000000000) (actS W u m (absK K) ops q).1 := fun c hc => (hG2 c hc).up (by omega) (by omega)
        refine en_factK (p := ∃ ga oa, al = some ⟨ga, oa, none⟩) (fun w h => by obtain ⟨g, o, h1, _⟩ := ac_range (hX w h.hp.low).1 hq; exact ⟨g, o, h1⟩) ?_; rintro ⟨ga, oa, rfl⟩; have HR : ∀ w, Below wb.heap.size wb w → w.rangeAt ga (oa + k * 42) (acR q) := fun w h1 => by
          obtain ⟨g', o', h3, h4⟩ := ac_range (hX w h1).1 hq; injection h3 with h3
          injection h3 with h3 h5
          subst h3 h5; exact h4
        refine en ⟨⟨[⟨ga, oa + k * 42, acR q⟩], []⟩, [(.bool (decide ((((k : Int)) : Int) < (xs.length : Int))), .bool true)], [⟨some ⟨ga, oa, none⟩, xs.length, cap, .i64, k, 42, ⟨ga, oa + k * 42, none⟩⟩, ⟨some ⟨ga, oa, none⟩, xs.length, cap, .i64, k, 42, ⟨ga, oa + k * 42, none⟩⟩], [], fun _ _ h => ⟨⟨HR _ h.hp.low, trivial⟩, trivial⟩, ⟨dcT (by omega), trivial⟩, ⟨⟨ga, oa, k, rfl, rfl, hk, rfl⟩, ⟨ga, oa, k, rfl, rfl, hk, rfl⟩, trivial⟩, trivial⟩ (eC 3 (.f 0 :: .c :: .c :: .i 0 :: .c :: .l 0 1 :: eC 3 [.i 1, .c, .l 0 0])) ?_; refine en_meet (α := Unit) 1 (fun _ => [(3, .slice (some ⟨ga, oa, none⟩) xs.length cap), (9, .pointer (some ⟨g, 0, none⟩)), (10, .pointer (some ⟨lg, 0, none⟩)), (11, .int .i64 (k : Int)), (12, .int .i64 (atC q))]) (fun _ => []) (fun _ => many [gtC g W u m mb K, lgC lg vl T ops, many []]) ?_ ?_
        · intro JM HJM
          by_cases h4 : q.d = 4
          · refine en ⟨⟨[⟨ga, oa + k * 42, acR q⟩], []⟩, [(.bool ((((q.d : Int)) : Int) == 4), .bool true), (.int .i64 q.it.cn, .int .i64 (atC q))], [⟨some ⟨ga, oa, none⟩, xs.length, cap, .i64, k, 42, ⟨ga, oa + k * 42, none⟩⟩], [], fun _ _ h => ⟨⟨HR _ h.hp.low, trivial⟩, trivial⟩, ⟨eqI (by omega), by unfold atC; rw [if_pos h4], trivial⟩, ⟨⟨ga, oa, k, rfl, rfl, hk, rfl⟩, trivial⟩, trivial⟩ [.f 0, .c, .c, .i 0, .c, .c, .l 0 6, .f 1] ?_
            exact en_stopI (fun a w F HK => HJM () a w F HK)
          · refine en (EF [(.bool ((((q.d : Int)) : Int) == 4), .bool false)] ⟨eqI' (by omega), trivial⟩) [.f 0] ?_
            have hat : Value.int .i64 q.cn = .int .i64 (atC q) := by unfold atC; rw [if_neg h4]
            replace HJM := HJM (); rw [← hat] at HJM; exact en_stopI (fun a w F HK => HJM  a w F HK)
        intro _; refine en E0 [.c, .c] ?_; refine en_spec0 (gate_State (g := g) (W := W) (u := u) (m := m) (mb := mb) (K := K) (atC q)) [] [0] [] ?_; refine en E0 [.c, .c] ?_; refine en_spec0 (gate_Sent (g := g) (W := W) (u := u) (m := m) (mb := mb) (K := K) (atC q)) [] [0] [] ?_; refine en E0 [.c] ?_; refine en_spec0 (record_Len (g := lg) (v := vl) (T := T) (ops := ops)) [] [1] [] ?_; refine en ⟨⟨[⟨ga, oa + k * 42, acR q⟩], []⟩, [], [⟨some ⟨ga, oa, none⟩, xs.length, cap, .i64, k, 42, ⟨ga, oa + k * 42, none⟩⟩], [], fun _ _ h => ⟨⟨HR _ h.hp.low, trivial⟩, trivial⟩, trivial, ⟨⟨ga, oa, k, rfl, rfl, hk, rfl⟩, trivial⟩, trivial⟩ (eC 7 [.i 0, .l 0 0]) ?_; refine en_spec (actAll (g := g) (W := W) (u := u) (m := m) (mb := mb) (lg := lg) (K := K) (vl := vl) (T := T) (ops := ops) (q := q) (X := many []) m4 m5 ho0 (by omega) (by omega) hG (by omega) (by omega) hqg (hw q hqm) hqc hqb (fun w h1 _ => (hX w h1).2 q hqm)) [] [1, 0, 0] [] (fun y => ?_); obtain ⟨⟨vm, K2, M, vl', T'⟩, hK2, hM, hT'⟩ := y; simp only at hK2 hM hT'
        have hnt : (actS W u m (absK K) ops q).2.2.length ≤ 1 := act_notes W u m (absK K) ops q; have hT2 : T'.length = T.length + (actS W u m (absK K) ops q).2.2.length := by have h := congrArg List.length hT'; rw [List.length_map, List.length_append, List.length_map] at h; exact h
        have hM1 : M.length ≤ 1 := by have h := act_mails W u m (absK K) ops q; rw [← hM, List.length_map] at h; exact h
        rw [← hK2, ← hM] at hone; rw [← hK2] at hGx; obtain ⟨was, hwas⟩ : ∃ n, stG (absK K) (atC q) = n := ⟨_, rfl⟩
        obtain ⟨wis, hwis⟩ : ∃ n, stG (absK K2) (atC q) = n := ⟨_, rfl⟩
        have hone' := hone; rw [hwas, hwis] at hone'; obtain ⟨o1, o2, o3, o4, o5, o6⟩ := hone'; refine en_unpack 1 (mlK vm M) _ ?_; refine en_factK (p := ∃ am cm, vm = .slice am M.length cm) (fun w h => mlK_form (is_at h.hp.is 0 (c := rowO 51 40 vm M.length (mlCs M)) rfl)) ?_; rintro ⟨am, cm, rfl⟩; refine en E0 (eC 3 []) ?_; refine en_spec0 (gate_State (g := g) (W := W) (u := u) (m := m) (mb := mb) (K := K2) (atC q)) [] [2] [] ?_; refine en E0 [.c] ?_; refine en_drop [] [0, 0, 0, 0, 0] ?_; refine en_meet (α := Unit) 1 (fun _ => [(3, .slice (some ⟨ga, oa, none⟩) xs.length cap), (9, .pointer (some ⟨g, 0, none⟩)), (10, .pointer (some ⟨lg, 0, none⟩)), (11, .int .i64 (k : Int)), (12, .int .i64 (atC q)), (13, .int .u8 (stG (absK K) (atC q) : Int)), (16, .slice am M.length cm), (17, .int .u8 (stG (absK K2) (atC q) : Int))]) (fun _ => []) (fun _ => many [gtC g W u m mb K2, rowO 51 40 (.slice am M.length cm) M.length (mlCs M), many (M.map fun x => sbC (x.1.p, x.2)), lgC lg vl' T' (ops + ((actS W u m (absK K) ops q).2.2.length : Int)), many []]) ?_ ?_
        · intro JS HJS
          by_cases h6 : was = 6
          · obtain ⟨p1, p2, p3⟩ := o1 h6
            have p4 : T'.length = T.length := by rw [hT2, p3]; rfl
            refine en (EF [(.bool ((((stG (absK K) (atC q) : Int)) : Int) == 6), .bool true), (.bool ((((stG (absK K2) (atC q) : Int)) : Int) != 6), .bool false)] ⟨eqI (by rw [hwas]; omega), neI' (by rw [hwis]; omega), trivial⟩) (.c :: .f 0 :: .c :: .c :: .f 1 :: eC 3 []) ?_; refine en_spec0 (gate_Sent (g := g) (W := W) (u := u) (m := m) (mb := mb) (K := K2) (atC q)) [] [0] [] ?_; refine en (EF [(.bool (!(((sentG (absK K2) (atC q)) : ByteArray).toList == ((sentG (absK K) (atC q)) : ByteArray).toList)), .bool false)] ⟨neS' (p2), trivial⟩) (.c :: .f 0 :: eC 3 []) ?_; refine en_spec0 (record_Len (g := lg) (v := vl') (T := T') (ops := (ops + ((actS W u m (absK K) ops q).2.2.length : Int)))) [] [3] [] ?_; refine en (EF [(.bool ((((T'.length : Int)) : Int) != (T.length : Int)), .bool false)] ⟨neI' (by rw [p4]), trivial⟩) [.c, .f 0, .c, .c] ?_; refine en_drop [] [1, 1, 1, 0, 0] ?_; exact en_stopI (fun a w F HK => HJS () a w F HK)
          · refine en (EF [(.bool ((((stG (absK K) (atC q) : Int)) : Int) == 6), .bool false)] ⟨eqI' (by rw [hwas]; omega), trivial⟩) (.c :: .f 0 :: eC 17 []) ?_
            exact en_stopI (fun a w F HK => HJS () a w F HK)
        intro _; refine en E0 [.c] ?_; refine en_loop (α := {j : Nat // j ≤ M.length}) (fun y => M.length - y.1) (fun y => [(3, .slice (some ⟨ga, oa, none⟩) xs.length cap), (9, .pointer (some ⟨g, 0, none⟩)), (10, .pointer (some ⟨lg, 0, none⟩)), (11, .int .i64 (k : Int)), (12, .int .i64 (atC q)), (13, .int .u8 (stG (absK K) (atC q) : Int)), (16, .slice am M.length cm), (17, .int .u8 (stG (absK K2) (atC q) : Int)), (18, .int .i64 (y.1 : Int))]) (fun y => []) (fun y => many [gtC g W u m mb K2, rowO 51 40 (.slice am M.length cm) M.length (mlCs M), many (M.map fun x => sbC (x.1.p, x.2)), lgC lg vl' T' (ops + ((actS W u m (absK K) ops q).2.2.length : Int)), many []]) ⟨0, Nat.zero_le _⟩ (by kernel_rfl) ?_; intro ⟨j, hj⟩ J2 HJ2; simp only at HJ2
        rcases Nat.lt_or_ge j M.length with hl | hl
        · obtain ⟨x, hx⟩ : ∃ x, M[j]? = some x := ⟨_, List.getElem?_eq_getElem hl⟩
          have hxm : x.1 ∈ M.map (·.1) := List.mem_map_of_mem (List.mem_of_getElem? hx); refine en_factK (p := ∃ gm cm2, Value.slice am M.length cm = .slice (some ⟨gm, 0, none⟩) M.length cm2) (fun w h => ml_range (is_at h.hp.is 1 (c := rowO 51 40 (.slice am M.length cm) M.length (mlCs M)) rfl) hx) ?_; rintro ⟨gm, cm2, e9⟩; injection e9 with e9 _ e10
          subst e9 e10; refine en1 ⟨⟨[⟨gm, 0 + j * 40, mlC x⟩], []⟩, [(.bool (decide ((((j : Int)) : Int) < (M.length : Int))), .bool true)], [⟨some ⟨gm, 0, none⟩, M.length, cm, .i64, j, 40, ⟨gm, 0 + j * 40, none⟩⟩], [], fun _ _ h => ⟨⟨ml_at (is_at h.hp.is 1 (c := rowO 51 40 (.slice (some ⟨gm, 0, none⟩) M.length cm) M.length (mlCs M)) rfl) hx, trivial⟩, trivial⟩, ⟨dcT (by omega), trivial⟩, ⟨⟨gm, 0, j, rfl, rfl, hl, rfl⟩, trivial⟩, trivial⟩ (eC 3 [.f 0, .c, .c, .i 0, .c, .l 0 2, .n, .s 0 0]) fun Y => ?_
          refine en_meet (α := Unit) 2 (fun _ => [(3, .slice (some ⟨ga, oa, none⟩) xs.length cap), (9, .pointer (some ⟨g, 0, none⟩)), (10, .pointer (some ⟨lg, 0, none⟩)), (11, .int .i64 (k : Int)), (12, .int .i64 (atC q)), (13, .int .u8 (stG (absK K) (atC q) : Int)), (16, .slice (some ⟨gm, 0, none⟩) M.length cm), (17, .int .u8 (stG (absK K2) (atC q) : Int)), (18, .int .i64 (j : Int))]) (fun _ => []) (fun _ => many [gtC g W u m mb K2, rowO 51 40 (.slice (some ⟨gm, 0, none⟩) M.length cm) M.length (mlCs M), many (M.map fun x => sbC (x.1.p, x.2)), lgC lg vl' T' (ops + ((actS W u m (absK K) ops q).2.2.length : Int)), many []]) ?_ ?_
          · intro JC HJC
            by_cases k1 : x.1.k = 1
            · obtain ⟨b1, b2, b3, b4, b5, b6⟩ := o2 x.1 hxm (by omega)
              rw [List.length_map] at b5; by_cases h1 : was = 1
              · refine en ⟨⟨[⟨ga, oa + k * 42, acR q⟩, ⟨gm, 0 + j * 40, mlC x⟩], []⟩, [(.bool ((((x.1.k : Int)) : Int) == 1), .bool true), (.bool ((((q.d : Int)) : Int) != 3), .bool false), (.bool (((x.1.cn) : Int) != (atC q)), .bool false), (.bool ((((stG (absK K) (atC q) : Int)) : Int) != 1), .bool false), (.bool ((((stG (absK K2) (atC q) : Int)) : Int) == 3), .bool false), (.bool ((((M.length : Int)) : Int) != 1), .bool false), (.bool (((x.1.lane) : Int) != 1), .bool false)], [⟨some ⟨ga, oa, none⟩, xs.length, cap, .i64, k, 42, ⟨ga, oa + k * 42, none⟩⟩, ⟨some ⟨gm, 0, none⟩, M.length, cm, .i64, j, 40, ⟨gm, 0 + j * 40, none⟩⟩], [], fun _ _ h => ⟨⟨HR _ h.hp.low, ml_at (is_at h.hp.is 1 (c := rowO 51 40 (.slice (some ⟨gm, 0, none⟩) M.length cm) M.length (mlCs M)) rfl) hx, trivial⟩, trivial⟩, ⟨eqI (by omega), neI' (by omega), neI' (b2), neI' (by rw [hwas]; omega), eqI' (by rw [hwis]; omega), neI' (by omega), neI' (by omega), trivial⟩, ⟨⟨ga, oa, k, rfl, rfl, hk, rfl⟩, ⟨gm, 0, j, rfl, rfl, hl, rfl⟩, trivial⟩, trivial⟩ (.c :: .b 0 0 :: .f 0 :: eC 10 (.i 0 :: .c :: .l 0 0 :: .f 1 :: .c :: .c :: .b 0 2 :: .c :: .f 2 :: eC 3 (.f 3 :: eC 7 (.f 4 :: eC 4 (.f 5 :: eC 4 (.i 1 :: .c :: .l 1 1 :: .f 6 :: eC 25 [])))))) ?_
                refine en_drop [] [0, 0, 0, 0, 0] ?_; exact en_stopI (fun a w F HK => HJC () a w F HK)
              · refine en ⟨⟨[⟨ga, oa + k * 42, acR q⟩, ⟨gm, 0 + j * 40, mlC x⟩], []⟩, [(.bool ((((x.1.k : Int)) : Int) == 1), .bool true), (.bool ((((q.d : Int)) : Int) != 3), .bool false), (.bool (((x.1.cn) : Int) != (atC q)), .bool false), (.bool ((((stG (absK K) (atC q) : Int)) : Int) != 1), .bool true), (.bool ((((stG (absK K) (atC q) : Int)) : Int) != 3), .bool false), (.bool ((((stG (absK K2) (atC q) : Int)) : Int) == 3), .bool false), (.bool ((((M.length : Int)) : Int) != 1), .bool false), (.bool (((x.1.lane) : Int) != 1), .bool false)], [⟨some ⟨ga, oa, none⟩, xs.length, cap, .i64, k, 42, ⟨ga, oa + k * 42, none⟩⟩, ⟨some ⟨gm, 0, none⟩, M.length, cm, .i64, j, 40, ⟨gm, 0 + j * 40, none⟩⟩], [], fun _ _ h => ⟨⟨HR _ h.hp.low, ml_at (is_at h.hp.is 1 (c := rowO 51 40 (.slice (some ⟨gm, 0, none⟩) M.length cm) M.length (mlCs M)) rfl) hx, trivial⟩, trivial⟩, ⟨eqI (by omega), neI' (by omega), neI' (b2), neI (by rw [hwas]; omega), neI' (by rw [hwas]; omega), eqI' (by rw [hwis]; omega), neI' (by omega), neI' (by omega), trivial⟩, ⟨⟨ga, oa, k, rfl, rfl, hk, rfl⟩, ⟨gm, 0, j, rfl, rfl, hl, rfl⟩, trivial⟩, trivial⟩ (.c :: .b 0 0 :: .f 0 :: eC 10 (.i 0 :: .c :: .l 0 0 :: .f 1 :: .c :: .c :: .b 0 2 :: .c :: .f 2 :: eC 3 (.f 3 :: .c :: .c :: .f 4 :: eC 4 (.f 5 :: eC 4 (.f 6 :: eC 4 (.i 1 :: .c :: .l 1 1 :: .f 7 :: eC 25 [])))))) ?_
                refine en_drop [] [0, 0, 0, 0, 0] ?_; exact en_stopI (fun a w F HK => HJC () a w F HK)
            by_cases k2 : x.1.k = 2
            · obtain ⟨b1, b2, b3, b4, b5, b6⟩ := o2 x.1 hxm (by omega)
              rw [List.length_map] at b5; by_cases h1 : was = 1
              · refine en ⟨⟨[⟨ga, oa + k * 42, acR q⟩, ⟨gm, 0 + j * 40, mlC x⟩], []⟩, [(.bool ((((x.1.k : Int)) : Int) == 1), .bool false), (.bool ((((x.1.k : Int)) : Int) == 2), .bool true), (.bool ((((q.d : Int)) : Int) != 3), .bool false), (.bool (((x.1.cn) : Int) != (atC q)), .bool false), (.bool ((((stG (absK K) (atC q) : Int)) : Int) != 1), .bool false), (.bool ((((stG (absK K2) (atC q) : Int)) : Int) == 3), .bool false), (.bool ((((M.length : Int)) : Int) != 1), .bool false), (.bool (((x.1.lane) : Int) != 1), .bool false)], [⟨some ⟨ga, oa, none⟩, xs.length, cap, .i64, k, 42, ⟨ga, oa + k * 42, none⟩⟩, ⟨some ⟨gm, 0, none⟩, M.length, cm, .i64, j, 40, ⟨gm, 0 + j * 40, none⟩⟩], [], fun _ _ h => ⟨⟨HR _ h.hp.low, ml_at (is_at h.hp.is 1 (c := rowO 51 40 (.slice (some ⟨gm, 0, none⟩) M.length cm) M.length (mlCs M)) rfl) hx, trivial⟩, trivial⟩, ⟨eqI' (by omega), eqI (by omega), neI' (by omega), neI' (b2), neI' (by rw [hwas]; omega), eqI' (by rw [hwis]; omega), neI' (by omega), neI' (by omega), trivial⟩, ⟨⟨ga, oa, k, rfl, rfl, hk, rfl⟩, ⟨gm, 0, j, rfl, rfl, hl, rfl⟩, trivial⟩, trivial⟩ (.c :: .b 0 0 :: .f 0 :: .c :: .c :: .b 0 0 :: .f 1 :: eC 6 (.i 0 :: .c :: .l 0 0 :: .f 2 :: .c :: .c :: .b 0 2 :: .c :: .f 3 :: eC 3 (.f 4 :: eC 7 (.f 5 :: eC 4 (.f 6 :: eC 4 (.i 1 :: .c :: .l 1 1 :: .f 7 :: eC 25 [])))))) ?_
                refine en_drop [] [0, 0, 0, 0, 0] ?_; exact en_stopI (fun a w F HK => HJC () a w F HK)
              · refine en ⟨⟨[⟨ga, oa + k * 42, acR q⟩, ⟨gm, 0 + j * 40, mlC x⟩], []⟩, [(.bool ((((x.1.k : Int)) : Int) == 1), .bool false), (.bool ((((x.1.k : Int)) : Int) == 2), .bool true), (.bool ((((q.d : Int)) : Int) != 3), .bool false), (.bool (((x.1.cn) : Int) != (atC q)), .bool false), (.bool ((((stG (absK K) (atC q) : Int)) : Int) != 1), .bool true), (.bool ((((stG (absK K) (atC q) : Int)) : Int) != 3), .bool false), (.bool ((((stG (absK K2) (atC q) : Int)) : Int) == 3), .bool false), (.bool ((((M.length : Int)) : Int) != 1), .bool false), (.bool (((x.1.lane) : Int) != 1), .bool false)], [⟨some ⟨ga, oa, none⟩, xs.length, cap, .i64, k, 42, ⟨ga, oa + k * 42, none⟩⟩, ⟨some ⟨gm, 0, none⟩, M.length, cm, .i64, j, 40, ⟨gm, 0 + j * 40, none⟩⟩], [], fun _ _ h => ⟨⟨HR _ h.hp.low, ml_at (is_at h.hp.is 1 (c := rowO 51 40 (.slice (some ⟨gm, 0, none⟩) M.length cm) M.length (mlCs M)) rfl) hx, trivial⟩, trivial⟩, ⟨eqI' (by omega), eqI (by omega), neI' (by omega), neI' (b2), neI (by rw [hwas]; omega), neI' (by rw [hwas]; omega), eqI' (by rw [hwis]; omega), neI' (by omega), neI' (by omega), trivial⟩, ⟨⟨ga, oa, k, rfl, rfl, hk, rfl⟩, ⟨gm, 0, j, rfl, rfl, hl, rfl⟩, trivial⟩, trivial⟩ (.c :: .b 0 0 :: .f 0 :: .c :: .c :: .b 0 0 :: .f 1 :: eC 6 (.i 0 :: .c :: .l 0 0 :: .f 2 :: .c :: .c :: .b 0 2 :: .c :: .f 3 :: eC 3 (.f 4 :: .c :: .c :: .f 5 :: eC 4 (.f 6 :: eC 4 (.f 7 :: eC 4 (.i 1 :: .c :: .l 1 1 :: .f 8 :: eC 25 [])))))) ?_
                refine en_drop [] [0, 0, 0, 0, 0] ?_; exact en_stopI (fun a w F HK => HJC () a w F HK)
            obtain ⟨b1, b2, b3⟩ := o3 x.1 hxm (by omega); refine en ⟨⟨[⟨ga, oa + k * 42, acR q⟩, ⟨gm, 0 + j * 40, mlC x⟩], []⟩, [(.bool ((((x.1.k : Int)) : Int) == 1), .bool false), (.bool ((((x.1.k : Int)) : Int) == 2), .bool false), (.bool ((((x.1.k : Int)) : Int) != 4), .bool false), (.bool ((((q.d : Int)) : Int) != 4), .bool false), (.bool (((x.1.lane) : Int) != 3), .bool false)], [⟨some ⟨ga, oa, none⟩, xs.length, cap, .i64, k, 42, ⟨ga, oa + k * 42, none⟩⟩, ⟨some ⟨gm, 0, none⟩, M.length, cm, .i64, j, 40, ⟨gm, 0 + j * 40, none⟩⟩], [], fun _ _ h => ⟨⟨HR _ h.hp.low, ml_at (is_at h.hp.is 1 (c := rowO 51 40 (.slice (some ⟨gm, 0, none⟩) M.length cm) M.length (mlCs M)) rfl) hx, trivial⟩, trivial⟩, ⟨eqI' (by omega), eqI' (by omega), neI' (by omega), neI' (by omega), neI' (by omega), trivial⟩, ⟨⟨ga, oa, k, rfl, rfl, hk, rfl⟩, ⟨gm, 0, j, rfl, rfl, hl, rfl⟩, trivial⟩, trivial⟩ (.c :: .b 0 0 :: .f 0 :: .c :: .c :: .b 0 0 :: .f 1 :: eC 46 (.b 0 0 :: .f 2 :: eC 3 (.i 0 :: .c :: .l 0 0 :: .f 3 :: eC 4 [.i 1, .c, .l 1 1, .f 4, .c, .c]))) ?_; refine en_drop [] [0, 0, 0, 0, 0] ?_; exact en_stopI (fun a w F HK => HJC () a w F HK)
          intro _; refine en (EF [(.int .i64 (IntKind.i64.wrap ((j : Int) + 1)), .int .i64 ((j + 1 : Nat) : Int))] ⟨addI (by omega), trivial⟩) [.c, .f 0, .c] ?_; exact en_stopI (fun a w F HK => HJ2 ⟨j + 1, by omega⟩ a w (by show M.length - (j + 1) < M.length - j; omega) F HK)
        refine en (EF [(.bool (decide ((((j : Int)) : Int) < (M.length : Int))), .bool false)] ⟨dcF (by omega), trivial⟩) (eC 3 [.f 0]) ?_; obtain ⟨dn, hdn⟩ : ∃ dn, dn = (decide (q.d = 4) && decide (q.it.k = 14)) := ⟨_, rfl⟩
        refine en_meet (α := Unit) 0 (fun _ => [(3, .slice (some ⟨ga, oa, none⟩) xs.length cap), (9, .pointer (some ⟨g, 0, none⟩)), (10, .pointer (some ⟨lg, 0, none⟩)), (11, .int .i64 (k : Int)), (13, .int .u8 (stG (absK K) (atC q) : Int)), (17, .int .u8 (stG (absK K2) (atC q) : Int)), (21, .bool dn)]) (fun _ => []) (fun _ => many [gtC g W u m mb K2, rowO 51 40 (.slice am M.length cm) M.length (mlCs M), many (M.map fun x => sbC (x.1.p, x.2)), lgC lg vl' T' (ops + ((actS W u m (absK K) ops q).2.2.length : Int)), many []]) ?_ ?_
        · intro JD HJD
          by_cases d4 : q.d = 4
          · by_cases k14 : q.it.k = 14
            · refine en ⟨⟨[⟨ga, oa + k * 42, acR q⟩], []⟩, [(.bool ((((q.d : Int)) : Int) == 4), .bool true), (.bool ((((q.it.k : Int)) : Int) == 14), .bool true), (.bool true, .bool dn)], [⟨some ⟨ga, oa, none⟩, xs.length, cap, .i64, k, 42, ⟨ga, oa + k * 42, none⟩⟩, ⟨some ⟨ga, oa, none⟩, xs.length, cap, .i64, k, 42, ⟨ga, oa + k * 42, none⟩⟩], [], fun _ _ h => ⟨⟨HR _ h.hp.low, trivial⟩, trivial⟩, ⟨eqI (by omega), eqI (by omega), by rw [hdn]; simp [d4, k14], trivial⟩, ⟨⟨ga, oa, k, rfl, rfl, hk, rfl⟩, ⟨ga, oa, k, rfl, rfl, hk, rfl⟩, trivial⟩, trivial⟩ (.c :: .c :: .i 0 :: .c :: .l 0 0 :: .f 0 :: eC 3 [.i 1, .c, .c, .l 0 4, .f 1, .c, .f 2]) ?_
              exact en_stopI (fun a w F HK => HJD () a w F HK)
            · refine en ⟨⟨[⟨ga, oa + k * 42, acR q⟩], []⟩, [(.bool ((((q.d : Int)) : Int) == 4), .bool true), (.bool ((((q.it.k : Int)) : Int) == 14), .bool false), (.bool false, .bool dn)], [⟨some ⟨ga, oa, none⟩, xs.length, cap, .i64, k, 42, ⟨ga, oa + k * 42, none⟩⟩, ⟨some ⟨ga, oa, none⟩, xs.length, cap, .i64, k, 42, ⟨ga, oa + k * 42, none⟩⟩], [], fun _ _ h => ⟨⟨HR _ h.hp.low, trivial⟩, trivial⟩, ⟨eqI (by omega), eqI' (by omega), by rw [hdn]; simp [*], trivial⟩, ⟨⟨ga, oa, k, rfl, rfl, hk, rfl⟩, ⟨ga, oa, k, rfl, rfl, hk, rfl⟩, trivial⟩, trivial⟩ (.c :: .c :: .i 0 :: .c :: .l 0 0 :: .f 0 :: eC 3 [.i 1, .c, .c, .l 0 4, .f 1, .c, .f 2]) ?_
              exact en_stopI (fun a w F HK => HJD () a w F HK)
          · refine en ⟨⟨[⟨ga, oa + k * 42, acR q⟩], []⟩, [(.bool ((((q.d : Int)) : Int) == 4), .bool false), (.bool false, .bool dn)], [⟨some ⟨ga, oa, none⟩, xs.length, cap, .i64, k, 42, ⟨ga, oa + k * 42, none⟩⟩], [], fun _ _ h => ⟨⟨HR _ h.hp.low, trivial⟩, trivial⟩, ⟨eqI' (by omega), by rw [hdn]; simp [*], trivial⟩, ⟨⟨ga, oa, k, rfl, rfl, hk, rfl⟩, trivial⟩, trivial⟩ (.c :: .c :: .i 0 :: .c :: .l 0 0 :: .f 0 :: eC 9 [.f 1]) ?_
            exact en_stopI (fun a w F HK => HJD () a w F HK)
        intro _; refine en_meet (α := Unit) 2 (fun _ => [(3, .slice (some ⟨ga, oa, none⟩) xs.length cap), (9, .pointer (some ⟨g, 0, none⟩)), (10, .pointer (some ⟨lg, 0, none⟩)), (11, .int .i64 (k : Int))]) (fun _ => []) (fun _ => many [gtC g W u m mb K2, rowO 51 40 (.slice am M.length cm) M.length (mlCs M), many (M.map fun x => sbC (x.1.p, x.2)), lgC lg vl' T' (ops + ((actS W u m (absK K) ops q).2.2.length : Int)), many []]) ?_ ?_
        · intro JL HJL
          by_cases w2 : was = 2
          · by_cases i3 : wis = 3
            · obtain ⟨p1, p2⟩ := o4 (by omega) i3
              refine en (EF [(.bool ((((stG (absK K) (atC q) : Int)) : Int) == 2), .bool true), (.bool ((((stG (absK K2) (atC q) : Int)) : Int) == 3), .bool true), (.bool (!dn), .bool false), (.bool ((((stG (absK K) (atC q) : Int)) : Int) == 5), .bool false), (.bool ((((stG (absK K2) (atC q) : Int)) : Int) == 1), .bool false)] ⟨eqI (by rw [hwas]; omega), eqI (by rw [hwis]; omega), by rw [hdn, decide_eq_true p1, decide_eq_true p2]; rfl, eqI' (by rw [hwas]; omega), eqI' (by rw [hwis]; omega), trivial⟩) (.c :: .f 0 :: eC 6 (.f 1 :: eC 3 (.f 2 :: eC 3 (.f 3 :: eC 7 (.f 4 :: eC 9 []))))) ?_; exact en_stopI (fun a w F HK => HJL () a w F HK)
            · have i1 : wis ≠ 1 := fun h => by have := o6 h; omega
              refine en (EF [(.bool ((((stG (absK K) (atC q) : Int)) : Int) == 2), .bool true), (.bool ((((stG (absK K2) (atC q) : Int)) : Int) == 3), .bool false), (.bool ((((stG (absK K) (atC q) : Int)) : Int) == 5), .bool false), (.bool ((((stG (absK K2) (atC q) : Int)) : Int) == 1), .bool false)] ⟨eqI (by rw [hwas]; omega), eqI' (by rw [hwis]; omega), eqI' (by rw [hwas]; omega), eqI' (by rw [hwis]; omega), trivial⟩) (.c :: .f 0 :: eC 6 (.f 1 :: eC 7 (.f 2 :: eC 7 (.f 3 :: eC 9 [])))) ?_; exact en_stopI (fun a w F HK => HJL () a w F HK)
          by_cases w4 : was = 4
          · by_cases i3 : wis = 3
            · obtain ⟨p1, p2⟩ := o4 (by omega) i3
              refine en (EF [(.bool ((((stG (absK K) (atC q) : Int)) : Int) == 2), .bool false), (.bool ((((stG (absK K) (atC q) : Int)) : Int) == 4), .bool true), (.bool ((((stG (absK K2) (atC q) : Int)) : Int) == 3), .bool true), (.bool (!dn), .bool false), (.bool ((((stG (absK K) (atC q) : Int)) : Int) == 5), .bool false), (.bool ((((stG (absK K2) (atC q) : Int)) : Int) == 1), .bool false)] ⟨eqI' (by rw [hwas]; omega), eqI (by rw [hwas]; omega), eqI (by rw [hwis]; omega), by rw [hdn, decide_eq_true p1, decide_eq_true p2]; rfl, eqI' (by rw [hwas]; omega), eqI' (by rw [hwis]; omega), trivial⟩) (.c :: .f 0 :: .c :: .c :: .f 1 :: eC 3 (.f 2 :: eC 3 (.f 3 :: eC 3 (.f 4 :: eC 7 (.f 5 :: eC 9 []))))) ?_; exact en_stopI (fun a w F HK => HJL () a w F HK)
            · have i1 : wis ≠ 1 := fun h => by have := o6 h; omega
              refine en (EF [(.bool ((((stG (absK K) (atC q) : Int)) : Int) == 2), .bool false), (.bool ((((stG (absK K) (atC q) : Int)) : Int) == 4), .bool true), (.bool ((((stG (absK K2) (atC q) : Int)) : Int) == 3), .bool false), (.bool ((((stG (absK K) (atC q) : Int)) : Int) == 5), .bool false), (.bool ((((stG (absK K2) (atC q) : Int)) : Int) == 1), .bool false)] ⟨eqI' (by rw [hwas]; omega), eqI (by rw [hwas]; omega), eqI' (by rw [hwis]; omega), eqI' (by rw [hwas]; omega), eqI' (by rw [hwis]; omega), trivial⟩) (.c :: .f 0 :: .c :: .c :: .f 1 :: eC 3 (.f 2 :: eC 7 (.f 3 :: eC 7 (.f 4 :: eC 9 [])))) ?_; exact en_stopI (fun a w F HK => HJL () a w F HK)
          by_cases w5 : was = 5
          · have i3 := o5 w5
            have i1 : wis ≠ 1 := fun h => by have := o6 h; omega
            refine en (EF [(.bool ((((stG (absK K) (atC q) : Int)) : Int) == 2), .bool false), (.bool ((((stG (absK K) (atC q) : Int)) : Int) == 4), .bool false), (.bool ((((stG (absK K) (atC q) : Int)) : Int) == 5), .bool true), (.bool ((((stG (absK K2) (atC q) : Int)) : Int) == 3), .bool false), (.bool ((((stG (absK K2) (atC q) : Int)) : Int) == 1), .bool false)] ⟨eqI' (by rw [hwas]; omega), eqI' (by rw [hwas]; omega), eqI (by rw [hwas]; omega), eqI' (by rw [hwis]; omega), eqI' (by rw [hwis]; omega), trivial⟩) (.c :: .f 0 :: .c :: .c :: .f 1 :: eC 11 (.f 2 :: .c :: .c :: .f 3 :: eC 4 (.f 4 :: eC 9 []))) ?_; exact en_stopI (fun a w F HK => HJL () a w F HK)
          by_cases i1 : wis = 1
          · by_cases w1 : was = 1
            · refine en (EF [(.bool ((((stG (absK K) (atC q) : Int)) : Int) == 2), .bool false), (.bool ((((stG (absK K) (atC q) : Int)) : Int) == 4), .bool false), (.bool ((((stG (absK K) (atC q) : Int)) : Int) == 5), .bool false), (.bool ((((stG (absK K2) (atC q) : Int)) : Int) == 1), .bool true), (.bool ((((stG (absK K) (atC q) : Int)) : Int) != 1), .bool false)] ⟨eqI' (by rw [hwas]; omega), eqI' (by rw [hwas]; omega), eqI' (by rw [hwas]; omega), eqI (by rw [hwis]; omega), neI' (by rw [hwas]; omega), trivial⟩) (.c :: .f 0 :: .c :: .c :: .f 1 :: eC 11 (.f 2 :: eC 7 (.f 3 :: .c :: .c :: .f 4 :: eC 6 []))) ?_
              exact en_stopI (fun a w F HK => HJL () a w F HK)
            · have w0 : was = 0 := by have := o6 i1; omega
              refine en (EF [(.bool ((((stG (absK K) (atC q) : Int)) : Int) == 2), .bool false), (.bool ((((stG (absK K) (atC q) : Int)) : Int) == 4), .bool false), (.bool ((((stG (absK K) (atC q) : Int)) : Int) == 5), .bool false), (.bool ((((stG (absK K2) (atC q) : Int)) : Int) == 1), .bool true), (.bool ((((stG (absK K) (atC q) : Int)) : Int) != 1), .bool true), (.bool ((((stG (absK K) (atC q) : Int)) : Int) != 0), .bool false)] ⟨eqI' (by rw [hwas]; omega), eqI' (by rw [hwas]; omega), eqI' (by rw [hwas]; omega), eqI (by rw [hwis]; omega), neI (by rw [hwas]; omega), neI' (by rw [hwas]; omega), trivial⟩) (.c :: .f 0 :: .c :: .c :: .f 1 :: eC 11 (.f 2 :: eC 7 (.f 3 :: .c :: .c :: .f 4 :: eC 3 [.f 5, .c, .c]))) ?_; exact en_stopI (fun a w F HK => HJL () a w F HK)
          refine en (EF [(.bool ((((stG (absK K) (atC q) : Int)) : Int) == 2), .bool false), (.bool ((((stG (absK K) (atC q) : Int)) : Int) == 4), .bool false), (.bool ((((stG (absK K) (atC q) : Int)) : Int) == 5), .bool false), (.bool ((((stG (absK K2) (atC q) : Int)) : Int) == 1), .bool false)] ⟨eqI' (by rw [hwas]; omega), eqI' (by rw [hwas]; omega), eqI' (by rw [hwas]; omega), eqI' (by rw [hwis]; omega), trivial⟩) (.c :: .f 0 :: .c :: .c :: .f 1 :: eC 11 (.f 2 :: eC 7 (.f 3 :: eC 9 []))) ?_; exact en_stopI (fun a w F HK => HJL () a w F HK)
        intro _; refine en (EF [(.int .i64 (IntKind.i64.wrap ((k : Int) + 1)), .int .i64 ((k + 1 : Nat) : Int))] ⟨addI (by omega), trivial⟩) [.c, .f 0, .c] ?_; refine en_drop [] [0, 2, 2] ?_; exact en_stopI (fun a w F HK => HJ ⟨(K2, vl', T', (ops + ((actS W u m (absK K) ops q).2.2.length : Int)), k + 1), hGx, by simp only; omega, by simp only; omega, by simp only; omega, by simp only; omega⟩ a w (by show xs.length - (k + 1) < xs.length - k; omega) F HK)
      have hke : k = xs.length := by omega
      refine en (EF [(.bool (decide ((((k : Int)) : Int) < (xs.length : Int))), .bool false)] ⟨dcF (by omega), trivial⟩) (eC 3 [.f 0]) ?_; refine en_spec0 (law20_awake) [] [] [] ?_; refine en E0 [.c] ?_; exact en_rets () [] [] []
    · rw [hb] at HG
      refine en_new0 (many []) ?_ (fun _ => ⟨fun c hc => (by cases hc), List.Pairwise.nil⟩) (fun j ⟨c, hc, _⟩ => (by cases hc)); refine en_spec0 (HG) [] [0] [] ?_; refine en E0 (eC 4 []) ?_; refine en_spec0 (law20_awake) [] [] [] ?_; refine en E0 [.c] ?_; exact en_rets () [] [] []
end Go.Proofs.YtnnpokndajpkiaaGreatDoor
