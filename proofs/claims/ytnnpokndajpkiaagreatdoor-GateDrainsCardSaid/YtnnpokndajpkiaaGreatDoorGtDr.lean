import Derived.Test.YtnnpokndajpkiaaGreatDoorGtSn
namespace Go.Proofs.YtnnpokndajpkiaaGreatDoor
open Go.RowKit
attribute [local irreducible] Ok
theorem app_nil (x : ByteArray) : x ++ (⟨#[]⟩ : ByteArray) = x := ByteArray.append_empty
structure AcWf (q : Ac) : Prop where
  cn : q.cn < 9223372036854775808
  ok : ∀ p ∈ q.it.ps, p.1.ty < 256 ∧ p.1.qos < 256 ∧ p.1.id < 65536 ∧ p.1.level < 256 ∧ p.1.keep < 65536 ∧ p.1.wqos < 256 ∧ p.1.code < 256 ∧ ∀ x ∈ p.1.subs, x.2 < 256
theorem bigN_ok {p : Pk} (hw : p.ty < 256 ∧ p.qos < 256 ∧ p.id < 65536 ∧ p.level < 256 ∧ p.keep < 65536 ∧ p.wqos < 256 ∧ p.code < 256 ∧ ∀ x ∈ p.subs, x.2 < 256) (hb : bigN (notP p) = false) : PkOk p := by
  unfold bigN at hb; rw [Bool.or_eq_false_iff, Bool.or_eq_false_iff] at hb; obtain ⟨h1, h2, h3⟩ := hb; have ht : ∀ t ∈ txN (notP p), t.size ≤ 300 := fun t ht => by
    have h := List.any_eq_false.1 h1 t ht; simp only [decide_eq_true_eq] at h; omega
  have hs : ∀ x ∈ p.subs, x.1.size ≤ 300 := fun x hx => by
    have h := List.any_eq_false.1 h2 x hx; simp only [decide_eq_true_eq] at h; omega
  have h4 : p.subs.length ≤ 20 := by
    have h := of_decide_eq_false h3; have e : (notP p).p.subs.length = p.subs.length := rfl; omega
  have p1 : p.topic.size ≤ 300 := ht p.topic (by simp [txN, notP]); have p2 : p.payload.size ≤ 300 := ht p.payload (by simp [txN, notP]); have p3 : p.client.size ≤ 300 := ht p.client (by simp [txN, notP]); have p4 : p.wtopic.size ≤ 300 := ht p.wtopic (by simp [txN, notP]); have p5 : p.wpayload.size ≤ 300 := ht p.wpayload (by simp [txN, notP]); have p6 : p.user.size ≤ 300 := ht p.user (by simp [txN, notP]); have p7 : p.pass.size ≤ 300 := ht p.pass (by simp [txN, notP]); have p8 : p.codes.size ≤ 300 := ht p.codes (by simp [txN, notP]); obtain ⟨w1, w2, w3, w4, w5, w6, w7, w8⟩ := hw; exact ⟨w1, w2, w3, w4, w5, w6, w7, by omega, by omega, by omega, by omega, by omega, by omega, by omega, by omega, by omega, fun x hx => ⟨by have := hs x hx; omega, w8 x hx⟩⟩
theorem small_acts {xs : List Ac} (h : big20 xs = false) (hw : ∀ q ∈ xs, AcWf q) : xs.length ≤ 100 ∧ sumL xs ≤ 5000 ∧ ∀ q ∈ xs, AcGood q ∧ q.it.cl.size ≤ 300 ∧ q.bs.size ≤ 2000 := by
  unfold big20 at h; obtain ⟨h1, h2⟩ := Bool.or_eq_false_iff.1 h; have h3 := of_decide_eq_false h2; have h4 := badL_sum xs 0 (by decide) h1; have h5 : ∀ (l : List Ac) (n : Nat), badL n l = false → ∀ q ∈ l, ∃ n, badA n q = false := by
    intro l; induction l with
    | nil => intro n _ q hq; cases hq
    | cons x l ih =>
      intro n hb q hq; obtain ⟨b1, b2⟩ := Bool.or_eq_false_iff.1 (show (badA n x || badL (n + x.bs.size) l) = false from hb); rcases List.mem_cons.1 hq with rfl | hq
      · exact ⟨n, b1⟩
      · exact ih _ b2 q hq
  refine ⟨by omega, by omega, fun q hq => ?_⟩; obtain ⟨n, hb⟩ := h5 xs 0 h1 q hq; unfold badA badP at hb; simp only [Bool.or_eq_false_iff, decide_eq_false_iff_not] at hb; obtain ⟨b1, _, b3, b4, b5⟩ := hb; refine ⟨⟨by omega, fun p hp => ?_⟩, by omega, by omega⟩; have h6 := List.any_eq_false.1 b5 p hp; exact bigN_ok ((hw q hq).ok p hp) (by simpa using h6)
theorem may_nat {W u m : Int} (h : mayN W u m = true) : ∃ W' u' m' : Nat, W = W' ∧ u = u' ∧ m = m' ∧ 1 ≤ W' ∧ W' ≤ 64 ∧ u' < W' ∧ 16 ≤ m' ∧ m' ≤ 65536 := by
  simp only [mayN, Bool.and_eq_true, decide_eq_true_eq] at h; exact ⟨W.toNat, u.toNat, m.toNat, by omega, by omega, by omega, by omega, by omega, by omega, by omega, by omega⟩
theorem read_notes (m W : Nat) (c : Cn) (now ops : Int) : (readC m W c now ops).2.2.1.length ≤ 1 := by
  have h1 : ∀ c, (cutR W c ops).2.2.1.length ≤ 1 := fun c => by
    unfold cutR; split
    · exact Nat.le_refl _
    · exact Nat.zero_le _
  have h2 : ∀ c p, (liveR W c p ops).2.2.1.length ≤ 1 := fun c p => by
    unfold liveR; split
    · exact Nat.zero_le _
    split
    · exact Nat.le_refl _
    split
    · exact Nat.le_refl _
    split
    · exact Nat.zero_le _
    · exact Nat.le_refl _
  have h3 : ∀ c p, (freshR W c p ops).2.2.1.length ≤ 1 := fun c p => by
    unfold freshR; split
    · exact Nat.le_refl _
    · exact Nat.zero_le _
  unfold readC; split
  · exact Nat.zero_le _
  split
  · exact h1 _
  split
  · split
    · exact h2 _ _
    · exact h3 _ _
  split
  · exact h1 _
  · exact Nat.zero_le _
theorem act_notes (W u m : Nat) (G : List Cn) (ops : Int) (q : Ac) : (actS W u m G ops q).2.2.length ≤ 1 := by
  unfold actS; split
  · exact Nat.zero_le _
  split
  · exact Nat.zero_le _
  split
  · exact Nat.zero_le _
  split
  · show (readX m W G q.cn q.now ops).2.1.length ≤ 1
    unfold readX; split
    · exact Nat.zero_le _
    · exact read_notes _ _ _ _ _
  split
  · exact Nat.zero_le _
  · exact Nat.zero_le _
theorem sum_take {xs : List Ac} (k : Nat) : sumL (xs.take k) ≤ sumL xs := by
  have h : sumL xs = sumL (xs.take k) + sumL (xs.drop k) := by
    unfold sumL; rw [← List.sum_append, ← List.map_append, List.take_append_drop]
  omega
theorem actAll {wb : World} {g W u m mb lg : Nat} {K : List CnG} {vl : Value} {T : List NtG} {ops : Int} {q : Ac} {X : Chk} {B D : Nat} (hm1 : 16 ≤ m) (hm2 : m ≤ 65536) (h0 : 0 ≤ ops) (h1 : ops ≤ 100000) (hT : T.length ≤ 10000) (hG : GtGood B D (absK K)) (hB : B ≤ 80000000) (hD : D ≤ 900000000000000) (hq : AcGood q) (hw : AcWf q) (hcl : q.it.cl.size ≤ 300) (hbs : q.bs.size ≤ 2000) (hX : ∀ w, Below wb.heap.size wb w → X.is w → AcIn w q) : Spec Tryz.prog wb 20 #[.pointer (some ⟨g, 0, none⟩), .pointer (some ⟨lg, 0, none⟩), .agg (acR q).toArray] [] [gtC g W u m mb K, lgC lg vl T ops, X] (fun y : {y : Value × List CnG × List MlG × Value × List NtG // absK y.2.1 = (actS W u m (absK K) ops q).1 ∧ y.2.2.1.map (·.1) = (actS W u m (absK K) ops q).2.1 ∧ y.2.2.2.2.map (·.1) = T.map (·.1) ++ (actS W u m (absK K) ops q).2.2} => y.1.1) (fun y => []) (fun y => [gtC g W u m mb y.1.2.1, mlK y.1.1 y.1.2.2.1, lgC lg y.1.2.2.2.1 y.1.2.2.2.2 (ops + ((actS W u m (absK K) ops q).2.2.length : Int)), X]) :=
  law20_act (wb := wb) (g := g) (W := W) (u := u) (m := m) (mb := mb) (lg := lg) (K := K) (vl := vl) (T := T) (ops := ops) (q := q) (X := X) hm1 hm2 hw.cn h0 h1 hT (fun c hc => by have h := (hG c (getG_mem hc).1).len; omega) (fun c hc => (hG c (getG_mem hc).1).ok (by omega) (by omega))
    (fun w h1 h2 => have h := hX w h1 h2; ⟨by omega, by have := hq.few; omega, h.row, fun p hp => ⟨hq.ok p hp, h.each p hp⟩⟩) ⟨by omega, by have := hq.few; omega, hq.ok⟩
    (fun k c n hc => by
      have h3 : GtGood B (D + 4000000000) (hearG (absK K) ([q.it].take k)) := by
        cases k with
        | zero => exact fun c hc => (hG c hc).up (Nat.le_refl _) (by omega)
        | succ k =>
          have h := hear1_good hG hq; rw [show [q.it].take (k + 1) = [q.it] by simp]; exact h
      have h4 := h3 c (getG_mem hc).1; have h5 := h4.drain; have h6 := h4.sent; exact ⟨by omega, by omega⟩)
set_option maxRecDepth 100000 in
set_option maxHeartbeats 4000000 in
theorem gateDrainsS {wb : World} {W u m cn : Int} {al : Option Addr} {cap : Nat} {xs : List Ac} (hX : ∀ w, Below wb.heap.size wb w → CellsA w al (acCs xs) ∧ ∀ a ∈ xs, AcIn w a) (hn : xs.length ≤ 9223372036854775807) (hw : ∀ q ∈ xs, AcWf q) : Spec Tryz.prog wb 7 #[.int .i64 W, .int .i64 u, .int .i64 m, .slice al xs.length cap, .int .i64 cn] [] [] (fun _ : Unit => .bool true) (fun _ => []) (fun _ => []) := by
  intro w H; refine en_call Tryz.func7 H ?_; refine en E0 (eC 4 []) ?_; have HG := great20 (wb := wb) (al := al) (cap := cap) (xs := xs) (X := many []) (fun w h1 _ => hX w h1) hn; cases hm : mayN W u m
  · refine en_spec0 (gate_NewN W u m hm) [] [] [] ?_
    refine en E0 [.c, .c] ?_; cases hb : big20 xs
    · rw [hb] at HG
      refine en_new0 (many []) ?_ (fun _ => ⟨fun c hc => (by cases hc), List.Pairwise.nil⟩) (fun j ⟨c, hc, _⟩ => (by cases hc)); refine en_spec0 (HG) [] [0] [] ?_; refine en E0 (eC 4 []) ?_; refine en_spec0 (law20_awake) [] [] [] ?_; refine en E0 [.c] ?_; exact en_rets () [] [] []
    · rw [hb] at HG
      refine en_new0 (many []) ?_ (fun _ => ⟨fun c hc => (by cases hc), List.Pairwise.nil⟩) (fun j ⟨c, hc, _⟩ => (by cases hc)); refine en_spec0 (HG) [] [0] [] ?_; refine en E0 (eC 4 []) ?_; refine en_spec0 (law20_awake) [] [] [] ?_; refine en E0 [.c] ?_; exact en_rets () [] [] []
  · obtain ⟨W, u, m, rfl, rfl, rfl, m1, m2, m3, m4, m5⟩ := may_nat hm
    refine en_spec (gate_New W u m m1 m2 m3 m4 m5) [] [] [] (fun y => ?_); obtain ⟨g, mb⟩ := y; refine en E0 [.c, .c] ?_; cases hb : big20 xs
    · rw [hb] at HG
      obtain ⟨hlen, hsum, hgood⟩ := small_acts hb hw; refine en_new0 (many []) ?_ (fun _ => ⟨fun c hc => (by cases hc), List.Pairwise.nil⟩) (fun j ⟨c, hc, _⟩ => (by cases hc)); refine en_spec0 (HG) [] [0] [] ?_; refine en E0 (eC 4 []) ?_; refine en_spec (record_New) [] [] [] (fun lg => ?_); refine en E0 (eC 3 []) ?_; refine en_drop [] [2, 0, 0] ?_; refine en_loop (α := {y : List CnG × Value × List NtG × Int × Nat × ByteArray // GtGood (sumL (xs.take y.2.2.2.2.1)) (y.2.2.2.2.1 * 4000000000) (absK y.1) ∧ 0 ≤ y.2.2.2.1 ∧ y.2.2.2.1 ≤ y.2.2.2.2.1 ∧ y.2.2.1.length ≤ y.2.2.2.2.1 ∧ y.2.2.2.2.2 ++ drainG (absK y.1) cn = sentG (absK y.1) cn ∧ y.2.2.2.2.1 ≤ xs.length}) (fun y => xs.length - y.1.2.2.2.2.1) (fun y => [(3, .slice al xs.length cap), (4, .int .i64 cn), (11, .pointer (some ⟨g, 0, none⟩)), (12, .pointer (some ⟨lg, 0, none⟩)), (13, .string y.1.2.2.2.2.2), (14, .int .i64 (y.1.2.2.2.2.1 : Int))]) (fun y => []) (fun y => many [gtC g W u m mb y.1.1, lgC lg y.1.2.1 y.1.2.2.1 y.1.2.2.2.1, many []]) ⟨([], .slice none 0 0, [], 0, 0, ⟨#[]⟩), fun c hc => (by cases hc), Int.le_refl _, Int.le_refl _, Nat.le_refl _, rfl, Nat.zero_le _⟩ (by kernel_rfl) ?_; intro ⟨⟨K, vl, T, ops, k, all⟩, hG, ho0, hok, hT, hall, hkl⟩ J HJ; simp only at hG ho0 hok hT hall hkl HJ
      rcases Nat.lt_or_ge k xs.length with hk | hk
      · obtain ⟨q, hq⟩ : ∃ q, xs[k]? = some q := ⟨_, List.getElem?_eq_getElem hk⟩
        have hqm : q ∈ xs := List.mem_of_getElem? hq; have ht : xs.take (k + 1) = xs.take k ++ [q] := by rw [List.take_add_one, hq]; rfl
        have hsum2 : sumL (xs.take (k + 1)) = sumL (xs.take k) + q.bs.size := by rw [ht]; unfold sumL; rw [List.map_append, List.sum_append]; simp
        have hst := sum_take (xs := xs) k; obtain ⟨hqg, hqc, hqb⟩ := hgood q hqm; have hG2 := act_good (W := W) (u := u) (m := m) (ops := ops) hG (by omega) hqg; obtain ⟨x, hx1, hx2⟩ := act_ext W u m (absK K) ops q cn; have hGx : GtGood (sumL (xs.take (k + 1))) ((k + 1) * 4000000000) (actS W u m (absK K) ops q).1 := fun c hc => (hG2 c hc).up (by omega) (by omega)
        have hs1 := sent_size hGx cn; rw [hx2, ByteArray.size_append] at hs1; refine en_factK (p := ∃ ga oa, al = some ⟨ga, oa, none⟩) (fun w h => by obtain ⟨g, o, h1, _⟩ := ac_range (hX w h.hp.low).1 hq; exact ⟨g, o, h1⟩) ?_; rintro ⟨ga, oa, rfl⟩; have HR : ∀ w, Below wb.heap.size wb w → w.rangeAt ga (oa + k * 42) (acR q) := fun w h1 => by
          obtain ⟨g', o', h3, h4⟩ := ac_range (hX w h1).1 hq; injection h3 with h3
          injection h3 with h3 h5
          subst h3 h5; exact h4
        refine en (EF [(.bool (decide ((((k : Int)) : Int) < (xs.length : Int))), .bool true)] ⟨dcT (by omega), trivial⟩) (eC 3 [.f 0, .c, .c]) ?_; refine en_spec0 (gate_Sent (g := g) (W := W) (u := u) (m := m) (mb := mb) (K := K) cn) [] [0] [] ?_; refine en ⟨⟨[⟨ga, oa + k * 42, acR q⟩], []⟩, [], [⟨some ⟨ga, oa, none⟩, xs.length, cap, .i64, k, 42, ⟨ga, oa + k * 42, none⟩⟩], [], fun _ _ h => ⟨⟨HR _ h.hp.low, trivial⟩, trivial⟩, trivial, ⟨⟨ga, oa, k, rfl, rfl, hk, rfl⟩, trivial⟩, trivial⟩ (eC 5 [.i 0, .l 0 0]) ?_; refine en_spec (actAll (g := g) (W := W) (u := u) (m := m) (mb := mb) (lg := lg) (K := K) (vl := vl) (T := T) (ops := ops) (q := q) (X := many []) m4 m5 ho0 (by omega) (by omega) hG (by omega) (by omega) hqg (hw q hqm) hqc hqb (fun w h1 _ => (hX w h1).2 q hqm)) [] [0, 0, 0] [] (fun y => ?_); obtain ⟨⟨vm, K2, M, vl', T'⟩, hK2, hM, hT'⟩ := y; simp only at hK2 hM hT'
        rw [← hK2] at hGx hx1 hx2; have hnt : (actS W u m (absK K) ops q).2.2.length ≤ 1 := act_notes W u m (absK K) ops q; have hT2 : T'.length = T.length + (actS W u m (absK K) ops q).2.2.length := by have h := congrArg List.length hT'; rw [List.length_map, List.length_append, List.length_map] at h; exact h
        refine en E0 [.c, .c] ?_; refine en_spec0 (gate_Sent (g := g) (W := W) (u := u) (m := m) (mb := mb) (K := K2) cn) [] [0] [] ?_; refine en ⟨⟨[⟨ga, oa + k * 42, acR q⟩], [(hsT (.string (sentG (absK K2) cn)) (.int .i64 ((sentG (absK K) cn).size : Int)) 9, .string (sentG (absK K) cn))]⟩, [(.bool (decide ((((((sentG (absK K2) cn)).size : Int)) : Int) < (((sentG (absK K) cn)).size : Int))), .bool false), (.bool (!(((sentG (absK K) cn) : ByteArray).toList == ((sentG (absK K) cn) : ByteArray).toList)), .bool false)], [⟨some ⟨ga, oa, none⟩, xs.length, cap, .i64, k, 42, ⟨ga, oa + k * 42, none⟩⟩], [], fun _ _ h => ⟨⟨HR _ h.hp.low, trivial⟩, ⟨by rw [hx2]; exact hs_run (by omega) 9, trivial⟩⟩, ⟨dcF (by rw [hx2, ByteArray.size_append]; omega), neS' (rfl), trivial⟩, ⟨⟨ga, oa, k, rfl, rfl, hk, rfl⟩, trivial⟩, trivial⟩ (eC 5 (.f 0 :: eC 4 (.r 0 :: .c :: .f 1 :: eC 3 [.i 0, .c, .l 0 0]))) ?_; by_cases h5 : q.d = 5
        · refine en (EF [(.bool ((((q.d : Int)) : Int) == 5), .bool true)] ⟨eqI (by omega), trivial⟩) (.f 0 :: eC 3 []) ?_
          refine en_spec (gate_Drain (g := g) (W := W) (u := u) (m := m) (mb := mb) (K := K2) cn) [] [0] [] (fun y => ?_); obtain ⟨K3, hK3⟩ := y; have hcat : all ++ drainG (absK K2) cn = sentG (absK K2) cn := by rw [hx1, hx2, ← ByteArray.append_assoc, hall]
          have hsz := congrArg ByteArray.size hcat; rw [ByteArray.size_append] at hsz; have hs2 := sent_size hGx cn; refine en ⟨⟨[], [(ctT (.string all) (.string (drainG (absK K2) cn)) 9, .string (all ++ drainG (absK K2) cn))]⟩, [(.int .i64 (IntKind.i64.wrap ((k : Int) + 1)), .int .i64 ((k + 1 : Nat) : Int))], [], [], fun _ _ h => ⟨trivial, ⟨ct_run (by omega) 9, trivial⟩⟩, ⟨addI (by omega), trivial⟩, trivial, trivial⟩ [.r 0, .c, .c, .f 0, .c] ?_; refine en_drop [] [0, 1, 1] ?_; exact en_stopI (fun a w F HK => HJ ⟨(K3, vl', T', (ops + ((actS W u m (absK K) ops q).2.2.length : Int)), k + 1, all ++ drainG (absK K2) cn), by simp only; rw [hK3]; exact drop_good hGx cn, by simp only; omega, by simp only; omega, by simp only; omega, by simp only; rw [hK3, drop_drain, drop_sent, app_nil]; exact hcat, by simp only; omega⟩ a w (by show xs.length - (k + 1) < xs.length - k; omega) F HK)
        · refine en (EF [(.bool ((((q.d : Int)) : Int) == 5), .bool false), (.int .i64 (IntKind.i64.wrap ((k : Int) + 1)), .int .i64 ((k + 1 : Nat) : Int))] ⟨eqI' (by omega), addI (by omega), trivial⟩) [.f 0, .c, .f 1, .c] ?_
          refine en_drop [] [0, 1, 1] ?_; exact en_stopI (fun a w F HK => HJ ⟨(K2, vl', T', (ops + ((actS W u m (absK K) ops q).2.2.length : Int)), k + 1, all), hGx, by simp only; omega, by simp only; omega, by simp only; omega, by simp only; rw [hx1, hx2, ← ByteArray.append_assoc, hall], by simp only; omega⟩ a w (by show xs.length - (k + 1) < xs.length - k; omega) F HK)
      have hke : k = xs.length := by omega
      have hst := sum_take (xs := xs) k; refine en (EF [(.bool (decide ((((k : Int)) : Int) < (xs.length : Int))), .bool false)] ⟨dcF (by omega), trivial⟩) (eC 3 (.f 0 :: eC 3 [])) ?_; refine en_spec (gate_Drain (g := g) (W := W) (u := u) (m := m) (mb := mb) (K := K) cn) [] [0] [] (fun y => ?_); obtain ⟨K3, hK3⟩ := y; have hsz := congrArg ByteArray.size hall; rw [ByteArray.size_append] at hsz; have hs2 := sent_size hG cn; refine en ⟨⟨[], [(ctT (.string all) (.string (drainG (absK K) cn)) 9, .string (all ++ drainG (absK K) cn))]⟩, [], [], [], fun _ _ h => ⟨trivial, ⟨ct_run (by omega) 9, trivial⟩⟩, trivial, trivial, trivial⟩ [.r 0, .c, .c] ?_; refine en_spec0 (gate_Sent (g := g) (W := W) (u := u) (m := m) (mb := mb) (K := K3) cn) [] [0] [] ?_; have hs3 : sentG (absK K3) cn = sentG (absK K) cn := by rw [hK3, drop_sent]
      have hd3 : drainG (absK K3) cn = ⟨#[]⟩ := by rw [hK3, drop_drain]
      refine en (EF [(.bool (((all ++ drainG (absK K) cn) : ByteArray).toList == ((sentG (absK K3) cn) : ByteArray).toList), .bool true)] ⟨eqS (by rw [hs3]; exact hall), trivial⟩) (.f 0 :: eC 3 []) ?_; refine en_spec (gate_Drain (g := g) (W := W) (u := u) (m := m) (mb := mb) (K := K3) cn) [] [0] [] (fun y => ?_); obtain ⟨K4, hK4⟩ := y; refine en (EF [(.bool (((drainG (absK K3) cn) : ByteArray).toList == (⟨#[]⟩ : ByteArray).toList), .bool true)] ⟨eqS (hd3), trivial⟩) [.f 0, .c, .c] ?_; refine en_spec0 (law20_awake) [] [] [] ?_; refine en E0 [.c, .c] ?_; exact en_rets () [] [] []
    · rw [hb] at HG
      refine en_new0 (many []) ?_ (fun _ => ⟨fun c hc => (by cases hc), List.Pairwise.nil⟩) (fun j ⟨c, hc, _⟩ => (by cases hc)); refine en_spec0 (HG) [] [0] [] ?_; refine en E0 (eC 4 []) ?_; refine en_spec0 (law20_awake) [] [] [] ?_; refine en E0 [.c] ?_; exact en_rets () [] [] []
end Go.Proofs.YtnnpokndajpkiaaGreatDoor
