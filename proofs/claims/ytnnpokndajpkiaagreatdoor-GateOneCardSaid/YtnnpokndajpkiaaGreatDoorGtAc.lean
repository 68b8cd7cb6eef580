import Derived.Test.YtnnpokndajpkiaaGreatDoorGtAw
import Derived.Test.YtnnpokndajpkiaaGreatDoorGtGr
namespace Go.Proofs.YtnnpokndajpkiaaGreatDoor
open Go.RowKit
attribute [local irreducible] Ok
def actS (W u m : Nat) (G : List Cn) (ops : Int) (a : Ac) : List Cn × List Ml × List Nt :=
  if a.d = 0 then (if mayO W u G a.cn = true then G ++ [newC a.cn] else G, [], [])
  else if a.d = 1 then (modG (fedC a.bs) G a.cn, [], [])
  else if a.d = 2 then (modG (fun c => { c with hung := true }) G a.cn, [], [])
  else if a.d = 3 then (modG (fun c => (readC m W c a.now ops).1) G a.cn, (readX m W G a.cn a.now ops).1, (readX m W G a.cn a.now ops).2.1)
  else if a.d = 4 then (hearG G [a.it], hearM W G [a.it], [])
  else (G, [], [])
theorem mls_fst (M : List Ml) : (mls M).map (·.1) = M := by unfold mls; rw [List.map_map]; exact List.map_id M
def Im.zero : Im := ⟨0, 0, 0, ⟨#[]⟩, ⟨#[]⟩, Pk.zero, none, 0, ⟨⟨#[]⟩, ⟨#[]⟩, 0, false⟩, none, 0, 0, none, 0, 0, none, [], 0, 0, 0⟩
theorem gt_infoIm : (Tryz.prog.info? 38).map (fun i => (i.zero, i.size, i.bytes)) = some (some (.agg (itR Im.zero).toArray), 38, 384) := by kernel_rfl
theorem one_item {wb : World} {d : Nat} {i : Im} {X : Chk} (hX : ∀ w, Below wb.heap.size wb w → X.is w → ItIn w i) : ∀ w, Below wb.heap.size wb w → (many [rowO 38 38 (.slice (some ⟨d, 0, none⟩) 1 1) 1 (itR i).toArray.toList, X]).is w → CellsA w (some ⟨d, 0, none⟩) (itCs [i]) ∧ ∀ q ∈ [i], ItIn w q := fun w h1 h2 => by
  refine ⟨?_, fun q hq => ?_⟩
  · have h3 := own_cells (show w.ownsRow 0 38 38 _ 1 (itR i) from is_at h2 0 (c := rowO 38 38 (.slice (some ⟨d, 0, none⟩) 1 1) 1 (itR i).toArray.toList) rfl)
    unfold itCs; rw [List.flatMap_cons, List.flatMap_nil, List.append_nil]; exact h3
  · rw [List.mem_singleton] at hq
    subst hq; exact hX w h1 (is_at h2 1 (c := X) rfl)
set_option maxRecDepth 100000 in
set_option maxHeartbeats 4000000 in
theorem law20_act {wb : World} {g W u m mb lg : Nat} {K : List CnG} {vl : Value} {T : List NtG} {ops : Int} {q : Ac} {X : Chk} (hm1 : 16 ≤ m) (hm2 : m ≤ 65536) (hn : q.cn < 9223372036854775808) (h0 : 0 ≤ ops) (h1 : ops ≤ 100000) (hT : T.length ≤ 10000) (hF : ∀ c, getG (absK K) q.cn = some c → c.L.length + q.bs.size ≤ 300000000) (hC : ∀ c, getG (absK K) q.cn = some c → CnOk m c) (hX : ∀ w, Below wb.heap.size wb w → X.is w → ItIn w q.it) (hok : q.it.cl.size ≤ 1000000 ∧ q.it.ps.length ≤ 1000 ∧ ∀ p ∈ q.it.ps, PkOk p.1) (hb : ∀ k c n, getG (hearG (absK K) ([q.it].take k)) n = some c → c.drain.size ≤ 1000000000000000 ∧ c.sent.size ≤ 1000000000000000) : Spec Tryz.prog wb 20 #[.pointer (some ⟨g, 0, none⟩), .pointer (some ⟨lg, 0, none⟩), .agg (acR q).toArray] [] [gtC g W u m mb K, lgC lg vl T ops, X] (fun y : {y : Value × List CnG × List MlG × Value × List NtG // absK y.2.1 = (actS W u m (absK K) ops q).1 ∧ y.2.2.1.map (·.1) = (actS W u m (absK K) ops q).2.1 ∧ y.2.2.2.2.map (·.1) = T.map (·.1) ++ (actS W u m (absK K) ops q).2.2} => y.1.1) (fun _ => []) (fun y => [gtC g W u m mb y.1.2.1, mlK y.1.1 y.1.2.2.1, lgC lg y.1.2.2.2.1 y.1.2.2.2.2 (ops + ((actS W u m (absK K) ops q).2.2.length : Int)), X]) := by
  obtain ⟨z, hz⟩ : ∃ z, actS W u m (absK K) ops q = z := ⟨_, rfl⟩
  rw [hz]; intro w H; refine en_call Tryz.func20 H ?_; by_cases hd : q.d = 0
  · refine en1 (EF [(.bool ((((q.d : Int)) : Int) == 0), .bool true)] ⟨eqI (by omega), trivial⟩) (.x :: .c :: .c :: .b 0 0 :: .f 0 :: eC 3 [.b 0 1]) fun Y => ?_
    by_cases hmo : mayO W u (absK K) q.cn = true
    · refine en_spec (gate_OpenY (g := g) (W := W) (u := u) (m := m) (mb := mb) (K := K) q.cn hn hmo hm1 hm2) [] [0] [] (fun y => ?_)
      obtain ⟨K2, hK2⟩ := y; refine en E0 [.c] ?_; refine en_row0 51 40 ?_; refine en_new0 (many []) ?_ (fun _ => ⟨fun c hc => (by cases hc), List.Pairwise.nil⟩) (fun j ⟨c, hc, _⟩ => (by cases hc)); refine en_pack [1, 0] (mlK (.slice none 0 0) []) _ ?_; have eq1 : z = (absK K ++ [newC q.cn], [], []) := by rw [← hz]; unfold actS; rw [if_pos hd, if_pos hmo]
      subst eq1; refine en_word 2 (lgC lg vl T ops) (lgC lg vl T (ops + ((([] : List Nt).length : Nat) : Int))) (by rw [show ops + ((([] : List Nt).length : Nat) : Int) = ops by simp]) ?_; exact en_rets ⟨(Value.slice none 0 0, K2, [], vl, T), hK2, rfl, by simp⟩ [] [2, 1, 0, 0] []
    · refine en_spec0 (gate_OpenN (g := g) (W := W) (u := u) (m := m) (mb := mb) (K := K) q.cn hn (by simpa using hmo)) [] [0] [] ?_
      refine en E0 [.c] ?_; refine en_row0 51 40 ?_; refine en_new0 (many []) ?_ (fun _ => ⟨fun c hc => (by cases hc), List.Pairwise.nil⟩) (fun j ⟨c, hc, _⟩ => (by cases hc)); refine en_pack [1, 0] (mlK (.slice none 0 0) []) _ ?_; have eq1 : z = (absK K, [], []) := by rw [← hz]; unfold actS; rw [if_pos hd, if_neg hmo]
      subst eq1; refine en_word 2 (lgC lg vl T ops) (lgC lg vl T (ops + ((([] : List Nt).length : Nat) : Int))) (by rw [show ops + ((([] : List Nt).length : Nat) : Int) = ops by simp]) ?_; exact en_rets ⟨(Value.slice none 0 0, K, [], vl, T), rfl, rfl, by simp⟩ [] [2, 1, 0, 0] []
  by_cases hd1 : q.d = 1
  · refine en1 (EF [(.bool ((((q.d : Int)) : Int) == 0), .bool false), (.bool ((((q.d : Int)) : Int) == 1), .bool true)] ⟨eqI' (by omega), eqI (by omega), trivial⟩) (.x :: .c :: .c :: .b 0 0 :: .f 0 :: .c :: .f 1 :: eC 3 [.b 0 1, .c, .b 0 3]) fun Y => ?_
    refine en_spec (gate_Feed (g := g) (W := W) (u := u) (m := m) (mb := mb) (K := K) q.cn q.bs (by omega) hF) [] [0] [] (fun y => ?_); obtain ⟨K2, hK2⟩ := y; refine en E0 [.c] ?_; refine en_row0 51 40 ?_; refine en_new0 (many []) ?_ (fun _ => ⟨fun c hc => (by cases hc), List.Pairwise.nil⟩) (fun j ⟨c, hc, _⟩ => (by cases hc)); refine en_pack [1, 0] (mlK (.slice none 0 0) []) _ ?_; have eq1 : z = (modG (fedC q.bs) (absK K) q.cn, [], []) := by rw [← hz]; unfold actS; rw [if_neg hd, if_pos hd1]
    subst eq1; refine en_word 2 (lgC lg vl T ops) (lgC lg vl T (ops + ((([] : List Nt).length : Nat) : Int))) (by rw [show ops + ((([] : List Nt).length : Nat) : Int) = ops by simp]) ?_; exact en_rets ⟨(Value.slice none 0 0, K2, [], vl, T), hK2, rfl, by simp⟩ [] [2, 1, 0, 0] []
  by_cases hd2 : q.d = 2
  · refine en1 (EF [(.bool ((((q.d : Int)) : Int) == 0), .bool false), (.bool ((((q.d : Int)) : Int) == 1), .bool false), (.bool ((((q.d : Int)) : Int) == 2), .bool true)] ⟨eqI' (by omega), eqI' (by omega), eqI (by omega), trivial⟩) (.x :: .c :: .c :: .b 0 0 :: .f 0 :: .c :: .f 1 :: .c :: .f 2 :: eC 3 [.b 0 1]) fun Y => ?_
    refine en_spec (gate_Hangup (g := g) (W := W) (u := u) (m := m) (mb := mb) (K := K) q.cn) [] [0] [] (fun y => ?_); obtain ⟨K2, hK2⟩ := y; refine en E0 [.c] ?_; refine en_row0 51 40 ?_; refine en_new0 (many []) ?_ (fun _ => ⟨fun c hc => (by cases hc), List.Pairwise.nil⟩) (fun j ⟨c, hc, _⟩ => (by cases hc)); refine en_pack [1, 0] (mlK (.slice none 0 0) []) _ ?_; have eq1 : z = (modG (fun c => { c with hung := true }) (absK K) q.cn, [], []) := by rw [← hz]; unfold actS; rw [if_neg hd, if_neg hd1, if_pos hd2]
    subst eq1; refine en_word 2 (lgC lg vl T ops) (lgC lg vl T (ops + ((([] : List Nt).length : Nat) : Int))) (by rw [show ops + ((([] : List Nt).length : Nat) : Int) = ops by simp]) ?_; exact en_rets ⟨(Value.slice none 0 0, K2, [], vl, T), hK2, rfl, by simp⟩ [] [2, 1, 0, 0] []
  by_cases hd3 : q.d = 3
  · refine en1 (EF [(.bool ((((q.d : Int)) : Int) == 0), .bool false), (.bool ((((q.d : Int)) : Int) == 1), .bool false), (.bool ((((q.d : Int)) : Int) == 2), .bool false), (.bool ((((q.d : Int)) : Int) == 3), .bool true)] ⟨eqI' (by omega), eqI' (by omega), eqI' (by omega), eqI (by omega), trivial⟩) (.x :: .c :: .c :: .b 0 0 :: .f 0 :: .c :: .f 1 :: .c :: .f 2 :: .c :: .f 3 :: eC 3 [.b 0 1, .c, .b 0 2, .c]) fun Y => ?_
    refine en_spec (gate_Read (g := g) (W := W) (u := u) (m := m) (mb := mb) (K := K) (lg := lg) (vl := vl) (T := T) (ops := ops) q.cn q.now (by omega) h0 h1 hT hC) [] [0, 0] [] (fun y => ?_); obtain ⟨⟨vm, K2, M, vl', T'⟩, hK2, hM, hT'⟩ := y; simp only at hK2 hM hT'
    refine en E0 (eC 7 []) ?_; have eq1 : z = (modG (fun c => (readC m W c q.now ops).1) (absK K) q.cn, (readX m W (absK K) q.cn q.now ops).1, (readX m W (absK K) q.cn q.now ops).2.1) := by rw [← hz]; unfold actS; rw [if_neg hd, if_neg hd1, if_neg hd2, if_pos hd3]
    subst eq1; exact en_rets ⟨(vm, K2, M, vl', T'), hK2, hM, hT'⟩ [] [0, 0, 0, 0] []
  by_cases hd4 : q.d = 4
  · obtain ⟨i0, hi, hz0, hz1, hz2⟩ := info_parts gt_infoIm
    refine en1 (EF [(.bool ((((q.d : Int)) : Int) == 0), .bool false), (.bool ((((q.d : Int)) : Int) == 1), .bool false), (.bool ((((q.d : Int)) : Int) == 2), .bool false), (.bool ((((q.d : Int)) : Int) == 3), .bool false), (.bool ((((q.d : Int)) : Int) == 4), .bool true)] ⟨eqI' (by omega), eqI' (by omega), eqI' (by omega), eqI' (by omega), eqI (by omega), trivial⟩) (.x :: .c :: .c :: .b 0 0 :: .f 0 :: .c :: .f 1 :: .c :: .f 2 :: .c :: .f 3 :: .c :: .f 4 :: eC 3 [.b 0 4]) fun Y => ?_
    refine en_ops (ops_one 23 38 23 (.agg (itR q.it).toArray) (itR q.it).toArray rfl i0 _ hz1.symm Tryz.underlying23 hi hz0 (by rw [hz1]; decide) (by rw [hz1]; decide) (by rw [hz1]; kernel_rfl) (by rw [hz1]; rfl)) [] [] [] (fun d => ?_); refine en_pack [0, 2] (many [rowO 38 38 (.slice (some ⟨d, 0, none⟩) 1 1) 1 (itR q.it).toArray.toList, X]) _ ?_; refine en_spec (gate_Hear (g := g) (W := W) (u := u) (m := m) (mb := mb) (K := K) (cap := 1) (al := some ⟨d, 0, none⟩) (xs := [q.it]) (X := many [rowO 38 38 (.slice (some ⟨d, 0, none⟩) 1 1) 1 (itR q.it).toArray.toList, X]) (one_item hX) (fun i hi => by rw [List.mem_singleton] at hi; subst hi; exact hok) (show 1 ≤ 10000 by decide) hb) [] [1, 0] [] (fun y => ?_); obtain ⟨⟨vm, K2⟩, hK2⟩ := y; simp only at hK2
    refine en_unpack 2 (many [rowO 38 38 (.slice (some ⟨d, 0, none⟩) 1 1) 1 (itR q.it).toArray.toList, X]) _ ?_; refine en E0 [.c] ?_; have eq1 : z = (hearG (absK K) [q.it], hearM W (absK K) [q.it], []) := by rw [← hz]; unfold actS; rw [if_neg hd, if_neg hd1, if_neg hd2, if_neg hd3, if_pos hd4]
    subst eq1; refine en_word 4 (lgC lg vl T ops) (lgC lg vl T (ops + ((([] : List Nt).length : Nat) : Int))) (by rw [show ops + ((([] : List Nt).length : Nat) : Int) = ops by simp]) ?_; exact en_rets ⟨(vm, K2, mls (hearM W (absK K) [q.it]), vl, T), hK2, mls_fst _, by simp⟩ [] [3, 3, 0, 1] []
  refine en1 (EF [(.bool ((((q.d : Int)) : Int) == 0), .bool false), (.bool ((((q.d : Int)) : Int) == 1), .bool false), (.bool ((((q.d : Int)) : Int) == 2), .bool false), (.bool ((((q.d : Int)) : Int) == 3), .bool false), (.bool ((((q.d : Int)) : Int) == 4), .bool false)] ⟨eqI' (by omega), eqI' (by omega), eqI' (by omega), eqI' (by omega), eqI' (by omega), trivial⟩) [.x, .c, .c, .b 0 0, .f 0, .c, .f 1, .c, .f 2, .c, .f 3, .c, .f 4, .c, .c] fun Y => ?_
  refine en_row0 51 40 ?_; refine en_new0 (many []) ?_ (fun _ => ⟨fun c hc => (by cases hc), List.Pairwise.nil⟩) (fun j ⟨c, hc, _⟩ => (by cases hc)); refine en_pack [1, 0] (mlK (.slice none 0 0) []) _ ?_; have eq1 : z = (absK K, [], []) := by rw [← hz]; unfold actS; rw [if_neg hd, if_neg hd1, if_neg hd2, if_neg hd3, if_neg hd4]
  subst eq1; refine en_word 2 (lgC lg vl T ops) (lgC lg vl T (ops + ((([] : List Nt).length : Nat) : Int))) (by rw [show ops + ((([] : List Nt).length : Nat) : Int) = ops by simp]) ?_; exact en_rets ⟨(Value.slice none 0 0, K, [], vl, T), rfl, rfl, by simp⟩ [] [2, 1, 0, 0] []
end Go.Proofs.YtnnpokndajpkiaaGreatDoor
