import Derived.Test.YtnnpokndajpkiaaGreatDoorJoinZA
import Derived.Test.YtnnpokndajpkiaaGreatDoorJoinM
namespace Go.Proofs.YtnnpokndajpkiaaGreatDoor
open Go.RowKit
attribute [local irreducible] Ok
abbrev PkG := Pk × Option Addr × Nat
abbrev NtG := Nt × Option Addr × Nat
def ntCG (x : NtG) : List Value := (ntV x.1 x.2.1 x.2.2).toList
def ntCsG (T : List NtG) : List Value := T.flatMap ntCG
theorem ntCG_one (x : NtG) : ∀ u ∈ ntCG x, u.oneCell' = true := by
  intro u hu; have h : (ntCG x).all (·.oneCell') = true := rfl; exact List.all_eq_true.1 h u hu
def sbC (x : PkG) : Chk := rowO 112 2 (.slice x.2.1 x.1.subs.length x.2.2) x.1.subs.length (subCells x.1.subs)
def lgV (v : Value) (ops : Int) : List Value := [v, .int .i64 ops]
def lgC (g : Nat) (v : Value) (T : List NtG) (ops : Int) : Chk := many [boxC ⟨g, lgV v ops, 87⟩, rowO 85 35 v T.length (ntCsG T), many (T.map fun x => sbC (x.1.p, x.2))]
theorem addInt {x : Int} (h : 0 ≤ x) (h2 : x ≤ 1000000000000) : Value.int .i64 (IntKind.i64.wrap (x + 1)) = .int .i64 (x + 1) := by
  congr 1; rw [IntKind.wrap_i64]; omega
theorem subInt {k : Nat} (h : k ≤ 1000000000000) : Value.int .i64 (IntKind.i64.wrap (((k + 1 : Nat) : Int) - 1)) = .int .i64 (k : Int) := by
  congr 1; rw [IntKind.wrap_i64]; omega
set_option maxRecDepth 100000 in
set_option maxHeartbeats 4000000 in
theorem record_New {wb : World}  : Spec Tryz.prog wb 12 #[] [] [] (fun g : Nat => .pointer (some ⟨g, 0, none⟩)) (fun _ => []) (fun g => [lgC g (.slice none 0 0) [] 0]) := by
  intro w H; refine en_call Tryz.func12 H ?_; refine en1 E0 [.c, .c, .x, .c] fun X1 => ?_
  refine en_row0 85 35 ?_; refine en_new0 (many []) ?_ (fun _ => ⟨fun c hc => (by cases hc), List.Pairwise.nil⟩) (fun j ⟨c, hc, _⟩ => (by cases hc)); refine en_shut 0 ⟨X1, lgV (.slice none 0 0) 0, 87⟩ ?_; refine en_pack [0, 1, 0] (lgC X1 (.slice none 0 0) [] 0) _ ?_; exact en_rets X1 [] [0] []
set_option maxRecDepth 100000 in
set_option maxHeartbeats 4000000 in
theorem record_Op {wb : World} {g : Nat} {v : Value} {T : List NtG} {ops : Int} (h0 : 0 ≤ ops) (h1 : ops ≤ 1000000000) : Spec Tryz.prog wb 82 #[.pointer (some ⟨g, 0, none⟩)] [] [lgC g v T ops] (fun _ : Unit => .int .i64 (ops + 1)) (fun _ => []) (fun _ => [lgC g v T (ops + 1)]) := by
  intro w H; refine en_call Tryz.func82 H ?_; refine en_unpack 0 (lgC g v T ops) _ ?_; refine en_open 0 ⟨g, lgV v ops, 87⟩ ?_; refine en (EF [(.int .i64 (IntKind.i64.wrap (ops + 1)), .int .i64 (ops + 1))] ⟨addInt h0 (by omega), trivial⟩) (eC 6 (.b 0 1 :: .f 0 :: .c :: .c :: .s 0 1 :: eC 3 [.b 0 1, .c])) ?_; refine en_shut 0 ⟨g, lgV v (ops + 1), 87⟩ ?_; refine en_pack [0, 0, 0] (lgC g v T (ops + 1)) _ ?_; exact en_rets () [] [0] []
set_option maxRecDepth 100000 in
set_option maxHeartbeats 4000000 in
theorem record_Len {wb : World} {g : Nat} {v : Value} {T : List NtG} {ops : Int} : Spec Tryz.prog wb 19 #[.pointer (some ⟨g, 0, none⟩)] [] [lgC g v T ops] (fun _ : Unit => .int .i64 (T.length : Int)) (fun _ => []) (fun _ => [lgC g v T ops]) := by
  intro w H; refine en_call Tryz.func19 H ?_; refine en_unpack 0 (lgC g v T ops) _ ?_; refine en_open 0 ⟨g, lgV v ops, 87⟩ ?_; refine en_fact (p := ∃ a c, v = .slice a T.length c) (fun w h => by obtain ⟨a, c, h1, _⟩ := own_form (is_at h 0 (c := rowO 85 35 v T.length (ntCsG T)) rfl); exact ⟨a, c, h1⟩) ?_; rintro ⟨a, c, rfl⟩; refine en E0 (eC 6 [.b 0 0, .c, .c]) ?_; refine en_shut 0 ⟨g, lgV (.slice a T.length c) ops, 87⟩ ?_; refine en_pack [0, 0, 0] (lgC g (.slice a T.length c) T ops) _ ?_; exact en_rets () [] [0] []
set_option maxRecDepth 100000 in
set_option maxHeartbeats 4000000 in
theorem clone_Subs {wb : World} (p : Pk) (a : Option Addr) (c : Nat) (hp : p.subs.length ≤ 100000000) : Spec Tryz.prog wb 76 #[.slice a p.subs.length c] [] [sbC (p, a, c)] (fun y : Option Addr × Nat => .slice y.1 p.subs.length y.2) (fun _ => []) (fun y => [sbC (p, y), sbC (p, a, c)]) := by
  intro w H; refine en_call Tryz.func76 H ?_; cases a with
  | none =>
    refine en_fact (p := c = 0 ∧ p.subs = []) (fun w h => by
      have h1 := is_at h 0 (c := sbC (p, none, c)) rfl; rcases h1.2 with ⟨h, h2⟩ | ⟨g, cap, cur, h, _⟩
      · injection h with _ _ h; exact ⟨h, List.eq_nil_of_length_eq_zero h2⟩
      · injection h with h; cases h) ?_
    rintro ⟨rfl, hs⟩; have hl : p.subs.length = 0 := by rw [hs]; rfl
    refine en (EF [(.bool true, .bool true)] ⟨rfl, trivial⟩) [.c, .c, .f 0, .c] ?_; refine en_new0 (sbC (p, none, 0)) ?_ (fun w => by unfold sbC; rw [hs]; exact World.ownsRow_nil w 0 _ _) (fun j h => by cases h); have e : Value.slice none 0 0 = .slice none p.subs.length 0 := by rw [hl]
    exact en_rets (none, 0) [] [0, 0] [] (h := by rw [← e]; kernel_rfl)
  | some ad =>
    obtain ⟨i0, hi, hz0, hz1, hz2⟩ := info_parts infoSub; refine en E0 (eC 3 []) ?_; refine en_ops (ops_emp 31 112 31 i0 Tryz.underlying31 hi 2) [] [] [] (fun b => ?_); refine en E0 [.c] ?_; refine en_ops (ops_app 31 31 112 i0 _ Tryz.underlying31 hi hz0 (hz1 ▸ rfl) (by rw [hz1]; decide) (hz1.symm) (v := .slice (some ⟨b, 0, none⟩) 0 0) (x := .slice (some ad) p.subs.length c) (n := 0) (m := p.subs.length) (xs := []) (news := subCells p.subs) (subCells_one p.subs) (by unfold maxLen; omega) (by rw [hz2]; omega)) [] [0, 0] [] (fun v' => ?_); refine en E0 [.c] ?_; rw [List.nil_append, Nat.zero_add]; refine en_fact (p := ∃ a' c', v' = .slice a' p.subs.length c') (fun w h => by obtain ⟨a, c, h1, _⟩ := own_form (is_at h 0 (c := rowO 112 2 v' p.subs.length (subCells p.subs)) rfl); exact ⟨a, c, h1⟩) ?_; rintro ⟨a', c', rfl⟩; exact en_rets (a', c') [] [0, 0] []
theorem gt_infoNt : (Tryz.prog.info? 85).map (fun i => (i.zero, i.size, i.bytes)) = some (some (.agg (ntV Nt.zero none 0)), 35, 304) := by kernel_rfl
set_option maxRecDepth 100000 in
set_option maxHeartbeats 4000000 in
theorem record_own {wb : World} (n : Nt) (a : Option Addr) (c : Nat) (hp : n.p.subs.length ≤ 100000000) : Spec Tryz.prog wb 54 #[.agg (ntV n a c)] [] [sbC (n.p, a, c)] (fun y : Option Addr × Nat => .agg (ntV n y.1 y.2)) (fun _ => []) (fun y => [sbC (n.p, y), sbC (n.p, a, c)]) := by
  intro w H; refine en_call Tryz.func54 H ?_; refine en2 E0 [.x, .n, .c, .c, .b 0 26] fun X Y => ?_
  refine en_spec (clone_Subs n.p a c hp) [] [0] [] (fun y => ?_); obtain ⟨a', c'⟩ := y; refine en E0 [.c, .c, .s 0 26, .b 0 0, .s 1 0] ?_; exact en_rets (a', c') [] [0, 0] [1]
set_option maxRecDepth 100000 in
set_option maxHeartbeats 4000000 in
theorem record_Add {wb : World} {g : Nat} {v : Value} {T : List NtG} {ops : Int} (n : Nt) (a : Option Addr) (c : Nat) (hp : n.p.subs.length ≤ 100000000) (hT : T.length ≤ 100000) : Spec Tryz.prog wb 83 #[.pointer (some ⟨g, 0, none⟩), .agg (ntV n a c)] [] [lgC g v T ops, sbC (n.p, a, c)] (fun _ : Value × Option Addr × Nat => .int .i64 (T.length : Int)) (fun _ => []) (fun y => [lgC g y.1 (T ++ [(n, y.2)]) ops, sbC (n.p, a, c)]) := by
  intro w H; refine en_call Tryz.func83 H ?_; obtain ⟨i0, hi, hz0, hz1, hz2⟩ := info_parts gt_infoNt; refine en_unpack 0 (lgC g v T ops) _ ?_; refine en_open 0 ⟨g, lgV v ops, 87⟩ ?_; refine en1 E0 (.x :: eC 3 [.g [(0, 0, 1), (1, 0, 35)] 11 false, .d (eN 0 (eC 4 [.l 0 0, .l 1 0]))]) fun X => ?_
  refine en_spec (record_own n a c hp) [] [2] [(0, 0, 1), (1, 0, 35)] (fun y => ?_); obtain ⟨a', c'⟩ := y; refine en_ops (ops_one 61 85 61 (.agg (ntV n a' c')) (ntV n a' c') rfl i0 _ hz1.symm Tryz.underlying61 hi hz0 (by rw [hz1]; decide) (by rw [hz1]; decide) (by rw [hz1]; kernel_rfl) (by rw [hz1]; rfl)) [] [] [(0, 0, 1), (1, 0, 35)] (fun b => ?_); refine en_ops (ops_app 61 61 85 i0 _ Tryz.underlying61 hi hz0 (hz1 ▸ rfl) (by rw [hz1]; decide) (hz1.symm) (v := v) (x := .slice (some ⟨b, 0, none⟩) 1 1) (n := T.length) (m := 1) (xs := ntCsG T) (news := ntCG (n, a', c')) (ntCG_one _) (by unfold maxLen; omega) (by rw [hz2]; omega)) [] [3, 0] [(0, 0, 1), (1, 0, 35)] (fun v' => ?_); obtain ⟨T', hT'⟩ : ∃ T', T' = T ++ [(n, a', c')] := ⟨_, rfl⟩
  have e1 : ntCsG T ++ ntCG (n, a', c') = ntCsG T' := by rw [hT']; unfold ntCsG; simp
  have e2 : T.length + 1 = T'.length := by rw [hT']; simp
  rw [e1, e2]; refine en_fact (p := ∃ a2 c2, v' = .slice a2 T'.length c2) (fun w h => by obtain ⟨a, c, h1, _⟩ := own_form (is_at h 0 (c := rowO 85 35 v' T'.length (ntCsG T')) rfl); exact ⟨a, c, h1⟩) ?_; rintro ⟨a2, c2, rfl⟩; refine en (EF [(.int .i64 (IntKind.i64.wrap ((T'.length : Int) - 1)), .int .i64 (T.length : Int))] ⟨by rw [← e2]; exact subInt (by omega), trivial⟩) (.d (eN 9 [.c, .c]) :: .s 0 0 :: eC 3 [.b 0 0, .c, .f 0, .c]) ?_; refine en_shut 0 ⟨g, lgV (.slice a2 T'.length c2) ops, 87⟩ ?_; refine en_in [3, 4] (many (T'.map fun x => sbC (x.1.p, x.2))) (sbC (n.p, a', c')) (T'.map fun x => sbC (x.1.p, x.2)) (T.map fun x => sbC (x.1.p, x.2)) (by rw [hT', List.map_append]; exact (List.perm_append_singleton _ _).symm) ?_; refine en_pack [1, 1, 0] (lgC g (.slice a2 T'.length c2) T' ops) _ ?_; subst hT'; exact en_rets (.slice a2 (T ++ [(n, a', c')]).length c2, a', c') [] [0, 1] []
end Go.Proofs.YtnnpokndajpkiaaGreatDoor
