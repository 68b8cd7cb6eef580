import Derived.Test.YtnnpokndajpkiaaGreatDoorGtRd
namespace Go.Proofs.YtnnpokndajpkiaaGreatDoor
open Go.RowKit
attribute [local irreducible] Ok
def hiB : ByteArray := ⟨#[16, 13, 0, 4, 77, 81, 84, 84, 4, 2, 0, 10, 0, 1, 120]⟩
def hiC : Cn := { newC 1 with L := bl hiB }
def hiP : Pk := { Pk.zero with ty := 1, level := 4, clean := true, keep := 10, client := ⟨#[120]⟩ }
def hiD : Cn := { hiC with L := [], cl := ⟨#[120]⟩, keep := 10, last := 5, st := 2 }
theorem hi_read : readX 1000 1 [hiC] 1 5 0 = ([askM 1 1 1 hiD hiP], [askN 1 1 ⟨#[120]⟩ hiP], true) := by kernel_rfl
theorem hi_mod : modG (fun c => (readC 1000 1 c 5 0).1) [hiC] 1 = [hiD] := by kernel_rfl
theorem hi_ok : CnOk 1000 hiC := ⟨by decide, by decide, by decide, by decide, by decide, by decide, by decide, by
  have h : (nxT 1000 hiC.L hiC.e).1 = hiP := by kernel_rfl
  rw [h]; exact ⟨show 1 < 256 by decide, pz_ok.qos, pz_ok.id, show 4 < 256 by decide, show 10 < 65536 by decide, pz_ok.wqos, pz_ok.code, pz_ok.topic, pz_ok.payload, show (⟨#[120]⟩ : ByteArray).size ≤ 300000000 by decide, pz_ok.wtopic, pz_ok.wpayload, pz_ok.user, pz_ok.pass, pz_ok.codes, pz_ok.few, pz_ok.each⟩, by
  have h : (nxT 1000 hiC.L hiC.e).1 = hiP := by kernel_rfl
  rw [h]; decide⟩
theorem mls_form {w : World} {v : Value} {M : List MlG} (h : (rowO 51 40 v M.length (mlCs M)).is w) (h1 : M.length = 1) : ∃ g c, v = .slice (some ⟨g, 0, none⟩) M.length c := by
  rcases h.2 with ⟨_, h3⟩ | ⟨g, cap, cur, h2, _⟩
  · rw [h1] at h3; cases h3
  · exact ⟨g, cap, h2⟩
theorem own_row1 {w : World} {d e size cp : Nat} {xs : List Value} (h : (rowO e size (.slice (some ⟨d, 0, none⟩) 1 cp) 1 (xs ++ [])).is w) : w.rangeAt d 0 xs := fun j v hv => by
  obtain ⟨b, o, e1, hc⟩ := own_cells (show w.ownsRow 0 e size _ 1 (xs ++ []) from h) j v (by rw [List.append_nil]; exact hv); injection e1 with e1
  injection e1 with e1 e2
  subst e1 e2; exact hc
theorem map_one {α β : Type} {f : α → β} {l : List α} {y : β} (h : l.map f = [y]) : ∃ x, l = [x] ∧ f x = y := by
  cases l with
  | nil => cases h
  | cons x r =>
    cases r with
    | nil => injection h with h _; exact ⟨x, rfl, h⟩
    | cons _ _ => injection h with _ h; cases h
set_option maxRecDepth 100000 in
set_option maxHeartbeats 4000000 in
theorem law20_begun {wb : World}  : Spec Tryz.prog wb 26 #[] [] [] (fun y : {y : Nat × Nat × Nat × List CnG // absK y.2.2.2 = [hiC]} => .tuple #[.pointer (some ⟨y.1.1, 0, none⟩), .pointer (some ⟨y.1.2.2.1, 0, none⟩)]) (fun _ => []) (fun y => [gtC y.1.1 1 0 1000 y.1.2.1 y.1.2.2.2, lgC y.1.2.2.1 (.slice none 0 0) [] 0]) := by
  intro w H; refine en_call Tryz.func26 H ?_; refine en E0 [.c, .c] ?_; refine en_spec (gate_New 1 0 1000 (by decide) (by decide) (by decide) (by decide) (by decide)) [] [] [] (fun y => ?_); obtain ⟨g, mb⟩ := y; refine en E0 (eC 4 []) ?_; refine en_spec (gate_OpenY (g := g) (W := 1) (u := 0) (m := 1000) (mb := mb) (K := []) 1 (by decide) (by decide) (by decide) (by decide)) [] [0] [] (fun y => ?_); obtain ⟨K1, hK1⟩ := y; replace hK1 : absK K1 = [newC 1] := hK1; refine en E0 [.c] ?_; refine en_spec (gate_Feed (g := g) (W := 1) (u := 0) (m := 1000) (mb := mb) (K := K1) 1 hiB (by decide) (fun c hc => by rw [hK1] at hc; have e : c = newC 1 := (Option.some.inj hc).symm; rw [e]; decide)) [] [0] [] (fun y => ?_); obtain ⟨K2, hK2⟩ := y; rw [hK1] at hK2; replace hK2 : absK K2 = [hiC] := hK2; refine en E0 [.c] ?_; refine en_spec (record_New) [] [] [] (fun lg => ?_); refine en E0 [.c, .c] ?_; exact en_rets ⟨(g, mb, lg, K2), hK2⟩ [] [1, 0] []
set_option maxRecDepth 100000 in
set_option maxHeartbeats 4000000 in
theorem law20_awake {wb : World}  : Spec Tryz.prog wb 10 #[] [] [] (fun _ : Unit => .bool true) (fun _ => []) (fun _ => []) := by
  intro w H; refine en_call Tryz.func10 H ?_; refine en E0 [.c] ?_; refine en_spec (law20_begun) [] [] [] (fun y => ?_); obtain ⟨⟨g, mb, lg, K⟩, hK⟩ := y; simp only at hK
  refine en E0 (eC 9 []) ?_; have HR := gate_Read (wb := wb) (g := g) (W := 1) (u := 0) (m := 1000) (mb := mb) (lg := lg) (K := K) (vl := .slice none 0 0) (T := []) (ops := 0) 1 5 (by decide) (by decide) (by decide) (by decide) (fun c hc => by rw [hK] at hc; have e : c = hiC := (Option.some.inj hc).symm; rw [e]; exact hi_ok); rw [hK, hi_read, hi_mod] at HR; refine en_spec (HR) [] [0, 0] [] (fun y => ?_); obtain ⟨⟨vm, K2, M, vl, T2⟩, hK2, hM, hT2⟩ := y; simp only at hK2 hM hT2
  obtain ⟨q, rfl, hq⟩ := map_one hM; obtain ⟨q, a, c⟩ := q; simp only at hq
  subst hq; refine en_unpack 1 (mlK vm [(askM 1 1 1 hiD hiP, a, c)]) _ ?_; refine en_fact (p := ∃ d cp, vm = .slice (some ⟨d, 0, none⟩) 1 cp) (fun w h => mls_form (M := [(askM 1 1 1 hiD hiP, a, c)]) (is_at h 0 (c := rowO 51 40 vm 1 (mlCs [(askM 1 1 1 hiD hiP, a, c)])) rfl) rfl) ?_; rintro ⟨d, cp, rfl⟩; refine en ⟨⟨[⟨d, 0, mlC (askM 1 1 1 hiD hiP, a, c)⟩], []⟩, [(.bool ((⟨#[120]⟩ : ByteArray).toList == (⟨#[120]⟩ : ByteArray).toList), .bool true)], [⟨some ⟨d, 0, none⟩, 1, cp, .i64, 0, 40, ⟨d, 0, none⟩⟩, ⟨some ⟨d, 0, none⟩, 1, cp, .i64, 0, 40, ⟨d, 0, none⟩⟩, ⟨some ⟨d, 0, none⟩, 1, cp, .i64, 0, 40, ⟨d, 0, none⟩⟩], [], fun _ _ h => ⟨⟨own_row1 (is_at h.hp.is 0 (c := rowO 51 40 (.slice (some ⟨d, 0, none⟩) 1 cp) 1 (mlCs [(askM 1 1 1 hiD hiP, a, c)])) rfl), trivial⟩, trivial⟩, ⟨eqS (rfl), trivial⟩, ⟨⟨d, 0, 0, rfl, rfl, Nat.zero_lt_one, rfl⟩, ⟨d, 0, 0, rfl, rfl, Nat.zero_lt_one, rfl⟩, ⟨d, 0, 0, rfl, rfl, Nat.zero_lt_one, rfl⟩, trivial⟩, trivial⟩ (eC 13 (.i 0 :: .c :: .l 0 1 :: eC 4 (.i 1 :: .c :: .c :: .l 0 2 :: eC 4 (.i 2 :: .c :: .c :: .l 0 5 :: .f 0 :: eC 3 [])))) ?_; refine en_spec0 (gate_State (g := g) (W := 1) (u := 0) (m := 1000) (mb := mb) (K := K2) 1) [] [2] [] ?_; have hst : (stG (absK K2) 1 : Int) = 2 := by rw [hK2]; rfl
  refine en (EF [(.bool ((((stG (absK K2) 1 : Int)) : Int) == 2), .bool true)] ⟨eqI (hst), trivial⟩) (.f 0 :: eC 3 []) ?_; refine en_spec0 (record_Len (g := lg) (v := vl) (T := T2) (ops := 0 + (([askN 1 1 ⟨#[120]⟩ hiP] : List Nt).length : Int))) [] [3] [] ?_; have hlen : (T2.length : Int) = 1 := by have h := congrArg List.length hT2; rw [List.length_map] at h; rw [h]; rfl
  refine en (EF [(.bool ((((T2.length : Int)) : Int) == 1), .bool true)] ⟨eqI (hlen), trivial⟩) [.f 0, .c, .c] ?_; exact en_rets () [] [] []
end Go.Proofs.YtnnpokndajpkiaaGreatDoor
