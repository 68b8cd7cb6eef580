/- The walk of ReadRow. Conditions: the decoder's tables lie as Go lays them; the packets and their lists in their cells. -/
import Derived.Test.YtcghokbcjbbbhaaDoorLawRBack
import Derived.Test.YtcghokbcjbbbhaaDoorFrame3
import Derived.Test.YtcghokbcjbbbhaaDoorReadLists
import Derived.Test.YtcghokbcjbbbhaaDoorWriteAll
import Derived.Test.YtcghokbcjbbbhaaDoorCardPks
namespace Go.Proofs.YtcghokbcjbbbhaaDoor
open Go.RowKit
/-- A packet's bytes, its length's bytes longer, or not. -/
def lbB (lg : Bool) (p : Pk) : Bs := if lg = true ∧ restP p < 128 then byteN (16 * p.ty + flagsN p) :: ([byteN ((restP p).toNat + 128), 0] ++ restB p) else encB p
theorem lb_dec (lg : Bool) (p : Pk) (hp : PkOk p) (h0 : 0 ≤ restP p) (t : Bs) : decR (lbB lg p ++ t) = (p, (lbB lg p).length, 0) := by
  unfold lbB
  by_cases h : lg = true ∧ restP p < 128
  · rw [if_pos h]
    have hrl := restB_len p hp h0
    have := dec_long p hp h0 (restP p).toNat (by omega) (by omega) t
    rw [List.cons_append, List.append_assoc, this]
    simp
    omega
  · rw [if_neg h]
    exact dec_enc p hp h0 t
theorem lb_len (lg : Bool) (p : Pk) (hs : Small p) (hp : PkOk p) (h0 : 0 ≤ restP p) : 2 ≤ (lbB lg p).length ∧ (lbB lg p).length ≤ 10430 := by
  unfold lbB
  split
  · have := rest_small hs
    simp
    omega
  · have h1 := enc_long h0 hp
    have h2 := enc_small hs
    omega
theorem bl_strN2 (l j : Nat) : bl (strN [l, j]) = [byteN l, byteN j] := rfl
/-- What is asked of a packet that is written. -/
def GoodR (x : PkE) : Prop := Small x.1 ∧ PkOk x.1 ∧ 0 ≤ restP x.1
def rowB (lg : Bool) (T : List PkE) : Bs := T.flatMap fun x => lbB lg x.1
theorem rowB_snoc (lg : Bool) (A : List PkE) (k : Nat) (x : PkE) (h : A[k]? = some x) : rowB lg (A.take (k + 1)) = rowB lg (A.take k) ++ lbB lg x.1 := by
  have : A.take (k + 1) = A.take k ++ [x] := by rw [List.take_add_one, h]; rfl
  unfold rowB
  rw [this, List.flatMap_append]
  simp
theorem rowB_drop (lg : Bool) (A : List PkE) (k : Nat) (x : PkE) (h : A[k]? = some x) : rowB lg (A.drop k) = lbB lg x.1 ++ rowB lg (A.drop (k + 1)) := by
  obtain ⟨hk, e⟩ := List.getElem?_eq_some_iff.1 h
  unfold rowB
  rw [List.drop_eq_getElem_cons hk, e, List.flatMap_cons]
theorem take_good {A : List PkE} {k : Nat} {x : PkE} (h : A[k]? = some x) (h1 : ∀ y ∈ A.take k, GoodR y) (h2 : GoodR x) : ∀ y ∈ A.take (k + 1), GoodR y := by
  have : A.take (k + 1) = A.take k ++ [x] := by rw [List.take_add_one, h]; rfl
  rw [this]
  intro y hy
  rcases List.mem_append.1 hy with hy | hy
  · exact h1 y hy
  · simp at hy; subst hy; exact h2
def muI (n : Nat) (s : Nat) (a : Act) : Nat := match a.tmps[s]? with | some (.int .i64 i) => n - i.toNat | _ => 0
theorem muI_at {n L : Nat} {K : List (Nat × Value)} {a : Act} (F : FrL L K a) (s k : Nat) (h : K.lookup s = some (.int .i64 (k : Int))) : muI n s a = n - k := by
  unfold muI
  rw [F.at' s _ h]
  simp
set_option maxRecDepth 100000 in
set_option maxHeartbeats 4000000 in
theorem rrow_many (a : Option Addr) (ca : Nat) (A : List PkE) (lg : Bool) (w : World) (hE : Env w) (_ha : CellsA w a (pkCells A)) (_hA : ∀ x ∈ A, PkArg w x.1 x.2.1 x.2.2) (h : 20 < A.length) : Calls Tryd.prog 8 #[.slice a A.length ca, .bool lg] w fun e w' => e = .returned (.bool true) ∧ Below w.heap.size w w' := by
  obtain ⟨RR, hRR⟩ : ∃ RR : Ending → World → Prop, RR = fun e w' => e = .returned (.bool true) ∧ Below w.heap.size w w' := ⟨_, rfl⟩
  have FIN := Lib.hid (show ∀ w', Below w.heap.size w w' → RR (.returned (.bool true)) w' from fun w' hb => by rw [hRR]; exact ⟨rfl, hb⟩)
  rw [← hRR]
  obtain ⟨w9, hw9⟩ : ∃ w9, w9 = w := ⟨_, rfl⟩
  have HK : Keep w [] [] w9 := by rw [hw9]; exact Keep.begin hE _ (by intro r hr; cases hr)
  suffices hgo : Calls Tryd.prog 8 #[.slice a A.length ca, .bool lg] w9 RR by rw [hw9] at hgo; exact hgo
  clear hw9 hRR hE _ha _hA
  go_enter Tryd.func8, Tryd.ntmps8
  refine wp_forget (n := 107) (L := [(1, .bool lg), (0, .slice a A.length ca)]) (FrL.add (FrL.add (FrL.nil ?_ ?_) _ _ ?_) _ _ ?_) ?_
  iterate 4 rfl
  intro a9 F
  refine wp_seq ?_
  refine wp_region_lit ?_
  refine fr_do F (wanted_free rfl) 4 rfl (by decide) (.bool false) (by intro a' F'; go_simp) ?_
  clear F a9
  intro a9 F
  refine wpList_nil ?_
  show Code.wp _ _ _ _ _
  replace F : FrL 107 [(1, .bool lg), (0, .slice a A.length ca)] a9 := (((FrL.nil F.size F.defers).add 0 _ (F.at' 0 _ rfl)).add 1 _ (F.at' 1 _ rfl))
  refine wp_seq ?_
  refine wp_seq ?_
  refine wp_region_lit ?_
  refine fr_do F (wanted_free rfl) 13 rfl (by decide) (.slice a A.length ca) (by intro a' F'; have h0 := F'.at' 0 _ rfl; go_simp) ?_
  clear F a9
  intro a9 F
  refine fr_do F (wanted_free rfl) 14 rfl (by decide) (.int .i64 (A.length : Int)) (by intro a' F'; have h13 := F'.at' 13 _ rfl; go_simp) ?_
  clear F a9
  intro a9 F
  refine fr_do F (wanted_free rfl) 15 rfl (by decide) (.bool true) (by intro a' F'; have h14 := F'.at' 14 _ rfl; go_simp <;> first | rfl | omega | (rw [IntKind.wrap_i64]; omega) | (rw [IntKind.wrap_u8]; omega) | (intro hcon; exfalso; omega) | (rw [Bool.eq_iff_iff]; simp; omega) | (rw [decide_eq_decide]; omega) | (congr 1; omega) | (congr 2; omega) | (rw [if_pos (by omega)]; congr 4 <;> omega) | (rw [if_pos (by omega), if_pos (by omega)]; congr 4 <;> omega)) ?_
  clear F a9
  intro a9 F
  refine wpList_nil ?_
  show Code.wp _ _ _ _ _
  refine wp_cond_true (F.ev 15 rfl) ?_
  refine wp_seq ?_
  refine wp_region_lit ?_
  refine fr_call F (wanted_free rfl) 16 rfl (by decide) 28 #[] (by intro a' F'; go_simp) (law05_awake _ HK.env) ?_
  rintro e9 w8 ⟨rfl, hb8⟩
  replace HK := HK.below hb8
  clear hb8
  clear w9
  rename World => w9
  refine ⟨_, rfl, ?_⟩
  clear F a9
  intro a9 F
  refine fr_do F (wanted_free rfl) 4 rfl (by decide) (.bool true) (by intro a' F'; have h16 := F'.at' 16 _ rfl; go_simp) ?_
  clear F a9
  intro a9 F
  refine wpList_nil ?_
  show Code.wp _ _ _ _ _
  refine wp_ret ?_
  exact fr_ret1 F rfl _ rfl (FIN.out _ HK.low)
set_option maxRecDepth 100000 in
set_option maxHeartbeats 4000000 in
theorem rrow_few (a : Option Addr) (ca : Nat) (A : List PkE) (lg : Bool) (w : World) (hE : Env w) (ha : CellsA w a (pkCells A)) (hA : ∀ x ∈ A, PkArg w x.1 x.2.1 x.2.2) (h20 : A.length ≤ 20) : Calls Tryd.prog 8 #[.slice a A.length ca, .bool lg] w fun e w' => e = .returned (.bool true) ∧ Below w.heap.size w w' := by
  have HA := Lib.hid hA
  have HRA := Lib.hid ha
  obtain ⟨RR, hRR⟩ : ∃ RR : Ending → World → Prop, RR = fun e w' => e = .returned (.bool true) ∧ Below w.heap.size w w' := ⟨_, rfl⟩
  have FIN := Lib.hid (show ∀ w', Below w.heap.size w w' → RR (.returned (.bool true)) w' from fun w' hb => by rw [hRR]; exact ⟨rfl, hb⟩)
  rw [← hRR]
  obtain ⟨w9, hw9⟩ : ∃ w9, w9 = w := ⟨_, rfl⟩
  have HK : Keep w [] [] w9 := by rw [hw9]; exact Keep.begin hE _ (by intro r hr; cases hr)
  suffices hgo : Calls Tryd.prog 8 #[.slice a A.length ca, .bool lg] w9 RR by rw [hw9] at hgo; exact hgo
  clear hw9 hRR hE ha hA
  go_enter Tryd.func8, Tryd.ntmps8
  refine wp_forget (n := 107) (L := [(1, .bool lg), (0, .slice a A.length ca)]) (FrL.add (FrL.add (FrL.nil ?_ ?_) _ _ ?_) _ _ ?_) ?_
  iterate 4 rfl
  intro a9 F
  refine wp_seq ?_
  refine wp_region_lit ?_
  refine fr_do F (wanted_free rfl) 4 rfl (by decide) (.bool false) (by intro a' F'; go_simp) ?_
  clear F a9
  intro a9 F
  refine wpList_nil ?_
  show Code.wp _ _ _ _ _
  replace F : FrL 107 [(1, .bool lg), (0, .slice a A.length ca)] a9 := (((FrL.nil F.size F.defers).add 0 _ (F.at' 0 _ rfl)).add 1 _ (F.at' 1 _ rfl))
  refine wp_seq ?_
  refine wp_seq ?_
  refine wp_region_lit ?_
  refine fr_do F (wanted_free rfl) 13 rfl (by decide) (.slice a A.length ca) (by intro a' F'; have h0 := F'.at' 0 _ rfl; go_simp) ?_
  clear F a9
  intro a9 F
  refine fr_do F (wanted_free rfl) 14 rfl (by decide) (.int .i64 (A.length : Int)) (by intro a' F'; have h13 := F'.at' 13 _ rfl; go_simp) ?_
  clear F a9
  intro a9 F
  refine fr_do F (wanted_free rfl) 15 rfl (by decide) (.bool false) (by intro a' F'; have h14 := F'.at' 14 _ rfl; go_simp <;> first | rfl | omega | (rw [IntKind.wrap_i64]; omega) | (rw [IntKind.wrap_u8]; omega) | (intro hcon; exfalso; omega) | (rw [Bool.eq_iff_iff]; simp; omega) | (rw [decide_eq_decide]; omega) | (congr 1; omega) | (congr 2; omega) | (rw [if_pos (by omega)]; congr 4 <;> omega) | (rw [if_pos (by omega), if_pos (by omega)]; congr 4 <;> omega)) ?_
  clear F a9
  intro a9 F
  refine wpList_nil ?_
  show Code.wp _ _ _ _ _
  refine wp_cond_false (F.ev 15 rfl) ?_
  refine wp_skip ?_
  show Code.wp _ _ _ _ _
  replace F : FrL 107 [(1, .bool lg), (0, .slice a A.length ca)] a9 := (((FrL.nil F.size F.defers).add 0 _ (F.at' 0 _ rfl)).add 1 _ (F.at' 1 _ rfl))
  refine wp_seq ?_
  refine wp_region_lit ?_
  refine fr_do F (wanted_free rfl) 5 rfl (by decide) (.string ⟨#[]⟩) (by intro a' F'; go_simp) ?_
  clear F a9
  intro a9 F
  refine wpList_nil ?_
  show Code.wp _ _ _ _ _
  replace F : FrL 107 [(5, .string ⟨#[]⟩), (1, .bool lg), (0, .slice a A.length ca)] a9 := ((((FrL.nil F.size F.defers).add 0 _ (F.at' 0 _ rfl)).add 1 _ (F.at' 1 _ rfl)).add 5 _ (F.at' 5 _ rfl))
  refine wp_seq ?_
  refine wp_seq ?_
  refine wp_region_lit ?_
  refine fr_do F (wanted_free rfl) 6 rfl (by decide) (.int .i64 0) (by intro a' F'; go_simp) ?_
  clear F a9
  intro a9 F
  refine wpList_nil ?_
  show Code.wp _ _ _ _ _
  replace F : FrL 107 [(6, .int .i64 0), (5, .string ⟨#[]⟩), (1, .bool lg), (0, .slice a A.length ca)] a9 := (((((FrL.nil F.size F.defers).add 0 _ (F.at' 0 _ rfl)).add 1 _ (F.at' 1 _ rfl)).add 5 _ (F.at' 5 _ rfl)).add 6 _ (F.at' 6 _ rfl))
  refine wp_block_end (fun a' w' => ∃ (J : ByteArray), FrL 107 [(5, .string J), (1, .bool lg), (0, .slice a A.length ca)] a' ∧ Keep w [] [] w' ∧ (∀ y ∈ A, GoodR y) ∧ bl J = rowB lg A ∧ J.size ≤ 208600) ?_ ?_
  · skip
    refine wp_loop (fun a' w' => ∃ (k : Nat) (J : ByteArray), FrL 107 [(6, .int .i64 (k : Int)), (5, .string J), (1, .bool lg), (0, .slice a A.length ca)] a' ∧ Keep w [] [] w' ∧ k ≤ A.length ∧ (∀ y ∈ A.take k, GoodR y) ∧ bl J = rowB lg (A.take k) ∧ J.size ≤ k * 10430) (fun a' _ => muI A.length 6 a') ⟨0, ⟨#[]⟩, F, HK, Nat.zero_le _, (by intro y hy; simp at hy), rfl, Nat.le_refl _⟩ ?_
    clear HK F a9 w9
    rintro a9 w9 ⟨k, J, F, HK, hk, hgd, hbj, hjs⟩
    rw [muI_at F 6 k rfl]
    have HGD := Lib.hid hgd
    have HBJ := Lib.hid hbj
    clear hgd hbj
    refine wp_seq ?_
    refine wp_seq ?_
    by_cases hlt : k < A.length
    · skip
      refine wp_region_lit ?_
      refine fr_do F (wanted_free rfl) 17 rfl (by decide) (.int .i64 (k : Int)) (by intro a' F'; have h6 := F'.at' 6 _ rfl; go_simp) ?_
      clear F a9
      intro a9 F
      refine fr_do F (wanted_free rfl) 18 rfl (by decide) (.slice a A.length ca) (by intro a' F'; have h0 := F'.at' 0 _ rfl; go_simp) ?_
      clear F a9
      intro a9 F
      refine fr_do F (wanted_free rfl) 19 rfl (by decide) (.int .i64 (A.length : Int)) (by intro a' F'; have h18 := F'.at' 18 _ rfl; go_simp) ?_
      clear F a9
      intro a9 F
      refine fr_do F (wanted_free rfl) 20 rfl (by decide) (.bool true) (by intro a' F'; have h17 := F'.at' 17 _ rfl; have h19 := F'.at' 19 _ rfl; go_simp <;> first | rfl | omega | (rw [IntKind.wrap_i64]; omega) | (rw [IntKind.wrap_u8]; omega) | (intro hcon; exfalso; omega) | (rw [Bool.eq_iff_iff]; simp; omega) | (rw [decide_eq_decide]; omega) | (congr 1; omega) | (congr 2; omega) | (rw [if_pos (by omega)]; congr 4 <;> omega) | (rw [if_pos (by omega), if_pos (by omega)]; congr 4 <;> omega)) ?_
      clear F a9
      intro a9 F
      refine wpList_nil ?_
      show Code.wp _ _ _ _ _
      refine wp_cond_true (F.ev 20 rfl) ?_
      refine wp_skip ?_
      show Code.wp _ _ _ _ _
      replace F : FrL 107 [(6, .int .i64 (k : Int)), (5, .string J), (1, .bool lg), (0, .slice a A.length ca)] a9 := (((((FrL.nil F.size F.defers).add 0 _ (F.at' 0 _ rfl)).add 1 _ (F.at' 1 _ rfl)).add 5 _ (F.at' 5 _ rfl)).add 6 _ (F.at' 6 _ rfl))
      obtain ⟨x, hx⟩ : ∃ x, A[k]? = some x := ⟨_, List.getElem?_eq_getElem hlt⟩
      have HX := Lib.hid hx
      have HPA := Lib.hid (HA.out x (List.mem_of_getElem? hx))
      obtain ⟨bb, oo, hal, hrg, hbb⟩ := pk_range HRA.out hx
      have HRG := Lib.hid hrg
      clear hrg hx
      obtain ⟨p, pa, pc⟩ := x
      refine wp_seq ?_
      refine wp_block_end (fun a' w' => ∃ (J2 : ByteArray), FrL 107 [(6, .int .i64 (k : Int)), (5, .string J2), (1, .bool lg), (0, .slice a A.length ca)] a' ∧ Keep w [] [] w' ∧ (∀ y ∈ A.take (k + 1), GoodR y) ∧ bl J2 = rowB lg (A.take (k + 1)) ∧ J2.size ≤ (k + 1) * 10430) ?_ ?_
      · skip
        obtain ⟨gb, hgp⟩ : ∃ gb, greatB p = gb := ⟨_, rfl⟩
        have HG := Lib.hid (show ∀ w9, CellsA w9 pa (subCells p.subs) → Calls Tryd.prog 17 #[.agg (pkV p pa pc)] w9 fun e w' => e = .returned (.bool gb) ∧ Below w9.heap.size w9 w' from fun w9 h1 => by
          have h2 := law03_Great p pa pc w9 h1
          rw [hgp] at h2
          exact h2)
        cases gb
        · skip
          refine wp_seq ?_
          refine wp_seq ?_
          refine wp_region_lit ?_
          refine fr_do F (wanted_free rfl) 23 rfl (by decide) (.slice a A.length ca) (by intro a' F'; have h0 := F'.at' 0 _ rfl; go_simp) ?_
          clear F a9
          intro a9 F
          refine fr_do F (wanted_free rfl) 24 rfl (by decide) (.int .i64 (k : Int)) (by intro a' F'; have h6 := F'.at' 6 _ rfl; go_simp) ?_
          clear F a9
          intro a9 F
          refine fr_do F (wanted_free rfl) 25 rfl (by decide) (.pointer (some ⟨bb, oo + k * 24, none⟩)) (by intro a' F'; have h23 := F'.at' 23 _ rfl; have h24 := F'.at' 24 _ rfl; go_simp <;> first | rfl | omega | (rw [IntKind.wrap_i64]; omega) | (rw [IntKind.wrap_u8]; omega) | (intro hcon; exfalso; omega) | (rw [Bool.eq_iff_iff]; simp; omega) | (rw [decide_eq_decide]; omega) | (congr 1; omega) | (congr 2; omega) | (rw [if_pos (by omega)]; congr 4 <;> omega) | (rw [if_pos (by omega), if_pos (by omega)]; congr 4 <;> omega)) ?_
          clear F a9
          intro a9 F
          refine fr_do F (wanted_free rfl) 26 rfl (by decide) (.agg (pkV p pa pc)) (fun a' F' => run_load_midF 27 _ rfl bb (oo + k * 24) (F'.ev 25 rfl) (pkC (p, pa, pc)) _ (range_low HRG.out hbb HK.low) Tryd.underlying27 rfl (pk_size p pa pc)) ?_
          clear F a9
          intro a9 F
          refine fr_call F (wanted_free rfl) 27 rfl (by decide) 17 #[.agg (pkV p pa pc)] (by intro a' F'; have h26 := F'.at' 26 _ rfl; go_simp) (HG.out _ (HPA.out.row.below HK.low)) ?_
          rintro e9 w8 ⟨rfl, hb8⟩
          replace HK := HK.below hb8
          clear hb8
          clear w9
          rename World => w9
          refine ⟨_, rfl, ?_⟩
          clear F a9
          intro a9 F
          refine wpList_nil ?_
          show Code.wp _ _ _ _ _
          refine wp_cond_false (F.ev 27 rfl) ?_
          refine wp_skip ?_
          show Code.wp _ _ _ _ _
          replace F : FrL 107 [(6, .int .i64 (k : Int)), (5, .string J), (1, .bool lg), (0, .slice a A.length ca)] a9 := (((((FrL.nil F.size F.defers).add 0 _ (F.at' 0 _ rfl)).add 1 _ (F.at' 1 _ rfl)).add 5 _ (F.at' 5 _ rfl)).add 6 _ (F.at' 6 _ rfl))
          have hsm := small_of hgp
          have hp := hsm.ok HPA.out.ty
          obtain ⟨t, ht⟩ : ∃ t, encS p = t := ⟨_, rfl⟩
          by_cases h0 : 0 ≤ restP p
          · skip
            have HN := Lib.hid (show ∀ w9, Env w9 → CellsA w9 pa (subCells p.subs) → Calls Tryd.prog 19 #[.agg (pkV p pa pc)] w9 fun e w' => e = .returned (.tuple #[.string t, .int .i64 0]) ∧ Below w9.heap.size w9 w' from fun w9 h1 h2 => by
              have h3 := write_Encode p pa pc w9 h1 hp h2
              rw [encE_good h0, ht] at h3
              exact h3)
            have hbt : bl t = encB p := by rw [← ht, encS_good h0]; rfl
            have hel := encB_len p hp h0
            have hes := enc_small hsm
            have hel2 := enc_long h0 hp
            have hts : t.size ≤ 10420 := by rw [← bl_len, hbt]; exact hes
            have hts2 : 2 ≤ t.size := by rw [← bl_len, hbt]; exact hel2
            obtain ⟨n, hn⟩ : ∃ n, (restP p).toNat = n := ⟨_, rfl⟩
            have hrn : restP p = (n : Int) := by omega
            have HRS := Lib.hid (show ∀ w9, Env w9 → CellsA w9 pa (subCells p.subs) → Calls Tryd.prog 35 #[.agg (pkV p pa pc)] w9 fun e w' => e = .returned (.int .i64 (n : Int)) ∧ Below w9.heap.size w9 w' from fun w9 h1 h2 => by
              have h3 := packet_Rest p pa pc w9 h1 hp h2
              rw [hrn] at h3
              exact h3)
            have HLB := Lib.hid (lb_len lg p hsm hp h0)
            have HGX := Lib.hid (show GoodR (p, pa, pc) from ⟨hsm, hp, h0⟩)
            have HLG := Lib.hid (show lg = true → n < 128 → t.extract 0 1 ++ strN [n + 128, 0] ++ t.extract 2 t.size = bB (lbB lg p) ∧ ∃ h : 1 < t.size, (t[1]'h).toNat = n from fun h1 h2 => by
              have hlbn : lenB n = [byteN n] := by
                unfold lenB lenF
                rw [if_pos h2]
              have hbt2 : bl t = byteN (16 * p.ty + flagsN p) :: byteN n :: restB p := by
                rw [hbt]
                unfold encB
                rw [hn, hlbn]
                rfl
              refine ⟨?_, ?_⟩
              · apply bl_inj
                rw [bl_add, bl_add, bl_from, bl_extract, bl_strN2, hbt2]
                show _ = lbB lg p
                unfold lbB
                rw [if_pos ⟨h1, by omega⟩, hn]
                rfl
              · obtain ⟨hk1, hk2⟩ := at_bl t 1 (byteN n) (by rw [hbt2]; rfl)
                exact ⟨hk1, by rw [hk2, byteN_nat _ (by omega)]⟩)
            have HLE := Lib.hid (show ¬ (lg = true ∧ n < 128) → t = bB (lbB lg p) from fun h => by
              apply bl_inj
              rw [hbt]
              show _ = lbB lg p
              unfold lbB
              rw [if_neg (fun h3 => h ⟨h3.1, by omega⟩)])
            clear hgp ht hp hsm hbt hel hes hel2 hn h0 HG
            refine wp_seq ?_
            refine wp_region_lit ?_
            refine fr_do F (wanted_free rfl) 30 rfl (by decide) (.slice a A.length ca) (by intro a' F'; have h0 := F'.at' 0 _ rfl; go_simp) ?_
            clear F a9
            intro a9 F
            refine fr_do F (wanted_free rfl) 31 rfl (by decide) (.int .i64 (k : Int)) (by intro a' F'; have h6 := F'.at' 6 _ rfl; go_simp) ?_
            clear F a9
            intro a9 F
            refine fr_do F (wanted_free rfl) 32 rfl (by decide) (.pointer (some ⟨bb, oo + k * 24, none⟩)) (by intro a' F'; have h30 := F'.at' 30 _ rfl; have h31 := F'.at' 31 _ rfl; go_simp <;> first | rfl | omega | (rw [IntKind.wrap_i64]; omega) | (rw [IntKind.wrap_u8]; omega) | (intro hcon; exfalso; omega) | (rw [Bool.eq_iff_iff]; simp; omega) | (rw [decide_eq_decide]; omega) | (congr 1; omega) | (congr 2; omega) | (rw [if_pos (by omega)]; congr 4 <;> omega) | (rw [if_pos (by omega), if_pos (by omega)]; congr 4 <;> omega)) ?_
            clear F a9
            intro a9 F
            refine fr_do F (wanted_free rfl) 33 rfl (by decide) (.agg (pkV p pa pc)) (fun a' F' => run_load_midF 27 _ rfl bb (oo + k * 24) (F'.ev 32 rfl) (pkC (p, pa, pc)) _ (range_low HRG.out hbb HK.low) Tryd.underlying27 rfl (pk_size p pa pc)) ?_
            clear F a9
            intro a9 F
            refine fr_call F (wanted_free rfl) 34 rfl (by decide) 19 #[.agg (pkV p pa pc)] (by intro a' F'; have h33 := F'.at' 33 _ rfl; go_simp) (HN.out _ HK.env (HPA.out.row.below HK.low)) ?_
            rintro e9 w8 ⟨rfl, hb8⟩
            replace HK := HK.below hb8
            clear hb8
            clear w9
            rename World => w9
            refine ⟨_, rfl, ?_⟩
            clear F a9
            intro a9 F
            refine fr_do F (wanted_free rfl) 29 rfl (by decide) (.tuple #[.string t, .int .i64 0]) (by intro a' F'; have h34 := F'.at' 34 _ rfl; go_simp) ?_
            clear F a9
            intro a9 F
            refine fr_do F (wanted_free rfl) 35 rfl (by decide) (.string t) (by intro a' F'; have h29 := F'.at' 29 _ rfl; go_simp) ?_
            clear F a9
            intro a9 F
            refine fr_do F (wanted_free rfl) 36 rfl (by decide) (.int .i64 0) (by intro a' F'; have h29 := F'.at' 29 _ rfl; go_simp) ?_
            clear F a9
            intro a9 F
            refine fr_do F (wanted_free rfl) 7 rfl (by decide) (.string t) (by intro a' F'; have h35 := F'.at' 35 _ rfl; go_simp) ?_
            clear F a9
            intro a9 F
            refine fr_do F (wanted_free rfl) 8 rfl (by decide) (.int .i64 0) (by intro a' F'; have h36 := F'.at' 36 _ rfl; go_simp) ?_
            clear F a9
            intro a9 F
            refine wpList_nil ?_
            show Code.wp _ _ _ _ _
            replace F : FrL 107 [(8, .int .i64 0), (7, .string t), (6, .int .i64 (k : Int)), (5, .string J), (1, .bool lg), (0, .slice a A.length ca)] a9 := (((((((FrL.nil F.size F.defers).add 0 _ (F.at' 0 _ rfl)).add 1 _ (F.at' 1 _ rfl)).add 5 _ (F.at' 5 _ rfl)).add 6 _ (F.at' 6 _ rfl)).add 7 _ (F.at' 7 _ rfl)).add 8 _ (F.at' 8 _ rfl))
            refine wp_seq ?_
            refine wp_seq ?_
            refine wp_region_lit ?_
            refine fr_do F (wanted_free rfl) 37 rfl (by decide) (.int .i64 0) (by intro a' F'; have h8 := F'.at' 8 _ rfl; go_simp) ?_
            clear F a9
            intro a9 F
            refine fr_do F (wanted_free rfl) 38 rfl (by decide) (.bool false) (by intro a' F'; have h37 := F'.at' 37 _ rfl; go_simp) ?_
            clear F a9
            intro a9 F
            refine wpList_nil ?_
            show Code.wp _ _ _ _ _
            refine wp_cond_false (F.ev 38 rfl) ?_
            refine wp_skip ?_
            show Code.wp _ _ _ _ _
            replace F : FrL 107 [(7, .string t), (6, .int .i64 (k : Int)), (5, .string J), (1, .bool lg), (0, .slice a A.length ca)] a9 := ((((((FrL.nil F.size F.defers).add 0 _ (F.at' 0 _ rfl)).add 1 _ (F.at' 1 _ rfl)).add 5 _ (F.at' 5 _ rfl)).add 6 _ (F.at' 6 _ rfl)).add 7 _ (F.at' 7 _ rfl))
            refine wp_seq ?_
            refine wp_seq ?_
            refine wp_region_lit ?_
            refine fr_do F (wanted_free rfl) 40 rfl (by decide) (.string t) (by intro a' F'; have h7 := F'.at' 7 _ rfl; go_simp) ?_
            clear F a9
            intro a9 F
            refine fr_do F (wanted_free rfl) 41 rfl (by decide) (.int .i64 (t.size : Int)) (by intro a' F'; have h40 := F'.at' 40 _ rfl; go_simp) ?_
            clear F a9
            intro a9 F
            refine fr_do F (wanted_free rfl) 42 rfl (by decide) (.bool false) (by intro a' F'; have h41 := F'.at' 41 _ rfl; go_simp <;> first | rfl | omega | (rw [IntKind.wrap_i64]; omega) | (rw [IntKind.wrap_u8]; omega) | (intro hcon; exfalso; omega) | (rw [Bool.eq_iff_iff]; simp; omega) | (rw [decide_eq_decide]; omega) | (congr 1; omega) | (congr 2; omega) | (rw [if_pos (by omega)]; congr 4 <;> omega) | (rw [if_pos (by omega), if_pos (by omega)]; congr 4 <;> omega)) ?_
            clear F a9
            intro a9 F
            refine wpList_nil ?_
            show Code.wp _ _ _ _ _
            refine wp_cond_false (F.ev 42 rfl) ?_
            refine wp_skip ?_
            show Code.wp _ _ _ _ _
            replace F : FrL 107 [(7, .string t), (6, .int .i64 (k : Int)), (5, .string J), (1, .bool lg), (0, .slice a A.length ca)] a9 := ((((((FrL.nil F.size F.defers).add 0 _ (F.at' 0 _ rfl)).add 1 _ (F.at' 1 _ rfl)).add 5 _ (F.at' 5 _ rfl)).add 6 _ (F.at' 6 _ rfl)).add 7 _ (F.at' 7 _ rfl))
            refine wp_seq_meet (fun a' w' => FrL 107 [(7, .string (bB (lbB lg p))), (6, .int .i64 (k : Int)), (5, .string J), (1, .bool lg), (0, .slice a A.length ca)] a' ∧ Keep w [] [] w') ?_ ?_
            · by_cases hb1 : lg = true ∧ n < 128
              · obtain ⟨hl1, hn1⟩ := hb1
                subst hl1
                refine wp_seq ?_
                refine wp_region_lit ?_
                refine fr_do F (wanted_free rfl) 43 rfl (by decide) (.bool true) (by intro a' F'; have h1 := F'.at' 1 _ rfl; go_simp) ?_
                clear F a9
                intro a9 F
                refine fr_do F (wanted_free rfl) 44 rfl (by decide) (.bool true) (by intro a' F'; have h43 := F'.at' 43 _ rfl; go_simp) ?_
                clear F a9
                intro a9 F
                refine fr_do F (by rw [wanted_at F rfl (t := 44) (b := true) (by kernel_rfl) rfl]; rfl) 45 rfl (by decide) (.slice a A.length ca) (by intro a' F'; have h0 := F'.at' 0 _ rfl; go_simp) ?_
                clear F a9
                intro a9 F
                refine fr_do F (by rw [wanted_at F rfl (t := 44) (b := true) (by kernel_rfl) rfl]; rfl) 46 rfl (by decide) (.int .i64 (k : Int)) (by intro a' F'; have h6 := F'.at' 6 _ rfl; go_simp) ?_
                clear F a9
                intro a9 F
                refine fr_do F (by rw [wanted_at F rfl (t := 44) (b := true) (by kernel_rfl) rfl]; rfl) 47 rfl (by decide) (.pointer (some ⟨bb, oo + k * 24, none⟩)) (by intro a' F'; have h45 := F'.at' 45 _ rfl; have h46 := F'.at' 46 _ rfl; go_simp <;> first | rfl | omega | (rw [IntKind.wrap_i64]; omega) | (rw [IntKind.wrap_u8]; omega) | (intro hcon; exfalso; omega) | (rw [Bool.eq_iff_iff]; simp; omega) | (rw [decide_eq_decide]; omega) | (congr 1; omega) | (congr 2; omega) | (rw [if_pos (by omega)]; congr 4 <;> omega) | (rw [if_pos (by omega), if_pos (by omega)]; congr 4 <;> omega)) ?_
                clear F a9
                intro a9 F
                refine fr_do F (by rw [wanted_at F rfl (t := 44) (b := true) (by kernel_rfl) rfl]; rfl) 48 rfl (by decide) (.agg (pkV p pa pc)) (fun a' F' => run_load_midF 27 _ rfl bb (oo + k * 24) (F'.ev 47 rfl) (pkC (p, pa, pc)) _ (range_low HRG.out hbb HK.low) Tryd.underlying27 rfl (pk_size p pa pc)) ?_
                clear F a9
                intro a9 F
                refine fr_call F (by rw [wanted_at F rfl (t := 44) (b := true) (by kernel_rfl) rfl]; rfl) 49 rfl (by decide) 35 #[.agg (pkV p pa pc)] (by intro a' F'; have h48 := F'.at' 48 _ rfl; go_simp) (HRS.out _ HK.env (HPA.out.row.below HK.low)) ?_
                rintro e9 w8 ⟨rfl, hb8⟩
                replace HK := HK.below hb8
                clear hb8
                clear w9
                rename World => w9
                refine ⟨_, rfl, ?_⟩
                clear F a9
                intro a9 F
                refine fr_do F (by rw [wanted_at F rfl (t := 44) (b := true) (by kernel_rfl) rfl]; rfl) 50 rfl (by decide) (.bool true) (by intro a' F'; have h49 := F'.at' 49 _ rfl; go_simp <;> first | rfl | omega | (rw [IntKind.wrap_i64]; omega) | (rw [IntKind.wrap_u8]; omega) | (intro hcon; exfalso; omega) | (rw [Bool.eq_iff_iff]; simp; omega) | (rw [decide_eq_decide]; omega) | (congr 1; omega) | (congr 2; omega) | (rw [if_pos (by omega)]; congr 4 <;> omega) | (rw [if_pos (by omega), if_pos (by omega)]; congr 4 <;> omega)) ?_
                clear F a9
                intro a9 F
                refine fr_do F (wanted_free rfl) 51 rfl (by decide) (.bool true) (by intro a' F'; have h44 := F'.at' 44 _ rfl; have h50 := F'.at' 50 _ rfl; go_simp) ?_
                clear F a9
                intro a9 F
                refine wpList_nil ?_
                show Code.wp _ _ _ _ _
                refine wp_cond_true (F.ev 51 rfl) ?_
                replace F : FrL 107 [(7, .string t), (6, .int .i64 (k : Int)), (5, .string J), (1, .bool true), (0, .slice a A.length ca)] a9 := ((((((FrL.nil F.size F.defers).add 0 _ (F.at' 0 _ rfl)).add 1 _ (F.at' 1 _ rfl)).add 5 _ (F.at' 5 _ rfl)).add 6 _ (F.at' 6 _ rfl)).add 7 _ (F.at' 7 _ rfl))
                obtain ⟨hcat, hk1, hkv⟩ := HLG.out rfl hn1
                have HC := Lib.hid hcat
                clear hcat
                have s1 : (t.extract 0 1).size = 1 := by rw [ByteArray.size_extract]; omega
                have s2 : (t.extract 2 t.size).size = t.size - 2 := by rw [ByteArray.size_extract]; omega
                have s3 : (strN [n + 128, 0]).size = 2 := rfl
                have s4 : (t.extract 0 1 ++ strN [n + 128, 0]).size = 3 := by rw [ByteArray.size_append, s1, s3]
                refine wp_region_noPanic ?_
                have hb8 : Below w9.heap.size w9 w9.drew := below_draws (n := 1) rfl
                replace HK := HK.below hb8
                clear hb8
                refine AnyT.begin (S := fun _ => True) (z := 1000) (by kernel_rfl) trivial (fun hS0 => ?_)
                clear hS0
                generalize w9.drew = w8 at *
                clear w9
                rename World => w9
                refine fr_takeG (i := 0) (o := ⟨some 52, _, _, _, _, _⟩) F trivial rfl (wanted_free rfl) 52 rfl (by decide) (.string t) (fun w9 hS => (by intro a' F'; have h7 := F'.at' 7 _ rfl; go_simp)) ?_
                clear F a9
                intro a9 F
                refine fr_takeG (i := 1) (o := ⟨some 53, _, _, _, _, _⟩) F trivial rfl (wanted_free rfl) 53 rfl (by decide) (.string (t.extract 0 1)) (fun w9 hS => (by intro a' F'; have h52 := F'.at' 52 _ rfl; go_simp <;> first | rfl | omega | (rw [IntKind.wrap_i64]; omega) | (rw [IntKind.wrap_u8]; omega) | (intro hcon; exfalso; omega) | (rw [Bool.eq_iff_iff]; simp; omega) | (rw [decide_eq_decide]; omega) | (congr 1; omega) | (congr 2; omega) | (rw [if_pos (by omega)]; congr 4 <;> omega) | (rw [if_pos (by omega), if_pos (by omega)]; congr 4 <;> omega))) ?_
                clear F a9
                intro a9 F
                refine fr_takeG (i := 2) (o := ⟨some 54, _, _, _, _, _⟩) F trivial rfl (wanted_free rfl) 54 rfl (by decide) (.string t) (fun w9 hS => (by intro a' F'; have h7 := F'.at' 7 _ rfl; go_simp)) ?_
                clear F a9
                intro a9 F
                refine fr_takeG (i := 3) (o := ⟨some 55, _, _, _, _, _⟩) F trivial rfl (wanted_free rfl) 55 rfl (by decide) (.int .u8 (n : Int)) (fun w9 hS => (by intro a' F'; have h54 := F'.at' 54 _ rfl; go_simp <;> first | rfl | omega | (rw [IntKind.wrap_i64]; omega) | (rw [IntKind.wrap_u8]; omega) | (intro hcon; exfalso; omega) | (rw [Bool.eq_iff_iff]; simp; omega) | (rw [decide_eq_decide]; omega) | (congr 1; omega) | (congr 2; omega) | (rw [if_pos (by omega)]; congr 4 <;> omega) | (rw [if_pos (by omega), if_pos (by omega)]; congr 4 <;> omega))) ?_
                clear F a9
                intro a9 F
                refine fr_takeG (i := 4) (o := ⟨some 56, _, _, _, _, _⟩) F trivial rfl (wanted_free rfl) 56 rfl (by decide) (.int .u8 ((n + 128 : Nat) : Int)) (fun w9 hS => (by intro a' F'; have h55 := F'.at' 55 _ rfl; go_simp <;> first | rfl | omega | (rw [IntKind.wrap_i64]; omega) | (rw [IntKind.wrap_u8]; omega) | (intro hcon; exfalso; omega) | (rw [Bool.eq_iff_iff]; simp; omega) | (rw [decide_eq_decide]; omega) | (congr 1; omega) | (congr 2; omega) | (rw [if_pos (by omega)]; congr 4 <;> omega) | (rw [if_pos (by omega), if_pos (by omega)]; congr 4 <;> omega))) ?_
                clear F a9
                intro a9 F
                refine fr_takeG (i := 8) (o := ⟨some 60, _, _, _, _, _⟩) F trivial rfl (wanted_free rfl) 60 rfl (by decide) (.string t) (fun w9 hS => (by intro a' F'; have h7 := F'.at' 7 _ rfl; go_simp)) ?_
                clear F a9
                intro a9 F
                refine fr_takeG (i := 9) (o := ⟨some 61, _, _, _, _, _⟩) F trivial rfl (wanted_free rfl) 61 rfl (by decide) (.string (t.extract 2 t.size)) (fun w9 hS => (by intro a' F'; have h60 := F'.at' 60 _ rfl; go_simp <;> first | rfl | omega | (rw [IntKind.wrap_i64]; omega) | (rw [IntKind.wrap_u8]; omega) | (intro hcon; exfalso; omega) | (rw [Bool.eq_iff_iff]; simp; omega) | (rw [decide_eq_decide]; omega) | (congr 1; omega) | (congr 2; omega) | (rw [if_pos (by omega)]; congr 4 <;> omega) | (rw [if_pos (by omega), if_pos (by omega)]; congr 4 <;> omega))) ?_
                clear F a9
                intro a9 F
                obtain ⟨i0, hi, hz0, hz1, hz2⟩ := info_parts infoU8
                have HK2 := HK.allocRow (natV [n + 128, 0]) 5
                refine fr_step (i := 5) (o := ⟨some 57, _, _, _, _, _⟩) F rfl rfl 57 rfl (by decide) (.slice (some ⟨w9.heap.size, 0, none⟩) 2 2) (w9.alloc (.cells (natV [n + 128, 0]).toArray 5)) (fun a' F' => run_bytes2 53 5 _ _ rfl (n + 128) 0 (F'.ev 56 rfl) rfl i0 _ Tryd.underlying53 hi hz0 (by rw [hz1]; decide) (by rw [hz1]; decide) (by rw [hz1]; kernel_rfl)) trivial ?_
                clear F a9
                intro a9 F
                clear hi hz0 hz1 hz2 i0
                obtain ⟨Z, hZ⟩ : ∃ Z, w9.heap.size = Z := ⟨_, rfl⟩
                rw [hZ] at HK2 F
                clear HK hZ
                generalize w9.alloc (.cells (natV [n + 128, 0]).toArray 5) = w8 at *
                clear w9
                rename World => w9
                have HK := HK2
                clear HK2
                replace HK : Keep w [] [(some ⟨Z, 0, none⟩, natV [n + 128, 0])] w9 := HK
                have kc := conv_nats (P := Tryd.prog) w9 53 5 Tryd.underlying53 Tryd.underlying5 (some ⟨Z, 0, none⟩) 2 [n + 128, 0] 2 rfl (HK.rowAt 0 rfl) 9 Tryd.underlying9
                refine fr_step (i := 6) (o := ⟨some 58, _, _, _, _, _⟩) F rfl rfl 58 rfl (by decide) (.string (strN [n + 128, 0])) w9 (fun a' F' => run_conv 53 9 _ rfl _ _ (F'.ev 57 rfl) kc) trivial ?_
                clear F a9
                intro a9 F
                clear kc
                refine fr_takeG (i := 7) (o := ⟨some 59, _, _, _, _, _⟩) F trivial rfl (wanted_free rfl) 59 rfl (by decide) (.string (t.extract 0 1 ++ strN [n + 128, 0])) (fun w9 hS => (by intro a' F'; have h53 := F'.at' 53 _ rfl; have h58 := F'.at' 58 _ rfl; go_simp <;> first | omega | exact rfl | (rw [if_neg (by omega)]; done) | (rw [if_neg (by omega), rfl]; done) | (intro hcon; exfalso; omega) | simpa using rfl)) ?_
                clear F a9
                intro a9 F
                refine fr_takeG (i := 10) (o := ⟨some 62, _, _, _, _, _⟩) F trivial rfl (wanted_free rfl) 62 rfl (by decide) (.string (bB (lbB true p))) (fun w9 hS => (by intro a' F'; have h59 := F'.at' 59 _ rfl; have h61 := F'.at' 61 _ rfl; have hq := HC.out; go_simp <;> first | omega | exact hq | (rw [if_neg (by omega)]; done) | (rw [if_neg (by omega), hq]; done) | (intro hcon; exfalso; omega) | simpa using hq)) ?_
                clear F a9
                intro a9 F
                refine fr_takeG (i := 11) (o := ⟨some 7, _, _, _, _, _⟩) F trivial rfl (wanted_free rfl) 7 rfl (by decide) (.string (bB (lbB true p))) (fun w9 hS => (by intro a' F'; have h62 := F'.at' 62 _ rfl; go_simp)) ?_
                clear F a9
                intro a9 F
                refine AnyT.done (by kernel_rfl) ?_ _
                refine NoPanic.normal ?_
                exact ⟨((((((FrL.nil F.size F.defers).add 0 _ (F.at' 0 _ rfl)).add 1 _ (F.at' 1 _ rfl)).add 5 _ (F.at' 5 _ rfl)).add 6 _ (F.at' 6 _ rfl)).add 7 _ (F.at' 7 _ rfl)), HK.sub (List.Sublist.refl _) (by intro r hr; cases hr)⟩
              · have htt := HLE.out hb1
                cases lg
                · skip
                  refine wp_seq ?_
                  refine wp_region_lit ?_
                  refine fr_do F (wanted_free rfl) 43 rfl (by decide) (.bool false) (by intro a' F'; have h1 := F'.at' 1 _ rfl; go_simp) ?_
                  clear F a9
                  intro a9 F
                  refine fr_do F (wanted_free rfl) 44 rfl (by decide) (.bool false) (by intro a' F'; have h43 := F'.at' 43 _ rfl; go_simp) ?_
                  clear F a9
                  intro a9 F
                  refine fr_left F (by rw [wanted_at F rfl (t := 44) (b := false) (by kernel_rfl) rfl]; rfl) 45 rfl (by decide) ?_
                  clear F a9
                  intro a9 F
                  refine fr_left F (by rw [wanted_at F rfl (t := 44) (b := false) (by kernel_rfl) rfl]; rfl) 46 rfl (by decide) ?_
                  clear F a9
                  intro a9 F
                  refine fr_left F (by rw [wanted_at F rfl (t := 44) (b := false) (by kernel_rfl) rfl]; rfl) 47 rfl (by decide) ?_
                  clear F a9
                  intro a9 F
                  refine fr_left F (by rw [wanted_at F rfl (t := 44) (b := false) (by kernel_rfl) rfl]; rfl) 48 rfl (by decide) ?_
                  clear F a9
                  intro a9 F
                  refine fr_left F (by rw [wanted_at F rfl (t := 44) (b := false) (by kernel_rfl) rfl]; rfl) 49 rfl (by decide) ?_
                  clear F a9
                  intro a9 F
                  refine fr_left F (by rw [wanted_at F rfl (t := 44) (b := false) (by kernel_rfl) rfl]; rfl) 50 rfl (by decide) ?_
                  clear F a9
                  intro a9 F
                  refine fr_do F (wanted_free rfl) 51 rfl (by decide) (.bool false) (by intro a' F'; have h44 := F'.at' 44 _ rfl; have h50 := F'.at' 50 _ rfl; go_simp) ?_
                  clear F a9
                  intro a9 F
                  refine wpList_nil ?_
                  show Code.wp _ _ _ _ _
                  refine wp_cond_false (F.ev 51 rfl) ?_
                  refine wp_skip ?_
                  rw [htt] at F
                  exact ⟨((((((FrL.nil F.size F.defers).add 0 _ (F.at' 0 _ rfl)).add 1 _ (F.at' 1 _ rfl)).add 5 _ (F.at' 5 _ rfl)).add 6 _ (F.at' 6 _ rfl)).add 7 _ (F.at' 7 _ rfl)), HK⟩
                · have hn1 : ¬ n < 128 := fun h => hb1 ⟨rfl, h⟩
                  refine wp_seq ?_
                  refine wp_region_lit ?_
                  refine fr_do F (wanted_free rfl) 43 rfl (by decide) (.bool true) (by intro a' F'; have h1 := F'.at' 1 _ rfl; go_simp) ?_
                  clear F a9
                  intro a9 F
                  refine fr_do F (wanted_free rfl) 44 rfl (by decide) (.bool true) (by intro a' F'; have h43 := F'.at' 43 _ rfl; go_simp) ?_
                  clear F a9
                  intro a9 F
                  refine fr_do F (by rw [wanted_at F rfl (t := 44) (b := true) (by kernel_rfl) rfl]; rfl) 45 rfl (by decide) (.slice a A.length ca) (by intro a' F'; have h0 := F'.at' 0 _ rfl; go_simp) ?_
                  clear F a9
                  intro a9 F
                  refine fr_do F (by rw [wanted_at F rfl (t := 44) (b := true) (by kernel_rfl) rfl]; rfl) 46 rfl (by decide) (.int .i64 (k : Int)) (by intro a' F'; have h6 := F'.at' 6 _ rfl; go_simp) ?_
                  clear F a9
                  intro a9 F
                  refine fr_do F (by rw [wanted_at F rfl (t := 44) (b := true) (by kernel_rfl) rfl]; rfl) 47 rfl (by decide) (.pointer (some ⟨bb, oo + k * 24, none⟩)) (by intro a' F'; have h45 := F'.at' 45 _ rfl; have h46 := F'.at' 46 _ rfl; go_simp <;> first | rfl | omega | (rw [IntKind.wrap_i64]; omega) | (rw [IntKind.wrap_u8]; omega) | (intro hcon; exfalso; omega) | (rw [Bool.eq_iff_iff]; simp; omega) | (rw [decide_eq_decide]; omega) | (congr 1; omega) | (congr 2; omega) | (rw [if_pos (by omega)]; congr 4 <;> omega) | (rw [if_pos (by omega), if_pos (by omega)]; congr 4 <;> omega)) ?_
                  clear F a9
                  intro a9 F
                  refine fr_do F (by rw [wanted_at F rfl (t := 44) (b := true) (by kernel_rfl) rfl]; rfl) 48 rfl (by decide) (.agg (pkV p pa pc)) (fun a' F' => run_load_midF 27 _ rfl bb (oo + k * 24) (F'.ev 47 rfl) (pkC (p, pa, pc)) _ (range_low HRG.out hbb HK.low) Tryd.underlying27 rfl (pk_size p pa pc)) ?_
                  clear F a9
                  intro a9 F
                  refine fr_call F (by rw [wanted_at F rfl (t := 44) (b := true) (by kernel_rfl) rfl]; rfl) 49 rfl (by decide) 35 #[.agg (pkV p pa pc)] (by intro a' F'; have h48 := F'.at' 48 _ rfl; go_simp) (HRS.out _ HK.env (HPA.out.row.below HK.low)) ?_
                  rintro e9 w8 ⟨rfl, hb8⟩
                  replace HK := HK.below hb8
                  clear hb8
                  clear w9
                  rename World => w9
                  refine ⟨_, rfl, ?_⟩
                  clear F a9
                  intro a9 F
                  refine fr_do F (by rw [wanted_at F rfl (t := 44) (b := true) (by kernel_rfl) rfl]; rfl) 50 rfl (by decide) (.bool false) (by intro a' F'; have h49 := F'.at' 49 _ rfl; go_simp <;> first | rfl | omega | (rw [IntKind.wrap_i64]; omega) | (rw [IntKind.wrap_u8]; omega) | (intro hcon; exfalso; omega) | (rw [Bool.eq_iff_iff]; simp; omega) | (rw [decide_eq_decide]; omega) | (congr 1; omega) | (congr 2; omega) | (rw [if_pos (by omega)]; congr 4 <;> omega) | (rw [if_pos (by omega), if_pos (by omega)]; congr 4 <;> omega)) ?_
                  clear F a9
                  intro a9 F
                  refine fr_do F (wanted_free rfl) 51 rfl (by decide) (.bool false) (by intro a' F'; have h44 := F'.at' 44 _ rfl; have h50 := F'.at' 50 _ rfl; go_simp) ?_
                  clear F a9
                  intro a9 F
                  refine wpList_nil ?_
                  show Code.wp _ _ _ _ _
                  refine wp_cond_false (F.ev 51 rfl) ?_
                  refine wp_skip ?_
                  rw [htt] at F
                  exact ⟨((((((FrL.nil F.size F.defers).add 0 _ (F.at' 0 _ rfl)).add 1 _ (F.at' 1 _ rfl)).add 5 _ (F.at' 5 _ rfl)).add 6 _ (F.at' 6 _ rfl)).add 7 _ (F.at' 7 _ rfl)), HK⟩
            clear HK F a9 w9 HLG HLE HRS
            rintro a9 w9 ⟨F, HK⟩
            obtain ⟨t2, ht2⟩ : ∃ t2, bB (lbB lg p) = t2 := ⟨_, rfl⟩
            rw [ht2] at F
            have hbt2 : bl t2 = lbB lg p := by rw [← ht2]; rfl
            have hl2 := HLB.out
            rw [← hbt2, bl_len] at hl2
            have HB2 := Lib.hid hbt2
            clear hbt2 ht2 HLB
            have hcat : ¬ 9223372036854775807 < J.size + t2.size := by omega
            replace F : FrL 107 [(7, .string t2), (6, .int .i64 (k : Int)), (5, .string J), (1, .bool lg), (0, .slice a A.length ca)] a9 := ((((((FrL.nil F.size F.defers).add 0 _ (F.at' 0 _ rfl)).add 1 _ (F.at' 1 _ rfl)).add 5 _ (F.at' 5 _ rfl)).add 6 _ (F.at' 6 _ rfl)).add 7 _ (F.at' 7 _ rfl))
            replace HK : Keep w [] [] w9 := HK
            refine wp_region_lit ?_
            refine fr_do F (wanted_free rfl) 63 rfl (by decide) (.string J) (by intro a' F'; have h5 := F'.at' 5 _ rfl; go_simp) ?_
            clear F a9
            intro a9 F
            refine fr_do F (wanted_free rfl) 64 rfl (by decide) (.string t2) (by intro a' F'; have h7 := F'.at' 7 _ rfl; go_simp) ?_
            clear F a9
            intro a9 F
            refine fr_do F (wanted_free rfl) 65 rfl (by decide) (.string (J ++ t2)) (by intro a' F'; have h63 := F'.at' 63 _ rfl; have h64 := F'.at' 64 _ rfl; go_simp <;> first | rfl | omega | (rw [IntKind.wrap_i64]; omega) | (rw [IntKind.wrap_u8]; omega) | (intro hcon; exfalso; omega) | (rw [Bool.eq_iff_iff]; simp; omega) | (rw [decide_eq_decide]; omega) | (congr 1; omega) | (congr 2; omega) | (rw [if_pos (by omega)]; congr 4 <;> omega) | (rw [if_pos (by omega), if_pos (by omega)]; congr 4 <;> omega)) ?_
            clear F a9
            intro a9 F
            refine fr_do F (wanted_free rfl) 5 rfl (by decide) (.string (J ++ t2)) (by intro a' F'; have h65 := F'.at' 65 _ rfl; go_simp) ?_
            clear F a9
            intro a9 F
            refine wpList_nil ?_
            refine ⟨J ++ t2, (((((FrL.nil F.size F.defers).add 0 _ (F.at' 0 _ rfl)).add 1 _ (F.at' 1 _ rfl)).add 5 _ (F.at' 5 _ rfl)).add 6 _ (F.at' 6 _ rfl)), HK, take_good HX.out HGD.out HGX.out, ?_, ?_⟩
            · rw [bl_add, HBJ.out, HB2.out, rowB_snoc lg A k _ HX.out]
            · rw [ByteArray.size_append]; omega
          · skip
            have HN := Lib.hid (show ∀ w9, Env w9 → CellsA w9 pa (subCells p.subs) → Calls Tryd.prog 19 #[.agg (pkV p pa pc)] w9 fun e w' => e = .returned (.tuple #[.string t, .int .i64 4]) ∧ Below w9.heap.size w9 w' from fun w9 h1 h2 => by
              have h3 := write_Encode p pa pc w9 h1 hp h2
              rw [encE_bad (by omega), ht] at h3
              exact h3)
            clear hgp ht hp hsm h0 HG
            refine wp_seq ?_
            refine wp_region_lit ?_
            refine fr_do F (wanted_free rfl) 30 rfl (by decide) (.slice a A.length ca) (by intro a' F'; have h0 := F'.at' 0 _ rfl; go_simp) ?_
            clear F a9
            intro a9 F
            refine fr_do F (wanted_free rfl) 31 rfl (by decide) (.int .i64 (k : Int)) (by intro a' F'; have h6 := F'.at' 6 _ rfl; go_simp) ?_
            clear F a9
            intro a9 F
            refine fr_do F (wanted_free rfl) 32 rfl (by decide) (.pointer (some ⟨bb, oo + k * 24, none⟩)) (by intro a' F'; have h30 := F'.at' 30 _ rfl; have h31 := F'.at' 31 _ rfl; go_simp <;> first | rfl | omega | (rw [IntKind.wrap_i64]; omega) | (rw [IntKind.wrap_u8]; omega) | (intro hcon; exfalso; omega) | (rw [Bool.eq_iff_iff]; simp; omega) | (rw [decide_eq_decide]; omega) | (congr 1; omega) | (congr 2; omega) | (rw [if_pos (by omega)]; congr 4 <;> omega) | (rw [if_pos (by omega), if_pos (by omega)]; congr 4 <;> omega)) ?_
            clear F a9
            intro a9 F
            refine fr_do F (wanted_free rfl) 33 rfl (by decide) (.agg (pkV p pa pc)) (fun a' F' => run_load_midF 27 _ rfl bb (oo + k * 24) (F'.ev 32 rfl) (pkC (p, pa, pc)) _ (range_low HRG.out hbb HK.low) Tryd.underlying27 rfl (pk_size p pa pc)) ?_
            clear F a9
            intro a9 F
            refine fr_call F (wanted_free rfl) 34 rfl (by decide) 19 #[.agg (pkV p pa pc)] (by intro a' F'; have h33 := F'.at' 33 _ rfl; go_simp) (HN.out _ HK.env (HPA.out.row.below HK.low)) ?_
            rintro e9 w8 ⟨rfl, hb8⟩
            replace HK := HK.below hb8
            clear hb8
            clear w9
            rename World => w9
            refine ⟨_, rfl, ?_⟩
            clear F a9
            intro a9 F
            refine fr_do F (wanted_free rfl) 29 rfl (by decide) (.tuple #[.string t, .int .i64 4]) (by intro a' F'; have h34 := F'.at' 34 _ rfl; go_simp) ?_
            clear F a9
            intro a9 F
            refine fr_do F (wanted_free rfl) 35 rfl (by decide) (.string t) (by intro a' F'; have h29 := F'.at' 29 _ rfl; go_simp) ?_
            clear F a9
            intro a9 F
            refine fr_do F (wanted_free rfl) 36 rfl (by decide) (.int .i64 4) (by intro a' F'; have h29 := F'.at' 29 _ rfl; go_simp) ?_
            clear F a9
            intro a9 F
            refine fr_do F (wanted_free rfl) 7 rfl (by decide) (.string t) (by intro a' F'; have h35 := F'.at' 35 _ rfl; go_simp) ?_
            clear F a9
            intro a9 F
            refine fr_do F (wanted_free rfl) 8 rfl (by decide) (.int .i64 4) (by intro a' F'; have h36 := F'.at' 36 _ rfl; go_simp) ?_
            clear F a9
            intro a9 F
            refine wpList_nil ?_
            show Code.wp _ _ _ _ _
            replace F : FrL 107 [(8, .int .i64 4), (7, .string t), (6, .int .i64 (k : Int)), (5, .string J), (1, .bool lg), (0, .slice a A.length ca)] a9 := (((((((FrL.nil F.size F.defers).add 0 _ (F.at' 0 _ rfl)).add 1 _ (F.at' 1 _ rfl)).add 5 _ (F.at' 5 _ rfl)).add 6 _ (F.at' 6 _ rfl)).add 7 _ (F.at' 7 _ rfl)).add 8 _ (F.at' 8 _ rfl))
            refine wp_seq ?_
            refine wp_seq ?_
            refine wp_region_lit ?_
            refine fr_do F (wanted_free rfl) 37 rfl (by decide) (.int .i64 4) (by intro a' F'; have h8 := F'.at' 8 _ rfl; go_simp) ?_
            clear F a9
            intro a9 F
            refine fr_do F (wanted_free rfl) 38 rfl (by decide) (.bool true) (by intro a' F'; have h37 := F'.at' 37 _ rfl; go_simp) ?_
            clear F a9
            intro a9 F
            refine wpList_nil ?_
            show Code.wp _ _ _ _ _
            refine wp_cond_true (F.ev 38 rfl) ?_
            refine wp_seq ?_
            refine wp_region_lit ?_
            refine fr_call F (wanted_free rfl) 39 rfl (by decide) 28 #[] (by intro a' F'; go_simp) (law05_awake _ HK.env) ?_
            rintro e9 w8 ⟨rfl, hb8⟩
            replace HK := HK.below hb8
            clear hb8
            clear w9
            rename World => w9
            refine ⟨_, rfl, ?_⟩
            clear F a9
            intro a9 F
            refine fr_do F (wanted_free rfl) 4 rfl (by decide) (.bool true) (by intro a' F'; have h39 := F'.at' 39 _ rfl; go_simp) ?_
            clear F a9
            intro a9 F
            refine wpList_nil ?_
            show Code.wp _ _ _ _ _
            refine wp_ret ?_
            exact fr_ret1 F rfl _ rfl (FIN.out _ HK.low)
        · skip
          refine wp_seq ?_
          refine wp_seq ?_
          refine wp_region_lit ?_
          refine fr_do F (wanted_free rfl) 23 rfl (by decide) (.slice a A.length ca) (by intro a' F'; have h0 := F'.at' 0 _ rfl; go_simp) ?_
          clear F a9
          intro a9 F
          refine fr_do F (wanted_free rfl) 24 rfl (by decide) (.int .i64 (k : Int)) (by intro a' F'; have h6 := F'.at' 6 _ rfl; go_simp) ?_
          clear F a9
          intro a9 F
          refine fr_do F (wanted_free rfl) 25 rfl (by decide) (.pointer (some ⟨bb, oo + k * 24, none⟩)) (by intro a' F'; have h23 := F'.at' 23 _ rfl; have h24 := F'.at' 24 _ rfl; go_simp <;> first | rfl | omega | (rw [IntKind.wrap_i64]; omega) | (rw [IntKind.wrap_u8]; omega) | (intro hcon; exfalso; omega) | (rw [Bool.eq_iff_iff]; simp; omega) | (rw [decide_eq_decide]; omega) | (congr 1; omega) | (congr 2; omega) | (rw [if_pos (by omega)]; congr 4 <;> omega) | (rw [if_pos (by omega), if_pos (by omega)]; congr 4 <;> omega)) ?_
          clear F a9
          intro a9 F
          refine fr_do F (wanted_free rfl) 26 rfl (by decide) (.agg (pkV p pa pc)) (fun a' F' => run_load_midF 27 _ rfl bb (oo + k * 24) (F'.ev 25 rfl) (pkC (p, pa, pc)) _ (range_low HRG.out hbb HK.low) Tryd.underlying27 rfl (pk_size p pa pc)) ?_
          clear F a9
          intro a9 F
          refine fr_call F (wanted_free rfl) 27 rfl (by decide) 17 #[.agg (pkV p pa pc)] (by intro a' F'; have h26 := F'.at' 26 _ rfl; go_simp) (HG.out _ (HPA.out.row.below HK.low)) ?_
          rintro e9 w8 ⟨rfl, hb8⟩
          replace HK := HK.below hb8
          clear hb8
          clear w9
          rename World => w9
          refine ⟨_, rfl, ?_⟩
          clear F a9
          intro a9 F
          refine wpList_nil ?_
          show Code.wp _ _ _ _ _
          refine wp_cond_true (F.ev 27 rfl) ?_
          refine wp_seq ?_
          refine wp_region_lit ?_
          refine fr_call F (wanted_free rfl) 28 rfl (by decide) 28 #[] (by intro a' F'; go_simp) (law05_awake _ HK.env) ?_
          rintro e9 w8 ⟨rfl, hb8⟩
          replace HK := HK.below hb8
          clear hb8
          clear w9
          rename World => w9
          refine ⟨_, rfl, ?_⟩
          clear F a9
          intro a9 F
          refine fr_do F (wanted_free rfl) 4 rfl (by decide) (.bool true) (by intro a' F'; have h28 := F'.at' 28 _ rfl; go_simp) ?_
          clear F a9
          intro a9 F
          refine wpList_nil ?_
          show Code.wp _ _ _ _ _
          refine wp_ret ?_
          exact fr_ret1 F rfl _ rfl (FIN.out _ HK.low)
      · clear HK F a9 w9
        rintro a9 w9 ⟨J2, F, HK, h1, h2, h3⟩
        show Code.wp _ _ _ _ _
        refine wp_region_lit ?_
        refine fr_do F (wanted_free rfl) 21 rfl (by decide) (.int .i64 (k : Int)) (by intro a' F'; have h6 := F'.at' 6 _ rfl; go_simp) ?_
        clear F a9
        intro a9 F
        refine fr_do F (wanted_free rfl) 22 rfl (by decide) (.int .i64 ((k + 1 : Nat) : Int)) (by intro a' F'; have h21 := F'.at' 21 _ rfl; go_simp <;> first | rfl | omega | (rw [IntKind.wrap_i64]; omega) | (rw [IntKind.wrap_u8]; omega) | (intro hcon; exfalso; omega) | (rw [Bool.eq_iff_iff]; simp; omega) | (rw [decide_eq_decide]; omega) | (congr 1; omega) | (congr 2; omega) | (rw [if_pos (by omega)]; congr 4 <;> omega) | (rw [if_pos (by omega), if_pos (by omega)]; congr 4 <;> omega)) ?_
        clear F a9
        intro a9 F
        refine fr_do F (wanted_free rfl) 6 rfl (by decide) (.int .i64 ((k + 1 : Nat) : Int)) (by intro a' F'; have h22 := F'.at' 22 _ rfl; go_simp) ?_
        clear F a9
        intro a9 F
        refine wpList_nil ?_
        replace F : FrL 107 [(6, .int .i64 ((k + 1 : Nat) : Int)), (5, .string J2), (1, .bool lg), (0, .slice a A.length ca)] a9 := (((((FrL.nil F.size F.defers).add 0 _ (F.at' 0 _ rfl)).add 1 _ (F.at' 1 _ rfl)).add 5 _ (F.at' 5 _ rfl)).add 6 _ (F.at' 6 _ rfl))
        refine ⟨⟨k + 1, J2, F, HK, by omega, h1, h2, h3⟩, ?_⟩
        rw [muI_at F 6 (k + 1) rfl]
        omega
    · have hk2 : k = A.length := by omega
      subst hk2
      refine wp_region_lit ?_
      refine fr_do F (wanted_free rfl) 17 rfl (by decide) (.int .i64 (A.length : Int)) (by intro a' F'; have h6 := F'.at' 6 _ rfl; go_simp) ?_
      clear F a9
      intro a9 F
      refine fr_do F (wanted_free rfl) 18 rfl (by decide) (.slice a A.length ca) (by intro a' F'; have h0 := F'.at' 0 _ rfl; go_simp) ?_
      clear F a9
      intro a9 F
      refine fr_do F (wanted_free rfl) 19 rfl (by decide) (.int .i64 (A.length : Int)) (by intro a' F'; have h18 := F'.at' 18 _ rfl; go_simp) ?_
      clear F a9
      intro a9 F
      refine fr_do F (wanted_free rfl) 20 rfl (by decide) (.bool false) (by intro a' F'; have h17 := F'.at' 17 _ rfl; have h19 := F'.at' 19 _ rfl; go_simp <;> first | rfl | omega | (rw [IntKind.wrap_i64]; omega) | (rw [IntKind.wrap_u8]; omega) | (intro hcon; exfalso; omega) | (rw [Bool.eq_iff_iff]; simp; omega) | (rw [decide_eq_decide]; omega) | (congr 1; omega) | (congr 2; omega) | (rw [if_pos (by omega)]; congr 4 <;> omega) | (rw [if_pos (by omega), if_pos (by omega)]; congr 4 <;> omega)) ?_
      clear F a9
      intro a9 F
      refine wpList_nil ?_
      show Code.wp _ _ _ _ _
      refine wp_cond_false (F.ev 20 rfl) ?_
      refine wp_exit ?_
      have hg := HGD.out
      have hb := HBJ.out
      rw [List.take_length] at hg hb
      exact then_exit (then_exit (exit_in ⟨J, ((((FrL.nil F.size F.defers).add 0 _ (F.at' 0 _ rfl)).add 1 _ (F.at' 1 _ rfl)).add 5 _ (F.at' 5 _ rfl)), HK, hg, hb, by omega⟩))
  · clear HK F a9 w9
    rintro a9 w9 ⟨J0, F, HK, hgd, hbj, hjs⟩
    show Code.wp _ _ _ _ _
    have HGD := Lib.hid hgd
    have HBJ := Lib.hid hbj
    clear hgd hbj
    refine wp_seq ?_
    refine wp_seq ?_
    refine wp_region_lit ?_
    refine fr_do F (wanted_free rfl) 9 rfl (by decide) (.int .i64 0) (by intro a' F'; go_simp) ?_
    clear F a9
    intro a9 F
    refine wpList_nil ?_
    show Code.wp _ _ _ _ _
    replace F : FrL 107 [(9, .int .i64 0), (5, .string J0), (0, .slice a A.length ca)] a9 := ((((FrL.nil F.size F.defers).add 0 _ (F.at' 0 _ rfl)).add 5 _ (F.at' 5 _ rfl)).add 9 _ (F.at' 9 _ rfl))
    refine wp_block_end (fun a' w' => FrL 107 [(5, .string ⟨#[]⟩)] a' ∧ Keep w [] [] w') ?_ ?_
    · skip
      refine wp_loop (fun a' w' => ∃ (k : Nat) (J : ByteArray), FrL 107 [(9, .int .i64 (k : Int)), (5, .string J), (0, .slice a A.length ca)] a' ∧ Keep w [] [] w' ∧ k ≤ A.length ∧ bl J = rowB lg (A.drop k) ∧ J.size ≤ 208600) (fun a' _ => muI A.length 9 a') ⟨0, J0, F, HK, Nat.zero_le _, HBJ.out, hjs⟩ ?_
      clear HK F a9 w9 HBJ hjs
      rintro a9 w9 ⟨k, J, F, HK, hk, hbj, hjs⟩
      rw [muI_at F 9 k rfl]
      have HBJ := Lib.hid hbj
      clear hbj
      refine wp_seq ?_
      refine wp_seq ?_
      by_cases hlt : k < A.length
      · skip
        refine wp_region_lit ?_
        refine fr_do F (wanted_free rfl) 66 rfl (by decide) (.int .i64 (k : Int)) (by intro a' F'; have h9 := F'.at' 9 _ rfl; go_simp) ?_
        clear F a9
        intro a9 F
        refine fr_do F (wanted_free rfl) 67 rfl (by decide) (.slice a A.length ca) (by intro a' F'; have h0 := F'.at' 0 _ rfl; go_simp) ?_
        clear F a9
        intro a9 F
        refine fr_do F (wanted_free rfl) 68 rfl (by decide) (.int .i64 (A.length : Int)) (by intro a' F'; have h67 := F'.at' 67 _ rfl; go_simp) ?_
        clear F a9
        intro a9 F
        refine fr_do F (wanted_free rfl) 69 rfl (by decide) (.bool true) (by intro a' F'; have h66 := F'.at' 66 _ rfl; have h68 := F'.at' 68 _ rfl; go_simp <;> first | rfl | omega | (rw [IntKind.wrap_i64]; omega) | (rw [IntKind.wrap_u8]; omega) | (intro hcon; exfalso; omega) | (rw [Bool.eq_iff_iff]; simp; omega) | (rw [decide_eq_decide]; omega) | (congr 1; omega) | (congr 2; omega) | (rw [if_pos (by omega)]; congr 4 <;> omega) | (rw [if_pos (by omega), if_pos (by omega)]; congr 4 <;> omega)) ?_
        clear F a9
        intro a9 F
        refine wpList_nil ?_
        show Code.wp _ _ _ _ _
        refine wp_cond_true (F.ev 69 rfl) ?_
        refine wp_skip ?_
        show Code.wp _ _ _ _ _
        replace F : FrL 107 [(9, .int .i64 (k : Int)), (5, .string J), (0, .slice a A.length ca)] a9 := ((((FrL.nil F.size F.defers).add 0 _ (F.at' 0 _ rfl)).add 5 _ (F.at' 5 _ rfl)).add 9 _ (F.at' 9 _ rfl))
        obtain ⟨x, hx⟩ : ∃ x, A[k]? = some x := ⟨_, List.getElem?_eq_getElem hlt⟩
        have HPA := Lib.hid (HA.out x (List.mem_of_getElem? hx))
        obtain ⟨bb, oo, hal, hrg, hbb⟩ := pk_range HRA.out hx
        have HRG := Lib.hid hrg
        obtain ⟨hsm, hp, h0⟩ := HGD.out x (List.mem_of_getElem? hx)
        have hbd := HBJ.out
        rw [rowB_drop lg A k x hx] at hbd
        have hll := lb_len lg x.1 hsm hp h0
        have hdec := lb_dec lg x.1 hp h0 (rowB lg (A.drop (k + 1)))
        rw [← hbd] at hdec
        clear hrg hx
        obtain ⟨p, pa, pc⟩ := x
        simp only at hsm hp h0 hbd hll hdec
        obtain ⟨n, hn⟩ : ∃ n, (lbB lg p).length = n := ⟨_, rfl⟩
        rw [hn] at hll hdec
        have hnj : n ≤ J.size := by rw [← bl_len, hbd, List.length_append, hn]; omega
        have hnx : bl (J.extract n J.size) = rowB lg (A.drop (k + 1)) := by rw [bl_from, hbd, ← hn, List.drop_left]
        have HNX := Lib.hid hnx
        have HD := Lib.hid (show ∀ w9, Env w9 → Calls Tryd.prog 29 #[.string J] w9 (RetDec w9 (p, n, 0)) from fun w9 h1 => by
          have h2 := read_Decode J (by omega) w9 h1
          rw [hdec] at h2
          exact h2)
        have HSM := Lib.hid (show ∀ w9 al cap, Env w9 → CellsA w9 al (subCells p.subs) → CellsA w9 pa (subCells p.subs) → Calls Tryd.prog 30 #[.agg (pkV p al cap), .agg (pkV p pa pc)] w9 fun e w' => e = .returned (.bool true) ∧ Below w9.heap.size w9 w' from fun w9 al cap h1 h2 h3 => by
          have h4 := packet_Same p p al pa cap pc w9 h1 hp hp h2 h3
          rw [decide_eq_true rfl] at h4
          exact h4)
        clear hsm hp h0 hbd hdec hn hnx HBJ
        refine wp_seq ?_
        refine wp_block_end (fun a' w' => FrL 107 [(9, .int .i64 (k : Int)), (5, .string (J.extract n J.size)), (0, .slice a A.length ca)] a' ∧ Keep w [] [] w') ?_ ?_
        · skip
          refine wp_seq ?_
          refine wp_region_lit ?_
          refine fr_do F (wanted_free rfl) 73 rfl (by decide) (.string J) (by intro a' F'; have h5 := F'.at' 5 _ rfl; go_simp) ?_
          clear F a9
          intro a9 F
          refine fr_call F (wanted_free rfl) 74 rfl (by decide) 29 #[.string J] (by intro a' F'; have h73 := F'.at' 73 _ rfl; go_simp) (HD.out _ HK.env) ?_
          rintro e9 w8 ⟨al, cap, rfl, hown, hb8⟩
          replace HK := HK.ownRow hb8 hown
          clear hb8 hown
          clear w9
          rename World => w9
          refine ⟨_, rfl, ?_⟩
          clear F a9
          intro a9 F
          refine fr_do F (wanted_free rfl) 72 rfl (by decide) (.tuple #[.agg (pkV p al cap), .int .i64 (n : Int), .int .i64 ((0 : Nat) : Int)]) (by intro a' F'; have h74 := F'.at' 74 _ rfl; go_simp) ?_
          clear F a9
          intro a9 F
          refine fr_do F (wanted_free rfl) 75 rfl (by decide) (.agg (pkV p al cap)) (by intro a' F'; have h72 := F'.at' 72 _ rfl; go_simp) ?_
          clear F a9
          intro a9 F
          refine fr_do F (wanted_free rfl) 76 rfl (by decide) (.int .i64 (n : Int)) (by intro a' F'; have h72 := F'.at' 72 _ rfl; go_simp) ?_
          clear F a9
          intro a9 F
          refine fr_do F (wanted_free rfl) 77 rfl (by decide) (.int .i64 ((0 : Nat) : Int)) (by intro a' F'; have h72 := F'.at' 72 _ rfl; go_simp) ?_
          clear F a9
          intro a9 F
          obtain ⟨i0, hi, hz0, hz1, hz2⟩ := info_parts infoPkR
          refine fr_new F HK 10 (by decide) rfl 27 rfl rfl rfl (.tmp 75) rfl rfl i0 _ hi hz0 (cells := (pkV p al cap)) hz1 rfl (pk_one _ _ _) (fun a' Y F' => F'.ev 75 rfl) ?_
          rintro Q a10 w10 hX F' HK' hb
          clear HK F hb hX hi hz0 hz1 hz2 i0
          clear a9 w9
          rename World => w9
          rename Act => a9
          have HK := HK'
          have F := F'
          clear HK' F'
          replace HK : Keep w [(Q, (pkV p al cap), 27)] [(al, subCells (p).subs)] w9 := HK
          refine fr_do F (wanted_free rfl) 11 rfl (by decide) (.int .i64 (n : Int)) (by intro a' F'; have h76 := F'.at' 76 _ rfl; go_simp) ?_
          clear F a9
          intro a9 F
          refine fr_do F (wanted_free rfl) 12 rfl (by decide) (.int .i64 ((0 : Nat) : Int)) (by intro a' F'; have h77 := F'.at' 77 _ rfl; go_simp) ?_
          clear F a9
          intro a9 F
          refine wpList_nil ?_
          show Code.wp _ _ _ _ _
          replace F : FrL 107 [(12, .int .i64 ((0 : Nat) : Int)), (11, .int .i64 (n : Int)), (10, .pointer (some ⟨Q, 0, none⟩)), (9, .int .i64 (k : Int)), (5, .string J), (0, .slice a A.length ca)] a9 := (((((((FrL.nil F.size F.defers).add 0 _ (F.at' 0 _ rfl)).add 5 _ (F.at' 5 _ rfl)).add 9 _ (F.at' 9 _ rfl)).add 10 _ (F.at' 10 _ rfl)).add 11 _ (F.at' 11 _ rfl)).add 12 _ (F.at' 12 _ rfl))
          refine wp_seq ?_
          refine wp_seq ?_
          refine wp_region_noPanic ?_
          have hb8 : Below w9.heap.size w9 w9.drew := below_draws (n := 1) rfl
          replace HK := HK.below hb8
          clear hb8
          refine AnyT.begin (S := fun w' => BoxAt w' Q (pkV p al cap) 27 ∧ w'.rangeAt bb (oo + k * 24) (pkC (p, pa, pc))) (z := 1000) (by kernel_rfl) ⟨HK.at 0 rfl, range_low HRG.out hbb HK.low⟩ (fun hS0 => ?_)
          clear hS0
          generalize w9.drew = w8 at *
          clear w9
          rename World => w9
          refine fr_takeG (i := 0) (o := ⟨some 78, _, _, _, _, _⟩) F ⟨HK.at 0 rfl, range_low HRG.out hbb HK.low⟩ rfl (wanted_free rfl) 78 rfl (by decide) (.int .i64 ((0 : Nat) : Int)) (fun w9 hS => (by intro a' F'; have h12 := F'.at' 12 _ rfl; go_simp)) ?_
          clear F a9
          intro a9 F
          refine fr_takeG (i := 1) (o := ⟨some 79, _, _, _, _, _⟩) F ⟨HK.at 0 rfl, range_low HRG.out hbb HK.low⟩ rfl (wanted_free rfl) 79 rfl (by decide) (.bool false) (fun w9 hS => (by intro a' F'; have h78 := F'.at' 78 _ rfl; go_simp)) ?_
          clear F a9
          intro a9 F
          refine fr_takeG (i := 2) (o := ⟨some 80, _, _, _, _, _⟩) F ⟨HK.at 0 rfl, range_low HRG.out hbb HK.low⟩ rfl (wanted_free rfl) 80 rfl (by decide) (.bool false) (fun w9 hS => (by intro a' F'; have h79 := F'.at' 79 _ rfl; go_simp)) ?_
          clear F a9
          intro a9 F
          refine fr_takeG (i := 3) (o := ⟨some 81, _, _, _, _, _⟩) F ⟨HK.at 0 rfl, range_low HRG.out hbb HK.low⟩ rfl (by rw [wanted_at F rfl (t := 80) (b := false) (by kernel_rfl) rfl]; rfl) 81 rfl (by decide) (.agg (pkV p al cap)) (fun w9 hS => (fun a' F' => run_load_box rfl (F'.ev 10 rfl) hS.1 Tryd.underlying27 rfl infoPk)) ?_
          clear F a9
          intro a9 F
          refine fr_takeG (i := 4) (o := ⟨some 82, _, _, _, _, _⟩) F ⟨HK.at 0 rfl, range_low HRG.out hbb HK.low⟩ rfl (by rw [wanted_at F rfl (t := 80) (b := false) (by kernel_rfl) rfl]; rfl) 82 rfl (by decide) (.slice a A.length ca) (fun w9 hS => (by intro a' F'; have h0 := F'.at' 0 _ rfl; go_simp)) ?_
          clear F a9
          intro a9 F
          refine fr_takeG (i := 5) (o := ⟨some 83, _, _, _, _, _⟩) F ⟨HK.at 0 rfl, range_low HRG.out hbb HK.low⟩ rfl (by rw [wanted_at F rfl (t := 80) (b := false) (by kernel_rfl) rfl]; rfl) 83 rfl (by decide) (.int .i64 (k : Int)) (fun w9 hS => (by intro a' F'; have h9 := F'.at' 9 _ rfl; go_simp)) ?_
          clear F a9
          intro a9 F
          refine fr_takeG (i := 6) (o := ⟨some 84, _, _, _, _, _⟩) F ⟨HK.at 0 rfl, range_low HRG.out hbb HK.low⟩ rfl (by rw [wanted_at F rfl (t := 80) (b := false) (by kernel_rfl) rfl]; rfl) 84 rfl (by decide) (.pointer (some ⟨bb, oo + k * 24, none⟩)) (fun w9 hS => (by intro a' F'; have h82 := F'.at' 82 _ rfl; have h83 := F'.at' 83 _ rfl; go_simp <;> first | rfl | omega | (rw [IntKind.wrap_i64]; omega) | (rw [IntKind.wrap_u8]; omega) | (intro hcon; exfalso; omega) | (rw [Bool.eq_iff_iff]; simp; omega) | (rw [decide_eq_decide]; omega) | (congr 1; omega) | (congr 2; omega) | (rw [if_pos (by omega)]; congr 4 <;> omega) | (rw [if_pos (by omega), if_pos (by omega)]; congr 4 <;> omega))) ?_
          clear F a9
          intro a9 F
          refine fr_takeG (i := 7) (o := ⟨some 85, _, _, _, _, _⟩) F ⟨HK.at 0 rfl, range_low HRG.out hbb HK.low⟩ rfl (by rw [wanted_at F rfl (t := 80) (b := false) (by kernel_rfl) rfl]; rfl) 85 rfl (by decide) (.agg (pkV p pa pc)) (fun w9 hS => (fun a' F' => run_load_midF 27 _ rfl bb (oo + k * 24) (F'.ev 84 rfl) (pkC (p, pa, pc)) _ hS.2 Tryd.underlying27 rfl (pk_size p pa pc))) ?_
          clear F a9
          intro a9 F
          refine fr_stepC (i := 8) (o := ⟨some 86, _, _, _, _, _⟩) F rfl (by rw [wanted_at F rfl (t := 80) (b := false) (by kernel_rfl) rfl]; rfl) 86 rfl (by decide) 30 #[.agg (pkV p al cap), .agg (pkV p pa pc)] (by intro a' F'; have h81 := F'.at' 81 _ rfl; have h85 := F'.at' 85 _ rfl; go_simp) (HSM.out _ _ _ HK.env (HK.rowAt 0 rfl) (HPA.out.row.below HK.low)) ?_
          rintro e9 w8 ⟨rfl, hb8⟩
          replace HK := HK.below hb8
          clear hb8
          clear w9
          rename World => w9
          refine ⟨_, rfl, ⟨HK.at 0 rfl, range_low HRG.out hbb HK.low⟩, ?_⟩
          clear F a9
          intro a9 F
          refine fr_takeG (i := 9) (o := ⟨some 87, _, _, _, _, _⟩) F ⟨HK.at 0 rfl, range_low HRG.out hbb HK.low⟩ rfl (by rw [wanted_at F rfl (t := 80) (b := false) (by kernel_rfl) rfl]; rfl) 87 rfl (by decide) (.bool false) (fun w9 hS => (by intro a' F'; have h86 := F'.at' 86 _ rfl; go_simp)) ?_
          clear F a9
          intro a9 F
          refine fr_takeG (i := 10) (o := ⟨some 88, _, _, _, _, _⟩) F ⟨HK.at 0 rfl, range_low HRG.out hbb HK.low⟩ rfl (wanted_free rfl) 88 rfl (by decide) (.bool false) (fun w9 hS => (by intro a' F'; have h80 := F'.at' 80 _ rfl; have h87 := F'.at' 87 _ rfl; go_simp)) ?_
          clear F a9
          intro a9 F
          refine fr_takeG (i := 11) (o := ⟨some 89, _, _, _, _, _⟩) F ⟨HK.at 0 rfl, range_low HRG.out hbb HK.low⟩ rfl (wanted_free rfl) 89 rfl (by decide) (.bool false) (fun w9 hS => (by intro a' F'; have h88 := F'.at' 88 _ rfl; go_simp)) ?_
          clear F a9
          intro a9 F
          refine fr_takeG (i := 12) (o := ⟨some 90, _, _, _, _, _⟩) F ⟨HK.at 0 rfl, range_low HRG.out hbb HK.low⟩ rfl (by rw [wanted_at F rfl (t := 89) (b := false) (by kernel_rfl) rfl]; rfl) 90 rfl (by decide) (.int .i64 (n : Int)) (fun w9 hS => (by intro a' F'; have h11 := F'.at' 11 _ rfl; go_simp)) ?_
          clear F a9
          intro a9 F
          refine fr_takeG (i := 13) (o := ⟨some 91, _, _, _, _, _⟩) F ⟨HK.at 0 rfl, range_low HRG.out hbb HK.low⟩ rfl (by rw [wanted_at F rfl (t := 89) (b := false) (by kernel_rfl) rfl]; rfl) 91 rfl (by decide) (.bool false) (fun w9 hS => (by intro a' F'; have h90 := F'.at' 90 _ rfl; go_simp <;> first | rfl | omega | (rw [IntKind.wrap_i64]; omega) | (rw [IntKind.wrap_u8]; omega) | (intro hcon; exfalso; omega) | (rw [Bool.eq_iff_iff]; simp; omega) | (rw [decide_eq_decide]; omega) | (congr 1; omega) | (congr 2; omega) | (rw [if_pos (by omega)]; congr 4 <;> omega) | (rw [if_pos (by omega), if_pos (by omega)]; congr 4 <;> omega))) ?_
          clear F a9
          intro a9 F
          refine fr_takeG (i := 14) (o := ⟨some 92, _, _, _, _, _⟩) F ⟨HK.at 0 rfl, range_low HRG.out hbb HK.low⟩ rfl (wanted_free rfl) 92 rfl (by decide) (.bool false) (fun w9 hS => (by intro a' F'; have h89 := F'.at' 89 _ rfl; have h91 := F'.at' 91 _ rfl; go_simp)) ?_
          clear F a9
          intro a9 F
          refine fr_takeG (i := 15) (o := ⟨some 93, _, _, _, _, _⟩) F ⟨HK.at 0 rfl, range_low HRG.out hbb HK.low⟩ rfl (wanted_free rfl) 93 rfl (by decide) (.bool false) (fun w9 hS => (by intro a' F'; have h92 := F'.at' 92 _ rfl; go_simp)) ?_
          clear F a9
          intro a9 F
          refine fr_takeG (i := 16) (o := ⟨some 94, _, _, _, _, _⟩) F ⟨HK.at 0 rfl, range_low HRG.out hbb HK.low⟩ rfl (by rw [wanted_at F rfl (t := 93) (b := false) (by kernel_rfl) rfl]; rfl) 94 rfl (by decide) (.int .i64 (n : Int)) (fun w9 hS => (by intro a' F'; have h11 := F'.at' 11 _ rfl; go_simp)) ?_
          clear F a9
          intro a9 F
          refine fr_takeG (i := 17) (o := ⟨some 95, _, _, _, _, _⟩) F ⟨HK.at 0 rfl, range_low HRG.out hbb HK.low⟩ rfl (by rw [wanted_at F rfl (t := 93) (b := false) (by kernel_rfl) rfl]; rfl) 95 rfl (by decide) (.string J) (fun w9 hS => (by intro a' F'; have h5 := F'.at' 5 _ rfl; go_simp)) ?_
          clear F a9
          intro a9 F
          refine fr_takeG (i := 18) (o := ⟨some 96, _, _, _, _, _⟩) F ⟨HK.at 0 rfl, range_low HRG.out hbb HK.low⟩ rfl (by rw [wanted_at F rfl (t := 93) (b := false) (by kernel_rfl) rfl]; rfl) 96 rfl (by decide) (.int .i64 (J.size : Int)) (fun w9 hS => (by intro a' F'; have h95 := F'.at' 95 _ rfl; go_simp)) ?_
          clear F a9
          intro a9 F
          refine fr_takeG (i := 19) (o := ⟨some 97, _, _, _, _, _⟩) F ⟨HK.at 0 rfl, range_low HRG.out hbb HK.low⟩ rfl (by rw [wanted_at F rfl (t := 93) (b := false) (by kernel_rfl) rfl]; rfl) 97 rfl (by decide) (.bool false) (fun w9 hS => (by intro a' F'; have h94 := F'.at' 94 _ rfl; have h96 := F'.at' 96 _ rfl; go_simp <;> first | rfl | omega | (rw [IntKind.wrap_i64]; omega) | (rw [IntKind.wrap_u8]; omega) | (intro hcon; exfalso; omega) | (rw [Bool.eq_iff_iff]; simp; omega) | (rw [decide_eq_decide]; omega) | (congr 1; omega) | (congr 2; omega) | (rw [if_pos (by omega)]; congr 4 <;> omega) | (rw [if_pos (by omega), if_pos (by omega)]; congr 4 <;> omega))) ?_
          clear F a9
          intro a9 F
          refine fr_takeG (i := 20) (o := ⟨some 98, _, _, _, _, _⟩) F ⟨HK.at 0 rfl, range_low HRG.out hbb HK.low⟩ rfl (wanted_free rfl) 98 rfl (by decide) (.bool false) (fun w9 hS => (by intro a' F'; have h93 := F'.at' 93 _ rfl; have h97 := F'.at' 97 _ rfl; go_simp)) ?_
          clear F a9
          intro a9 F
          refine AnyT.done (by kernel_rfl) ?_ _
          refine NoPanic.normal ?_
          show Code.wp _ _ _ _ _
          refine wp_cond_false (F.ev 98 rfl) ?_
          refine wp_skip ?_
          show Code.wp _ _ _ _ _
          replace F : FrL 107 [(11, .int .i64 (n : Int)), (9, .int .i64 (k : Int)), (5, .string J), (0, .slice a A.length ca)] a9 := (((((FrL.nil F.size F.defers).add 0 _ (F.at' 0 _ rfl)).add 5 _ (F.at' 5 _ rfl)).add 9 _ (F.at' 9 _ rfl)).add 11 _ (F.at' 11 _ rfl))
          refine wp_region_lit ?_
          refine fr_do F (wanted_free rfl) 99 rfl (by decide) (.string J) (by intro a' F'; have h5 := F'.at' 5 _ rfl; go_simp) ?_
          clear F a9
          intro a9 F
          refine fr_do F (wanted_free rfl) 100 rfl (by decide) (.int .i64 (n : Int)) (by intro a' F'; have h11 := F'.at' 11 _ rfl; go_simp) ?_
          clear F a9
          intro a9 F
          refine fr_do F (wanted_free rfl) 101 rfl (by decide) (.string (J.extract n J.size)) (by intro a' F'; have h99 := F'.at' 99 _ rfl; have h100 := F'.at' 100 _ rfl; go_simp <;> first | rfl | omega | (rw [IntKind.wrap_i64]; omega) | (rw [IntKind.wrap_u8]; omega) | (intro hcon; exfalso; omega) | (rw [Bool.eq_iff_iff]; simp; omega) | (rw [decide_eq_decide]; omega) | (congr 1; omega) | (congr 2; omega) | (rw [if_pos (by omega)]; congr 4 <;> omega) | (rw [if_pos (by omega), if_pos (by omega)]; congr 4 <;> omega)) ?_
          clear F a9
          intro a9 F
          refine fr_do F (wanted_free rfl) 5 rfl (by decide) (.string (J.extract n J.size)) (by intro a' F'; have h101 := F'.at' 101 _ rfl; go_simp) ?_
          clear F a9
          intro a9 F
          refine wpList_nil ?_
          exact ⟨((((FrL.nil F.size F.defers).add 0 _ (F.at' 0 _ rfl)).add 5 _ (F.at' 5 _ rfl)).add 9 _ (F.at' 9 _ rfl)), HK.sub (List.nil_sublist _) (by intro r hr; cases hr)⟩
        · clear HK F a9 w9
          rintro a9 w9 ⟨F, HK⟩
          show Code.wp _ _ _ _ _
          refine wp_region_lit ?_
          refine fr_do F (wanted_free rfl) 70 rfl (by decide) (.int .i64 (k : Int)) (by intro a' F'; have h9 := F'.at' 9 _ rfl; go_simp) ?_
          clear F a9
          intro a9 F
          refine fr_do F (wanted_free rfl) 71 rfl (by decide) (.int .i64 ((k + 1 : Nat) : Int)) (by intro a' F'; have h70 := F'.at' 70 _ rfl; go_simp <;> first | rfl | omega | (rw [IntKind.wrap_i64]; omega) | (rw [IntKind.wrap_u8]; omega) | (intro hcon; exfalso; omega) | (rw [Bool.eq_iff_iff]; simp; omega) | (rw [decide_eq_decide]; omega) | (congr 1; omega) | (congr 2; omega) | (rw [if_pos (by omega)]; congr 4 <;> omega) | (rw [if_pos (by omega), if_pos (by omega)]; congr 4 <;> omega)) ?_
          clear F a9
          intro a9 F
          refine fr_do F (wanted_free rfl) 9 rfl (by decide) (.int .i64 ((k + 1 : Nat) : Int)) (by intro a' F'; have h71 := F'.at' 71 _ rfl; go_simp) ?_
          clear F a9
          intro a9 F
          refine wpList_nil ?_
          replace F : FrL 107 [(9, .int .i64 ((k + 1 : Nat) : Int)), (5, .string (J.extract n J.size)), (0, .slice a A.length ca)] a9 := ((((FrL.nil F.size F.defers).add 0 _ (F.at' 0 _ rfl)).add 5 _ (F.at' 5 _ rfl)).add 9 _ (F.at' 9 _ rfl))
          refine ⟨⟨k + 1, J.extract n J.size, F, HK, by omega, HNX.out, by rw [ByteArray.size_extract]; omega⟩, ?_⟩
          rw [muI_at F 9 (k + 1) rfl]
          omega
      · have hk2 : k = A.length := by omega
        subst hk2
        refine wp_region_lit ?_
        refine fr_do F (wanted_free rfl) 66 rfl (by decide) (.int .i64 (A.length : Int)) (by intro a' F'; have h9 := F'.at' 9 _ rfl; go_simp) ?_
        clear F a9
        intro a9 F
        refine fr_do F (wanted_free rfl) 67 rfl (by decide) (.slice a A.length ca) (by intro a' F'; have h0 := F'.at' 0 _ rfl; go_simp) ?_
        clear F a9
        intro a9 F
        refine fr_do F (wanted_free rfl) 68 rfl (by decide) (.int .i64 (A.length : Int)) (by intro a' F'; have h67 := F'.at' 67 _ rfl; go_simp) ?_
        clear F a9
        intro a9 F
        refine fr_do F (wanted_free rfl) 69 rfl (by decide) (.bool false) (by intro a' F'; have h66 := F'.at' 66 _ rfl; have h68 := F'.at' 68 _ rfl; go_simp <;> first | rfl | omega | (rw [IntKind.wrap_i64]; omega) | (rw [IntKind.wrap_u8]; omega) | (intro hcon; exfalso; omega) | (rw [Bool.eq_iff_iff]; simp; omega) | (rw [decide_eq_decide]; omega) | (congr 1; omega) | (congr 2; omega) | (rw [if_pos (by omega)]; congr 4 <;> omega) | (rw [if_pos (by omega), if_pos (by omega)]; congr 4 <;> omega)) ?_
        clear F a9
        intro a9 F
        refine wpList_nil ?_
        show Code.wp _ _ _ _ _
        refine wp_cond_false (F.ev 69 rfl) ?_
        refine wp_exit ?_
        have hb := HBJ.out
        rw [List.drop_length] at hb
        have hj : J = ⟨#[]⟩ := bl_inj hb
        rw [hj] at F
        exact then_exit (then_exit (exit_in ⟨((FrL.nil F.size F.defers).add 5 _ (F.at' 5 _ rfl)), HK⟩))
    · clear HK F a9 w9 HBJ
      rintro a9 w9 ⟨F, HK⟩
      show Code.wp _ _ _ _ _
      have HF := Lib.hid (fun w9 (h1 : Env w9) => law05_fails ⟨#[]⟩ (by decide) 2 rfl w9 h1)
      refine wp_seq ?_
      refine wp_region_lit ?_
      refine fr_do F (wanted_free rfl) 102 rfl (by decide) (.string ⟨#[]⟩) (by intro a' F'; have h5 := F'.at' 5 _ rfl; go_simp) ?_
      clear F a9
      intro a9 F
      refine fr_call F (wanted_free rfl) 103 rfl (by decide) 32 #[.string ⟨#[]⟩, .int .i64 ((2 : Nat) : Int)] (by intro a' F'; have h102 := F'.at' 102 _ rfl; go_simp) (HF.out _ HK.env) ?_
      rintro e9 w8 ⟨rfl, hb8⟩
      replace HK := HK.below hb8
      clear hb8
      clear w9
      rename World => w9
      refine ⟨_, rfl, ?_⟩
      clear F a9
      intro a9 F
      refine fr_do F (wanted_free rfl) 104 rfl (by decide) (.bool true) (by intro a' F'; have h103 := F'.at' 103 _ rfl; go_simp) ?_
      clear F a9
      intro a9 F
      refine fr_call F (by rw [wanted_at F rfl (t := 104) (b := true) (by kernel_rfl) rfl]; rfl) 105 rfl (by decide) 28 #[] (by intro a' F'; go_simp) (law05_awake _ HK.env) ?_
      rintro e9 w8 ⟨rfl, hb8⟩
      replace HK := HK.below hb8
      clear hb8
      clear w9
      rename World => w9
      refine ⟨_, rfl, ?_⟩
      clear F a9
      intro a9 F
      refine fr_do F (wanted_free rfl) 106 rfl (by decide) (.bool true) (by intro a' F'; have h104 := F'.at' 104 _ rfl; have h105 := F'.at' 105 _ rfl; go_simp) ?_
      clear F a9
      intro a9 F
      refine fr_do F (wanted_free rfl) 4 rfl (by decide) (.bool true) (by intro a' F'; have h106 := F'.at' 106 _ rfl; go_simp) ?_
      clear F a9
      intro a9 F
      refine wpList_nil ?_
      show Code.wp _ _ _ _ _
      refine wp_ret ?_
      exact fr_ret1 F rfl _ rfl (FIN.out _ HK.low)
theorem law05_ReadRow (a : Option Addr) (ca : Nat) (A : List PkE) (lg : Bool) (w : World) (hE : Env w) (_ : a = none → ca = 0) (_ : A.length ≤ 9223372036854775807) (ha : CellsA w a (pkCells A)) (hA : ∀ x ∈ A, PkArg w x.1 x.2.1 x.2.2) : Calls Tryd.prog 8 #[.slice a A.length ca, .bool lg] w fun e w' => e = .returned (.bool true) ∧ Below w.heap.size w w' := by
  by_cases h : 20 < A.length
  · exact rrow_many a ca A lg w hE ha hA h
  · exact rrow_few a ca A lg w hE ha hA (by omega)
end Go.Proofs.YtcghokbcjbbbhaaDoor
