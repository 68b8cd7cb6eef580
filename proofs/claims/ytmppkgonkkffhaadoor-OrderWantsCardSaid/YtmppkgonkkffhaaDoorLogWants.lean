/- The walk of OrderWants. Conditions: the log lies where its slice is, its notes' filters in their rows. -/
import Derived.Test.YtmppkgonkkffhaaDoorJoinV
import Derived.Test.YtmppkgonkkffhaaDoorFrameT
namespace Go.Proofs.YtmppkgonkkffhaaDoor
open Go.RowKit
theorem far_cells {w w' : World} {H X n c : Nat} {xs : List Value} (h : CellsA w (some ⟨H, 0, none⟩) xs) (k : w.grownBy w' (Value.ownBlock (.slice (some ⟨X, 0, none⟩) n c))) (hne : H ≠ X) : CellsA w' (some ⟨H, 0, none⟩) xs := fun j v hv => by
  obtain ⟨b, o, e, hc⟩ := h j v hv
  refine ⟨b, o, e, ?_⟩
  injection e with e
  injection e with e1 e2
  subst e1 e2
  exact (only_grown k).cell hc (fun e => by
    have e : X = H := by simpa [Value.ownBlock] using e
    exact hne e.symm)
def muD (i : Nat) (a : Act) : Nat := match a.tmps[i]? with | some (Value.int _ z) => z.toNat | _ => 0
theorem muD_at {n : Nat} {L : List (Nat × Value)} {a : Act} (F : FrL n L a) (i k : Nat) (h : L.lookup i = some (.int .i64 (k : Int))) : muD i a = k := by
  unfold muD
  rw [F.at' i _ h]
  simp
theorem none_of {a : Option Addr} {p : Prop} [Decidable p] {k : Nat} (h : (if p then a else a.map (·.add k)) = none) : a = none := by
  split at h
  · exact h
  · exact Option.map_eq_none_iff.1 h
theorem opAt_none {o : Int} {l : List Nt} (h : ∀ (j : Nat) (x : Nt), l[j]? = some x → x.op ≠ o) : opAt o l = none := by
  unfold opAt
  rw [List.findIdx?_eq_none_iff]
  intro x hx
  obtain ⟨j, hj, e⟩ := List.getElem_of_mem hx
  exact decide_eq_false (h j x (by rw [List.getElem?_eq_getElem hj, e]))
theorem opAt_some {o : Int} {l : List Nt} {k : Nat} {n : Nt} (hk : l[k]? = some n) (hn : n.op = o) (h : ∀ (j : Nat) (x : Nt), j < k → l[j]? = some x → x.op ≠ o) : opAt o l = some k := by
  unfold opAt
  have hlt : k < l.length := by
    rcases Nat.lt_or_ge k l.length with h | h
    · exact h
    · rw [List.getElem?_eq_none h] at hk; cases hk
  rw [List.findIdx?_eq_some_iff_getElem]
  refine ⟨hlt, ?_, fun j hj => ?_⟩
  · rw [List.getElem?_eq_getElem hlt] at hk
    injection hk with hk
    rw [hk]; exact decide_eq_true hn
  · rw [decide_eq_false (h j _ hj (List.getElem?_eq_getElem (Nat.lt_trans hj hlt)))]; decide
/-- What the loop knows: the first note of an op behind a place, so far as it is looked at. -/
def NextAt (l : List Nt) (o : Int) (k i : Nat) (nx : Int) : Prop :=
  (nx = -1 ∧ ∀ (j : Nat) (x : Nt), i < j → l[j]? = some x → x.op ≠ o) ∨ (∃ (j : Nat) (x : Nt), i < j ∧ k < j ∧ l[j]? = some x ∧ x.op = o ∧ nx = (j : Int) - 1 ∧ ∀ (j' : Nat) (x' : Nt), i < j' → j' < j → l[j']? = some x' → x'.op ≠ o)
theorem next_is {l : List Nt} (h : checkL l = (-1, 0)) {k : Nat} {n : Nt} (hk : l[k]? = some n) (hn : n.kind = 1) {nx : Int} (hx : NextAt l n.op k k nx) :
    (nx = -1 ∧ checkL (l.take k ++ l.drop (k + 1)) = (-1, 0)) ∨ (0 ≤ nx ∧ checkL (l.take k ++ l.drop (k + 1)) = (nx, 2)) := by
  have ha := asks_out h hk hn
  rcases hx with ⟨h1, h2⟩ | ⟨j, x, h1, _, h3, h4, h5, h6⟩
  · refine Or.inl ⟨h1, ?_⟩
    rw [ha, opAt_none (fun j x hj => h2 (k + 1 + j) x (by omega) (by rw [List.getElem?_drop] at hj; exact hj))]
  · refine Or.inr ⟨by omega, ?_⟩
    obtain ⟨d, rfl⟩ : ∃ d, j = k + 1 + d := ⟨j - (k + 1), by omega⟩
    rw [ha, opAt_some (k := d) (n := x) (by rw [List.getElem?_drop]; exact h3) h4 (fun j' x' hj' hx' => h6 (k + 1 + j') x' (by omega) (by omega) (by rw [List.getElem?_drop] at hx'; exact hx'))]
    simp only
    rw [h5]
    congr 1
    omega
set_option maxRecDepth 100000 in
set_option maxHeartbeats 4000000 in
theorem law26_OrderWants (a : Option Addr) (c : Nat) (T : List NtE) (m : Int) (w : World) (hE : Env w) (hz : a = none → c = 0) (hlc : T.length ≤ c) (hlen : T.length ≤ 9223372036854775807) (hc : CellsA w a (ntCells T)) (ha : ∀ x ∈ T, NtArg w x) (_hm : Whole m) : Calls Tryd.prog 5 #[.slice a T.length c, .int .i64 m] w fun e w' => e = .returned (.bool true) ∧ Below w.heap.size w w' := by
  obtain ⟨RR, hRR⟩ : ∃ RR : Ending → World → Prop, RR = fun e w' => e = .returned (.bool true) ∧ Below w.heap.size w w' := ⟨_, rfl⟩
  have FIN := Lib.hid (show ∀ w', Below w.heap.size w w' → RR (.returned (.bool true)) w' from fun w' hb => by rw [hRR]; exact ⟨rfl, hb⟩)
  rw [← hRR]
  have HC := Lib.hid hc
  have HA := Lib.hid ha
  have HLC := Lib.hid (And.intro hlc hlen)
  obtain ⟨w9, hw9⟩ : ∃ w9, w9 = w := ⟨_, rfl⟩
  have HK : Keep w [] [] w9 := by rw [hw9]; exact Keep.begin hE _ (by intro r hr; cases hr)
  suffices hgo : Calls Tryd.prog 5 #[.slice a T.length c, .int .i64 m] w9 RR by rw [hw9] at hgo; exact hgo
  clear hw9 hRR hE hc ha
  have HZ := Lib.hid hz
  clear hz
  go_enter Tryd.func5, Tryd.ntmps5
  refine wp_forget (n := 134) (L := [(1, .int .i64 m), (0, .slice a T.length c)]) (FrL.add (FrL.add (FrL.nil ?_ ?_) _ _ ?_) _ _ ?_) ?_
  iterate 4 rfl
  intro a9 F
  refine wp_seq ?_
  refine wp_region_lit ?_
  refine fr_ch F 1 [(4, .bool false)] (by kernel_rfl) ?_
  clear F a9
  intro a9 F
  refine wpList_nil ?_
  show Code.wp _ _ _ _ _
  refine wp_seq ?_
  cases hb : greatNs (T.map (·.1))
  rotate_left
  · skip
    refine wp_seq ?_
    refine wp_region_lit ?_
    refine fr_ch F 1 [(14, .slice a T.length c)] (by kernel_rfl) ?_
    clear F a9
    intro a9 F
    refine fr_call F (wanted_free rfl) 15 rfl (by decide) 9 #[.slice a T.length c] (by intro a' F'; have h14 := F'.at' 14 _ rfl; go_simp) (by have h := law26_Great HK.env T a c (HC.out.below HK.low) (fun x hx => (HA.out x hx).row.below HK.low) HLC.out.1 HLC.out.2; rw [hb] at h; exact h) ?_
    rintro e9 w8 ⟨rfl, hb8⟩
    replace HK := HK.below hb8
    clear hb8
    clear w9
    rename World => w9
    refine ⟨_, rfl, ?_⟩
    clear F a9
    intro a9 F
    refine fr_mv F (wanted_free rfl) 16 rfl (by decide) 15 rfl rfl ?_
    clear F a9
    intro a9 F
    refine fr_ch F 9 [(25, .bool true), (24, undef), (23, undef), (22, undef), (21, undef), (20, .bool true), (19, .bool true), (18, undef), (17, undef)] (by kernel_rfl) ?_
    clear F a9
    intro a9 F
    refine wpList_nil ?_
    show Code.wp _ _ _ _ _
    refine wp_cond_true (F.ev 25 rfl) ?_
    refine wp_seq ?_
    refine wp_region_lit ?_
    refine fr_call F (wanted_free rfl) 26 rfl (by decide) 10 #[] (by intro a' F'; go_simp) (law26_awake HK.env) ?_
    rintro e9 w8 ⟨rfl, hb8⟩
    replace HK := HK.below hb8
    clear hb8
    clear w9
    rename World => w9
    refine ⟨_, rfl, ?_⟩
    clear F a9
    intro a9 F
    refine fr_as F (wanted_free rfl) 4 rfl (by decide) 26 rfl rfl ?_
    clear F a9
    intro a9 F
    refine wpList_nil ?_
    show Code.wp _ _ _ _ _
    refine wp_ret ?_
    exact fr_ret1 F rfl _ rfl (FIN.out _ HK.low)
  by_cases h2 : m < 0
  · skip
    refine wp_seq ?_
    refine wp_region_lit ?_
    refine fr_mv F (wanted_free rfl) 14 rfl (by decide) 0 rfl rfl ?_
    clear F a9
    intro a9 F
    refine fr_call F (wanted_free rfl) 15 rfl (by decide) 9 #[.slice a T.length c] (by intro a' F'; have h14 := F'.at' 14 _ rfl; go_simp) (by have h := law26_Great HK.env T a c (HC.out.below HK.low) (fun x hx => (HA.out x hx).row.below HK.low) HLC.out.1 HLC.out.2; rw [hb] at h; exact h) ?_
    rintro e9 w8 ⟨rfl, hb8⟩
    replace HK := HK.below hb8
    clear hb8
    clear w9
    rename World => w9
    refine ⟨_, rfl, ?_⟩
    clear F a9
    intro a9 F
    refine fr_mv F (wanted_free rfl) 16 rfl (by decide) 15 rfl rfl ?_
    clear F a9
    intro a9 F
    refine fr_mv F (by rw [wanted_at F rfl (t := 16) (b := false) (by kernel_rfl) rfl]; rfl) 17 rfl (by decide) 1 rfl rfl ?_
    clear F a9
    intro a9 F
    refine fr_do F (by rw [wanted_at F rfl (t := 16) (b := false) (by kernel_rfl) rfl]; rfl) 18 rfl (by decide) (.bool true) (by intro a' F'; have h17 := F'.at' 17 _ rfl; go_simp) ?_
    clear F a9
    intro a9 F
    refine fr_ch F 7 [(25, .bool true), (24, undef), (23, undef), (22, undef), (21, undef), (20, .bool true), (19, .bool true)] (by kernel_rfl) ?_
    clear F a9
    intro a9 F
    refine wpList_nil ?_
    show Code.wp _ _ _ _ _
    refine wp_cond_true (F.ev 25 rfl) ?_
    refine wp_seq ?_
    refine wp_region_lit ?_
    refine fr_call F (wanted_free rfl) 26 rfl (by decide) 10 #[] (by intro a' F'; go_simp) (law26_awake HK.env) ?_
    rintro e9 w8 ⟨rfl, hb8⟩
    replace HK := HK.below hb8
    clear hb8
    clear w9
    rename World => w9
    refine ⟨_, rfl, ?_⟩
    clear F a9
    intro a9 F
    refine fr_as F (wanted_free rfl) 4 rfl (by decide) 26 rfl rfl ?_
    clear F a9
    intro a9 F
    refine wpList_nil ?_
    show Code.wp _ _ _ _ _
    refine wp_ret ?_
    exact fr_ret1 F rfl _ rfl (FIN.out _ HK.low)
  by_cases h3 : (T.length : Int) ≤ m
  · skip
    refine wp_seq ?_
    refine wp_region_lit ?_
    refine fr_mv F (wanted_free rfl) 14 rfl (by decide) 0 rfl rfl ?_
    clear F a9
    intro a9 F
    refine fr_call F (wanted_free rfl) 15 rfl (by decide) 9 #[.slice a T.length c] (by intro a' F'; have h14 := F'.at' 14 _ rfl; go_simp) (by have h := law26_Great HK.env T a c (HC.out.below HK.low) (fun x hx => (HA.out x hx).row.below HK.low) HLC.out.1 HLC.out.2; rw [hb] at h; exact h) ?_
    rintro e9 w8 ⟨rfl, hb8⟩
    replace HK := HK.below hb8
    clear hb8
    clear w9
    rename World => w9
    refine ⟨_, rfl, ?_⟩
    clear F a9
    intro a9 F
    refine fr_mv F (wanted_free rfl) 16 rfl (by decide) 15 rfl rfl ?_
    clear F a9
    intro a9 F
    refine fr_mv F (by rw [wanted_at F rfl (t := 16) (b := false) (by kernel_rfl) rfl]; rfl) 17 rfl (by decide) 1 rfl rfl ?_
    clear F a9
    intro a9 F
    refine fr_do F (by rw [wanted_at F rfl (t := 16) (b := false) (by kernel_rfl) rfl]; rfl) 18 rfl (by decide) (.bool false) (by intro a' F'; have h17 := F'.at' 17 _ rfl; go_simp) ?_
    clear F a9
    intro a9 F
    refine fr_ch F 2 [(20, .bool false), (19, .bool false)] (by kernel_rfl) ?_
    clear F a9
    intro a9 F
    refine fr_mv F (by rw [wanted_at F rfl (t := 20) (b := false) (by kernel_rfl) rfl]; rfl) 21 rfl (by decide) 1 rfl rfl ?_
    clear F a9
    intro a9 F
    refine fr_mv F (by rw [wanted_at F rfl (t := 20) (b := false) (by kernel_rfl) rfl]; rfl) 22 rfl (by decide) 0 rfl rfl ?_
    clear F a9
    intro a9 F
    refine fr_ch F 1 [(23, .int .i64 (T.length : Int))] (by kernel_rfl) ?_
    clear F a9
    intro a9 F
    refine fr_do F (by rw [wanted_at F rfl (t := 20) (b := false) (by kernel_rfl) rfl]; rfl) 24 rfl (by decide) (.bool true) (by intro a' F'; have h21 := F'.at' 21 _ rfl; have h23 := F'.at' 23 _ rfl; go_simp) ?_
    clear F a9
    intro a9 F
    refine fr_ch F 1 [(25, .bool true)] (by kernel_rfl) ?_
    clear F a9
    intro a9 F
    refine wpList_nil ?_
    show Code.wp _ _ _ _ _
    refine wp_cond_true (F.ev 25 rfl) ?_
    refine wp_seq ?_
    refine wp_region_lit ?_
    refine fr_call F (wanted_free rfl) 26 rfl (by decide) 10 #[] (by intro a' F'; go_simp) (law26_awake HK.env) ?_
    rintro e9 w8 ⟨rfl, hb8⟩
    replace HK := HK.below hb8
    clear hb8
    clear w9
    rename World => w9
    refine ⟨_, rfl, ?_⟩
    clear F a9
    intro a9 F
    refine fr_as F (wanted_free rfl) 4 rfl (by decide) 26 rfl rfl ?_
    clear F a9
    intro a9 F
    refine wpList_nil ?_
    show Code.wp _ _ _ _ _
    refine wp_ret ?_
    exact fr_ret1 F rfl _ rfl (FIN.out _ HK.low)
  refine wp_seq ?_
  refine wp_region_lit ?_
  refine fr_mv F (wanted_free rfl) 14 rfl (by decide) 0 rfl rfl ?_
  clear F a9
  intro a9 F
  refine fr_call F (wanted_free rfl) 15 rfl (by decide) 9 #[.slice a T.length c] (by intro a' F'; have h14 := F'.at' 14 _ rfl; go_simp) (by have h := law26_Great HK.env T a c (HC.out.below HK.low) (fun x hx => (HA.out x hx).row.below HK.low) HLC.out.1 HLC.out.2; rw [hb] at h; exact h) ?_
  rintro e9 w8 ⟨rfl, hb8⟩
  replace HK := HK.below hb8
  clear hb8
  clear w9
  rename World => w9
  refine ⟨_, rfl, ?_⟩
  clear F a9
  intro a9 F
  refine fr_mv F (wanted_free rfl) 16 rfl (by decide) 15 rfl rfl ?_
  clear F a9
  intro a9 F
  refine fr_mv F (by rw [wanted_at F rfl (t := 16) (b := false) (by kernel_rfl) rfl]; rfl) 17 rfl (by decide) 1 rfl rfl ?_
  clear F a9
  intro a9 F
  refine fr_do F (by rw [wanted_at F rfl (t := 16) (b := false) (by kernel_rfl) rfl]; rfl) 18 rfl (by decide) (.bool false) (by intro a' F'; have h17 := F'.at' 17 _ rfl; go_simp) ?_
  clear F a9
  intro a9 F
  refine fr_ch F 2 [(20, .bool false), (19, .bool false)] (by kernel_rfl) ?_
  clear F a9
  intro a9 F
  refine fr_mv F (by rw [wanted_at F rfl (t := 20) (b := false) (by kernel_rfl) rfl]; rfl) 21 rfl (by decide) 1 rfl rfl ?_
  clear F a9
  intro a9 F
  refine fr_mv F (by rw [wanted_at F rfl (t := 20) (b := false) (by kernel_rfl) rfl]; rfl) 22 rfl (by decide) 0 rfl rfl ?_
  clear F a9
  intro a9 F
  refine fr_ch F 1 [(23, .int .i64 (T.length : Int))] (by kernel_rfl) ?_
  clear F a9
  intro a9 F
  refine fr_do F (by rw [wanted_at F rfl (t := 20) (b := false) (by kernel_rfl) rfl]; rfl) 24 rfl (by decide) (.bool false) (by intro a' F'; have h21 := F'.at' 21 _ rfl; have h23 := F'.at' 23 _ rfl; go_simp) ?_
  clear F a9
  intro a9 F
  refine fr_ch F 1 [(25, .bool false)] (by kernel_rfl) ?_
  clear F a9
  intro a9 F
  refine wpList_nil ?_
  show Code.wp _ _ _ _ _
  refine wp_cond_false (F.ev 25 rfl) ?_
  refine wp_skip ?_
  show Code.wp _ _ _ _ _
  replace F := F.cut [(4, .bool false), (1, .int .i64 m), (0, .slice a T.length c)] (by kernel_rfl)
  obtain ⟨k, rfl⟩ : ∃ k : Nat, m = (k : Int) := ⟨m.toNat, by omega⟩
  have hk : k < T.length := by omega
  clear h2 h3
  obtain ⟨hgd, hfew⟩ := goods HA.out hb
  have HG := Lib.hid hgd
  have HF := Lib.hid hfew
  clear hgd hfew
  obtain ⟨N, o0, hlog⟩ := log_at (HC.out)
  have HL := Lib.hid hlog
  clear hlog
  obtain ⟨x, hx⟩ : ∃ x, T[k]? = some x := ⟨_, List.getElem?_eq_getElem hk⟩
  obtain ⟨hal, hn⟩ := HL.out k x hx
  have HX := Lib.hid (show (T.map (·.1))[k]? = some x.1 from by rw [List.getElem?_map, hx]; rfl)
  have HX2 := Lib.hid hx
  obtain ⟨n, an, cn⟩ := x
  simp only at hn HX
  obtain ⟨q, hq⟩ : ∃ q, o0 + k * 35 = q := ⟨_, rfl⟩
  rw [hq] at hn
  have HQ := Lib.hid hq
  have HN := Lib.hid (fun w9 (h : Below w.heap.size w w9) => hn.low h)
  clear hn hx
  obtain ⟨r, hr⟩ : ∃ r, checkL (T.map (·.1)) = r := ⟨_, rfl⟩
  obtain ⟨i1, y1⟩ := r
  have HR := Lib.hid hr
  have HSP := Lib.hid (show (T.map (·.1)).length = T.length from List.length_map ..)
  have hor := checkN_spec (T.map (·.1)) (fun _ => none) (fun _ => Pn.zero) 0
  rw [show checkN (T.map (·.1)) (fun _ => none) (fun _ => Pn.zero) 0 = (i1, y1) from hr] at hor
  have HOR := Lib.hid hor
  clear hr hor
  refine wp_seq ?_
  refine wp_seq ?_
  refine wp_region_lit ?_
  refine fr_ch F 1 [(28, .slice a T.length c)] (by kernel_rfl) ?_
  clear F a9
  intro a9 F
  refine fr_call F (wanted_free rfl) 29 rfl (by decide) 11 #[.slice a T.length c] (by intro a' F'; have h28 := F'.at' 28 _ rfl; go_simp) (by have h := check_at (a := a) (m := T.length) (c := c) HK.env HK.low (HC.out.below HK.low) HG.out (by have := HF.out; omega) rfl rfl; rw [HR.out] at h; exact h) ?_
  rintro e9 w8 ⟨rfl, hb8⟩
  replace HK := HK.below hb8
  clear hb8
  clear w9
  rename World => w9
  refine ⟨_, rfl, ?_⟩
  clear F a9
  intro a9 F
  refine fr_mv F (wanted_free rfl) 27 rfl (by decide) 29 rfl rfl ?_
  clear F a9
  intro a9 F
  refine fr_ch F 4 [(6, .int .u8 (y1 : Int)), (5, .int .i64 i1), (31, .int .u8 (y1 : Int)), (30, .int .i64 i1)] (by kernel_rfl) ?_
  clear F a9
  intro a9 F
  refine wpList_nil ?_
  show Code.wp _ _ _ _ _
  replace F := F.cut [(5, .int .i64 i1), (4, .bool false), (1, .int .i64 (k : Int)), (0, .slice a T.length c)] (by kernel_rfl)
  by_cases h1 : 0 ≤ i1
  · skip
    refine wp_seq ?_
    refine wp_region_lit ?_
    refine fr_ch F 1 [(32, .int .i64 i1)] (by kernel_rfl) ?_
    clear F a9
    intro a9 F
    refine fr_do F (wanted_free rfl) 33 rfl (by decide) (.bool true) (by intro a' F'; have h32 := F'.at' 32 _ rfl; go_simp) ?_
    clear F a9
    intro a9 F
    refine fr_ch F 8 [(41, undef), (40, undef), (39, undef), (38, undef), (37, undef), (36, undef), (35, undef), (34, .bool true)] (by kernel_rfl) ?_
    clear F a9
    intro a9 F
    refine fr_left F (wanted_undef F rfl (t := 41) (by kernel_rfl) rfl) 42 rfl (by decide) ?_
    clear F a9
    intro a9 F
    refine fr_left F (wanted_undef F rfl (t := 41) (by kernel_rfl) rfl) 43 rfl (by decide) ?_
    clear F a9
    intro a9 F
    refine fr_left F (wanted_undef F rfl (t := 41) (by kernel_rfl) rfl) 44 rfl (by decide) ?_
    clear F a9
    intro a9 F
    refine fr_left F (wanted_undef F rfl (t := 41) (by kernel_rfl) rfl) 45 rfl (by decide) ?_
    clear F a9
    intro a9 F
    refine fr_left F (wanted_undef F rfl (t := 41) (by kernel_rfl) rfl) 46 rfl (by decide) ?_
    clear F a9
    intro a9 F
    refine fr_left F (wanted_undef F rfl (t := 41) (by kernel_rfl) rfl) 47 rfl (by decide) ?_
    clear F a9
    intro a9 F
    refine fr_ch F 2 [(49, .bool true), (48, undef)] (by kernel_rfl) ?_
    clear F a9
    intro a9 F
    refine wpList_nil ?_
    show Code.wp _ _ _ _ _
    refine wp_cond_true (F.ev 49 rfl) ?_
    refine wp_seq ?_
    refine wp_region_lit ?_
    refine fr_call F (wanted_free rfl) 50 rfl (by decide) 10 #[] (by intro a' F'; go_simp) (law26_awake HK.env) ?_
    rintro e9 w8 ⟨rfl, hb8⟩
    replace HK := HK.below hb8
    clear hb8
    clear w9
    rename World => w9
    refine ⟨_, rfl, ?_⟩
    clear F a9
    intro a9 F
    refine fr_as F (wanted_free rfl) 4 rfl (by decide) 50 rfl rfl ?_
    clear F a9
    intro a9 F
    refine wpList_nil ?_
    show Code.wp _ _ _ _ _
    refine wp_ret ?_
    exact fr_ret1 F rfl _ rfl (FIN.out _ HK.low)
  have he : (i1, y1) = (-1, 0) := by
    rcases HOR.out with h | ⟨j, _, h, _⟩
    · exact h
    · exfalso; simp only at h; omega
  injection he with he1 he2
  subst he1 he2
  clear h1 HOR
  by_cases h3 : n.kind = 3
  rotate_left
  · skip
    by_cases h4 : n.kind = 1
    rotate_left
    · skip
      refine wp_seq ?_
      refine wp_region_lit ?_
      refine fr_mv F (wanted_free rfl) 32 rfl (by decide) 5 rfl rfl ?_
      clear F a9
      intro a9 F
      refine fr_ch F 2 [(34, .bool false), (33, .bool false)] (by kernel_rfl) ?_
      clear F a9
      intro a9 F
      refine fr_mv F (by rw [wanted_at F rfl (t := 34) (b := false) (by kernel_rfl) rfl]; rfl) 35 rfl (by decide) 0 rfl rfl ?_
      clear F a9
      intro a9 F
      refine fr_mv F (by rw [wanted_at F rfl (t := 34) (b := false) (by kernel_rfl) rfl]; rfl) 36 rfl (by decide) 1 rfl rfl ?_
      clear F a9
      intro a9 F
      refine fr_do F (by rw [wanted_at F rfl (t := 34) (b := false) (by kernel_rfl) rfl]; rfl) 37 rfl (by decide) (.pointer (some ⟨N, q, none⟩)) (by intro a' F'; have h35 := F'.at' 35 _ rfl; have h36 := F'.at' 36 _ rfl; subst hal; have hq := HQ.out; go_simp) ?_
      clear F a9
      intro a9 F
      refine fr_ch F 1 [(38, .pointer (some ⟨N, q, none⟩))] (by kernel_rfl) ?_
      clear F a9
      intro a9 F
      refine fr_do F (by rw [wanted_at F rfl (t := 34) (b := false) (by kernel_rfl) rfl]; rfl) 39 rfl (by decide) (.int .u8 (n.kind : Int)) (by intro a' F'; have h38 := F'.at' 38 _ rfl; have hc : w9.cell? ⟨N, q, none⟩ = some (.int .u8 (n.kind : Int)) := (HN.out _ HK.low).cell 0 _ rfl; go_simp) ?_
      clear F a9
      intro a9 F
      refine fr_do F (by rw [wanted_at F rfl (t := 34) (b := false) (by kernel_rfl) rfl]; rfl) 40 rfl (by decide) (.bool true) (by intro a' F'; have h39 := F'.at' 39 _ rfl; go_simp <;> omega) ?_
      clear F a9
      intro a9 F
      refine fr_mv F (by rw [wanted_at F rfl (t := 34) (b := false) (by kernel_rfl) rfl]; rfl) 41 rfl (by decide) 40 rfl rfl ?_
      clear F a9
      intro a9 F
      refine fr_mv F (by rw [wanted_at F rfl (t := 41) (b := true) (by kernel_rfl) rfl]; rfl) 42 rfl (by decide) 0 rfl rfl ?_
      clear F a9
      intro a9 F
      refine fr_mv F (by rw [wanted_at F rfl (t := 41) (b := true) (by kernel_rfl) rfl]; rfl) 43 rfl (by decide) 1 rfl rfl ?_
      clear F a9
      intro a9 F
      refine fr_do F (by rw [wanted_at F rfl (t := 41) (b := true) (by kernel_rfl) rfl]; rfl) 44 rfl (by decide) (.pointer (some ⟨N, q, none⟩)) (by intro a' F'; have h42 := F'.at' 42 _ rfl; have h43 := F'.at' 43 _ rfl; subst hal; have hq := HQ.out; go_simp) ?_
      clear F a9
      intro a9 F
      refine fr_ch F 1 [(45, .pointer (some ⟨N, q, none⟩))] (by kernel_rfl) ?_
      clear F a9
      intro a9 F
      refine fr_do F (by rw [wanted_at F rfl (t := 41) (b := true) (by kernel_rfl) rfl]; rfl) 46 rfl (by decide) (.int .u8 (n.kind : Int)) (by intro a' F'; have h45 := F'.at' 45 _ rfl; have hc : w9.cell? ⟨N, q, none⟩ = some (.int .u8 (n.kind : Int)) := (HN.out _ HK.low).cell 0 _ rfl; go_simp) ?_
      clear F a9
      intro a9 F
      refine fr_do F (by rw [wanted_at F rfl (t := 41) (b := true) (by kernel_rfl) rfl]; rfl) 47 rfl (by decide) (.bool true) (by intro a' F'; have h46 := F'.at' 46 _ rfl; go_simp <;> omega) ?_
      clear F a9
      intro a9 F
      refine fr_ch F 2 [(49, .bool true), (48, .bool true)] (by kernel_rfl) ?_
      clear F a9
      intro a9 F
      refine wpList_nil ?_
      show Code.wp _ _ _ _ _
      refine wp_cond_true (F.ev 49 rfl) ?_
      refine wp_seq ?_
      refine wp_region_lit ?_
      refine fr_call F (wanted_free rfl) 50 rfl (by decide) 10 #[] (by intro a' F'; go_simp) (law26_awake HK.env) ?_
      rintro e9 w8 ⟨rfl, hb8⟩
      replace HK := HK.below hb8
      clear hb8
      clear w9
      rename World => w9
      refine ⟨_, rfl, ?_⟩
      clear F a9
      intro a9 F
      refine fr_as F (wanted_free rfl) 4 rfl (by decide) 50 rfl rfl ?_
      clear F a9
      intro a9 F
      refine wpList_nil ?_
      show Code.wp _ _ _ _ _
      refine wp_ret ?_
      exact fr_ret1 F rfl _ rfl (FIN.out _ HK.low)
    · skip
      refine wp_seq ?_
      refine wp_region_lit ?_
      refine fr_mv F (wanted_free rfl) 32 rfl (by decide) 5 rfl rfl ?_
      clear F a9
      intro a9 F
      refine fr_ch F 2 [(34, .bool false), (33, .bool false)] (by kernel_rfl) ?_
      clear F a9
      intro a9 F
      refine fr_mv F (by rw [wanted_at F rfl (t := 34) (b := false) (by kernel_rfl) rfl]; rfl) 35 rfl (by decide) 0 rfl rfl ?_
      clear F a9
      intro a9 F
      refine fr_mv F (by rw [wanted_at F rfl (t := 34) (b := false) (by kernel_rfl) rfl]; rfl) 36 rfl (by decide) 1 rfl rfl ?_
      clear F a9
      intro a9 F
      refine fr_do F (by rw [wanted_at F rfl (t := 34) (b := false) (by kernel_rfl) rfl]; rfl) 37 rfl (by decide) (.pointer (some ⟨N, q, none⟩)) (by intro a' F'; have h35 := F'.at' 35 _ rfl; have h36 := F'.at' 36 _ rfl; subst hal; have hq := HQ.out; go_simp) ?_
      clear F a9
      intro a9 F
      refine fr_ch F 1 [(38, .pointer (some ⟨N, q, none⟩))] (by kernel_rfl) ?_
      clear F a9
      intro a9 F
      refine fr_do F (by rw [wanted_at F rfl (t := 34) (b := false) (by kernel_rfl) rfl]; rfl) 39 rfl (by decide) (.int .u8 (n.kind : Int)) (by intro a' F'; have h38 := F'.at' 38 _ rfl; have hc : w9.cell? ⟨N, q, none⟩ = some (.int .u8 (n.kind : Int)) := (HN.out _ HK.low).cell 0 _ rfl; go_simp) ?_
      clear F a9
      intro a9 F
      refine fr_do F (by rw [wanted_at F rfl (t := 34) (b := false) (by kernel_rfl) rfl]; rfl) 40 rfl (by decide) (.bool false) (by intro a' F'; have h39 := F'.at' 39 _ rfl; go_simp) ?_
      clear F a9
      intro a9 F
      refine fr_ch F 9 [(49, .bool false), (48, .bool false), (47, undef), (46, undef), (45, undef), (44, undef), (43, undef), (42, undef), (41, .bool false)] (by kernel_rfl) ?_
      clear F a9
      intro a9 F
      refine wpList_nil ?_
      show Code.wp _ _ _ _ _
      refine wp_cond_false (F.ev 49 rfl) ?_
      refine wp_skip ?_
      show Code.wp _ _ _ _ _
      replace F := F.cut [(4, .bool false), (1, .int .i64 (k : Int)), (0, .slice a T.length c)] (by kernel_rfl)
      refine wp_seq ?_
      refine wp_seq ?_
      refine wp_region_lit ?_
      refine fr_ch F 2 [(52, .int .i64 (k : Int)), (51, .slice a T.length c)] (by kernel_rfl) ?_
      clear F a9
      intro a9 F
      refine fr_do F (wanted_free rfl) 53 rfl (by decide) (.pointer (some ⟨N, q, none⟩)) (by intro a' F'; have h51 := F'.at' 51 _ rfl; have h52 := F'.at' 52 _ rfl; subst hal; have hq := HQ.out; go_simp) ?_
      clear F a9
      intro a9 F
      refine fr_ch F 1 [(54, .pointer (some ⟨N, q, none⟩))] (by kernel_rfl) ?_
      clear F a9
      intro a9 F
      refine fr_do F (wanted_free rfl) 55 rfl (by decide) (.int .u8 (n.kind : Int)) (by intro a' F'; have h54 := F'.at' 54 _ rfl; have hc : w9.cell? ⟨N, q, none⟩ = some (.int .u8 (n.kind : Int)) := (HN.out _ HK.low).cell 0 _ rfl; go_simp) ?_
      clear F a9
      intro a9 F
      refine fr_do F (wanted_free rfl) 56 rfl (by decide) (.bool false) (by intro a' F'; have h55 := F'.at' 55 _ rfl; go_simp) ?_
      clear F a9
      intro a9 F
      refine wpList_nil ?_
      show Code.wp _ _ _ _ _
      refine wp_cond_false (F.ev 56 rfl) ?_
      refine wp_skip ?_
      show Code.wp _ _ _ _ _
      replace F := F.cut [(4, .bool false), (1, .int .i64 (k : Int)), (0, .slice a T.length c)] (by kernel_rfl)
      refine wp_seq ?_
      obtain ⟨i0, hi, hz0, hz1, hz2⟩ := info_parts infoNtR
      refine wp_region_noPanic ?_
      have hb8 : Below w9.heap.size w9 w9.drew := below_draws (n := 1) rfl
      replace HK := HK.below hb8
      clear hb8
      refine AnyT.begin (S := fun _ => True) (z := 1000) (by kernel_rfl) trivial (fun hS0 => ?_)
      clear hS0
      generalize w9.drew = w8 at *
      clear w9
      rename World => w9
      refine fr_chT F [1, 2] [(83, .int .i64 (k : Int)), (82, .slice a T.length c)] trivial (by kernel_rfl) ?_
      clear F a9
      intro a9 F
      refine fr_takeG (i := 3) (o := ⟨some 84, _, _, _, _, _⟩) F trivial rfl (wanted_free rfl) 84 rfl (by decide) (.slice (if c = 0 then a else a.map (·.add 0)) k c) (fun w9 hS => (fun a' F' => op_cutH Tryd.underlying22 hi hz1 rfl (F'.ev 82 rfl) (F'.ev 83 rfl) (by have := HLC.out.1; omega) rfl)) ?_
      clear F a9
      intro a9 F
      refine fr_chT F [5, 6] [(87, .int .i64 (k : Int)), (86, .slice a T.length c)] trivial (by kernel_rfl) ?_
      clear F a9
      intro a9 F
      refine fr_takeG (i := 7) (o := ⟨some 88, _, _, _, _, _⟩) F trivial rfl (wanted_free rfl) 88 rfl (by decide) (.int .i64 ((k + 1 : Nat) : Int)) (fun w9 hS => (by intro a' F'; have h87 := F'.at' 87 _ rfl; go_simp <;> (rw [IntKind.wrap_i64]; omega))) ?_
      clear F a9
      intro a9 F
      refine fr_takeG (i := 8) (o := ⟨some 89, _, _, _, _, _⟩) F trivial rfl (wanted_free rfl) 89 rfl (by decide) (.slice (if c = (k + 1) then a else a.map (·.add ((k + 1) * 35))) (T.length - (k + 1)) (c - (k + 1))) (fun w9 hS => (fun a' F' => op_cutL Tryd.underlying22 hi hz1 rfl (F'.ev 86 rfl) (F'.ev 88 rfl) (by omega) rfl)) ?_
      clear F a9
      intro a9 F
      obtain ⟨wA, hwA⟩ : ∃ x, w9.alloc (.cells #[] 35) = x := ⟨_, rfl⟩
      have hbA : Below w9.heap.size w9 wA := by rw [← hwA]; exact (Below.refl _ _).alloc (Nat.le_refl _) _
      have HO : wA.ownsRow w.heap.size 35 35 (.slice (some ⟨w9.heap.size, 0, none⟩) 0 0) 0 [] := by rw [← hwA]; exact own_zero HK.size
      have HKA := HK.below hbA
      refine fr_step (i := 0) (o := ⟨some 81, _, _, _, _, _⟩) F rfl rfl 81 rfl (by decide) (.slice (some ⟨w9.heap.size, 0, none⟩) 0 0) wA (fun a' F' => by rw [← hwA]; exact run_slice0 22 35 rfl i0 _ Tryd.underlying22 hi hz0) trivial ?_
      clear F a9
      intro a9 F
      clear HK hbA
      obtain ⟨Y, hY⟩ : ∃ Y, w9.heap.size = Y := ⟨_, rfl⟩
      rw [hY] at HO F
      clear hY hwA w9
      rename World => w9
      have HK := HKA
      clear HKA
      obtain ⟨v8, w8, hrun, hown, hgr⟩ := op_append (P := Tryd.prog) (w := w9) (o := ⟨_, .call { callee := .builtin .append, args := #[.tmp 81, .tmp 84], argTypes := #[22, 22] }, _, _, _, _⟩) (.tmp 81) (.tmp 84) 22 rfl w.heap.size 35 i0 _ 35 304 Tryd.underlying22 hi hz0 hz1 hz2 rfl (by decide) (.slice (some ⟨Y, 0, none⟩) 0 0) (0) ([]) HO ((if c = 0 then a else a.map (·.add 0))) (k) (c) (fun h => HZ.out (none_of h)) (ntCells (T.take k)) (by rw [ntCells_len, List.length_take]; omega) (cells_ahead (HC.out.below HK.low)) (nt_ones _) (by unfold maxLen; have := HF.out; omega) (by have := HF.out; omega) HK.size
      have HK2 := HK.grownBoxM HO (Nat.le_refl _) hgr (by intro z hz; cases hz)
      refine fr_step (i := 4) (o := ⟨some 85, _, _, _, _, _⟩) F rfl rfl 85 rfl (by decide) v8 w8 (fun a' F' => hrun _ (F'.ev 81 rfl) (F'.ev 84 rfl)) trivial ?_
      clear F a9
      intro a9 F
      clear HK HO hgr hrun
      have HK := HK2
      have HO := hown
      clear HK2 hown
      clear w9
      rename World => w9
      obtain ⟨vA, hvA⟩ : ∃ z, v8 = z := ⟨_, rfl⟩
      rw [hvA] at HO F
      clear hvA v8
      obtain ⟨v8, w8, hrun, hown, hgr⟩ := op_append (P := Tryd.prog) (w := w9) (o := ⟨_, .call { callee := .builtin .append, args := #[.tmp 85, .tmp 89], argTypes := #[22, 22] }, _, _, _, _⟩) (.tmp 85) (.tmp 89) 22 rfl w.heap.size 35 i0 _ 35 304 Tryd.underlying22 hi hz0 hz1 hz2 rfl (by decide) (vA) (0 + k) ([] ++ ntCells (T.take k)) HO ((if c = (k + 1) then a else a.map (·.add ((k + 1) * 35)))) (T.length - (k + 1)) (c - (k + 1)) (fun h => by rw [HZ.out (none_of h), Nat.zero_sub]) (ntCells (T.drop (k + 1))) (by rw [ntCells_len, List.length_drop]) (cells_rest (HC.out.below HK.low) (by omega) HLC.out.1) (nt_ones _) (by unfold maxLen; have := HF.out; omega) (by have := HF.out; omega) HK.size
      have HK2 := HK.grownBoxM HO (Nat.le_refl _) hgr (by intro z hz; cases hz)
      refine fr_step (i := 9) (o := ⟨some 90, _, _, _, _, _⟩) F rfl rfl 90 rfl (by decide) v8 w8 (fun a' F' => hrun _ (F'.ev 85 rfl) (F'.ev 89 rfl)) trivial ?_
      clear F a9
      intro a9 F
      clear HK HO hgr hrun
      have HK := HK2
      have HO := hown
      clear HK2 hown
      clear w9
      rename World => w9
      obtain ⟨vB, hvB⟩ : ∃ z, v8 = z := ⟨_, rfl⟩
      rw [hvB] at HO F
      clear hvB v8
      rw [List.nil_append, ntCells_app] at HO
      refine fr_chT F [10] [(9, vB)] trivial (by kernel_rfl) ?_
      clear F a9
      intro a9 F
      refine AnyT.done (by kernel_rfl) ?_ _
      refine NoPanic.normal ?_
      show Code.wp _ _ _ _ _
      clear hi hz0 hz1 hz2 i0
      replace F := F.cut [(9, vB), (4, .bool false), (1, .int .i64 (k : Int)), (0, .slice a T.length c)] (by kernel_rfl)
      obtain ⟨ax, cx, hvx, _, hcx⟩ := own_form HO
      subst hvx
      clear HO
      have HCX := Lib.hid (Keep.rowIn HK hcx (fun _ x hx => by cases hx))
      clear hcx HK
      have HK := HCX.out
      clear HCX
      refine wp_seq ?_
      refine wp_region_lit ?_
      refine fr_ch F 1 [(10, .int .i64 (-1))] (by kernel_rfl) ?_
      clear F a9
      intro a9 F
      refine wpList_nil ?_
      show Code.wp _ _ _ _ _
      refine wp_seq ?_
      refine wp_seq ?_
      refine wp_region_lit ?_
      refine fr_ch F 2 [(92, .int .i64 (T.length : Int))] (by kernel_rfl) ?_
      clear F a9
      intro a9 F
      refine fr_do F (wanted_free rfl) 93 rfl (by decide) (.int .i64 ((T.length : Int) - 1)) (by intro a' F'; have h92 := F'.at' 92 _ rfl; go_simp <;> (rw [IntKind.wrap_i64]; omega)) ?_
      clear F a9
      intro a9 F
      refine fr_ch F 1 [(11, .int .i64 ((T.length : Int) - 1))] (by kernel_rfl) ?_
      clear F a9
      intro a9 F
      refine wpList_nil ?_
      show Code.wp _ _ _ _ _
      replace F := F.cut [(11, .int .i64 ((T.length : Int) - 1)), (10, .int .i64 (-1)), (9, .slice ax (0 + k + (T.length - (k + 1))) cx), (4, .bool false), (1, .int .i64 (k : Int)), (0, .slice a T.length c)] (by kernel_rfl)
      refine wp_block_end (fun a' w' => ∃ nx, (∃ ii, FrL 134 [(11, .int .i64 (ii)), (10, .int .i64 nx), (9, .slice ax (0 + k + (T.length - (k + 1))) cx), (4, .bool false), (1, .int .i64 (k : Int)), (0, .slice a T.length c)] a') ∧ Keep w [] [(ax, ntCells (T.take k ++ T.drop (k + 1)))] w' ∧ NextAt (T.map (·.1)) n.op k k nx) ?_ ?_
      · skip
        refine wp_loop (fun a' w' => ∃ (nx : Int) (i : Nat), k ≤ i ∧ i < T.length ∧ FrL 134 [(11, .int .i64 ((i : Nat))), (10, .int .i64 nx), (9, .slice ax (0 + k + (T.length - (k + 1))) cx), (4, .bool false), (1, .int .i64 (k : Int)), (0, .slice a T.length c)] a' ∧ Keep w [] [(ax, ntCells (T.take k ++ T.drop (k + 1)))] w' ∧ NextAt (T.map (·.1)) n.op k i nx) (fun a' _ => muD 11 a') ⟨-1, T.length - 1, by omega, by omega, by rw [show ((T.length - 1 : Nat) : Int) = (T.length : Int) - 1 by omega]; exact F, HK, Or.inl ⟨rfl, fun j x hj hx => by rw [List.getElem?_eq_none (by rw [HSP.out]; omega)] at hx; cases hx⟩⟩ ?_
        clear F a9 HK w9
        rintro a9 w9 ⟨nx, i, hki, hil, F, HK, hnx⟩
        have HNX := Lib.hid hnx
        clear hnx
        rw [muD_at F 11 i rfl]
        refine wp_seq ?_
        refine wp_seq ?_
        by_cases hlt : k < i
        · skip
          refine wp_region_lit ?_
          refine fr_mv F (wanted_free rfl) 94 rfl (by decide) 11 rfl rfl ?_
          clear F a9
          intro a9 F
          refine fr_mv F (wanted_free rfl) 95 rfl (by decide) 1 rfl rfl ?_
          clear F a9
          intro a9 F
          refine fr_do F (wanted_free rfl) 96 rfl (by decide) (.bool true) (by intro a' F'; have h94 := F'.at' 94 _ rfl; have h95 := F'.at' 95 _ rfl; go_simp) ?_
          clear F a9
          intro a9 F
          refine wpList_nil ?_
          show Code.wp _ _ _ _ _
          refine wp_cond_true (F.ev 96 rfl) ?_
          refine wp_skip ?_
          show Code.wp _ _ _ _ _
          replace F := F.cut [(11, .int .i64 ((i : Nat) : Int)), (10, .int .i64 nx), (9, .slice ax (0 + k + (T.length - (k + 1))) cx), (4, .bool false), (1, .int .i64 (k : Int)), (0, .slice a T.length c)] (by kernel_rfl)
          obtain ⟨y, hy⟩ : ∃ y, T[i]? = some y := ⟨_, List.getElem?_eq_getElem hil⟩
          obtain ⟨hal2, hny⟩ := HL.out i y hy
          have HY := Lib.hid (show (T.map (·.1))[i]? = some y.1 from by rw [List.getElem?_map, hy]; rfl)
          obtain ⟨n2, an2, cn2⟩ := y
          simp only at hny HY
          obtain ⟨q2, hq2⟩ : ∃ q2, o0 + i * 35 = q2 := ⟨_, rfl⟩
          rw [hq2] at hny
          have HQ2 := Lib.hid hq2
          have HN2 := Lib.hid (fun w9 (h : Below w.heap.size w w9) => hny.low h)
          clear hny hy hal2 hq2
          refine wp_seq ?_
          refine wp_block_end (fun a' w' => ∃ nx', FrL 134 [(11, .int .i64 ((i : Nat))), (10, .int .i64 nx'), (9, .slice ax (0 + k + (T.length - (k + 1))) cx), (4, .bool false), (1, .int .i64 (k : Int)), (0, .slice a T.length c)] a' ∧ Keep w [] [(ax, ntCells (T.take k ++ T.drop (k + 1)))] w' ∧ ((n2.op = n.op ∧ nx' = (i : Int) - 1) ∨ (n2.op ≠ n.op ∧ nx' = nx))) ?_ ?_
          · skip
            by_cases ho : n2.op = n.op
            · skip
              refine wp_seq ?_
              refine wp_region_noPanic ?_
              have hb8 : Below w9.heap.size w9 w9.drew := below_draws (n := 1) rfl
              replace HK := HK.below hb8
              clear hb8
              refine AnyT.begin (S := fun w' => NtAt w' N q n an cn ∧ NtAt w' N q2 n2 an2 cn2) (z := 1000) (by kernel_rfl) ⟨HN.out _ HK.low, HN2.out _ HK.low⟩ (fun hS0 => ?_)
              clear hS0
              generalize w9.drew = w8 at *
              clear w9
              rename World => w9
              refine fr_chT F [0, 1] [(100, .int .i64 ((i : Nat) : Int)), (99, .slice a T.length c)] ⟨HN.out _ HK.low, HN2.out _ HK.low⟩ (by kernel_rfl) ?_
              clear F a9
              intro a9 F
              refine fr_takeG (i := 2) (o := ⟨some 101, _, _, _, _, _⟩) F ⟨HN.out _ HK.low, HN2.out _ HK.low⟩ rfl (wanted_free rfl) 101 rfl (by decide) (.pointer (some ⟨N, q2, none⟩)) (fun w9 hS => (by intro a' F'; have h99 := F'.at' 99 _ rfl; have h100 := F'.at' 100 _ rfl; subst hal; have hq := HQ2.out; go_simp)) ?_
              clear F a9
              intro a9 F
              refine fr_chT F [3] [(102, .pointer (some ⟨N, q2 + 1, none⟩))] ⟨HN.out _ HK.low, HN2.out _ HK.low⟩ (by kernel_rfl) ?_
              clear F a9
              intro a9 F
              refine fr_takeG (i := 4) (o := ⟨some 103, _, _, _, _, _⟩) F ⟨HN.out _ HK.low, HN2.out _ HK.low⟩ rfl (wanted_free rfl) 103 rfl (by decide) (.int .i64 n2.op) (fun w9 hS => (by intro a' F'; have h102 := F'.at' 102 _ rfl; have hc : w9.cell? ⟨N, q2 + 1, none⟩ = some (.int .i64 n2.op) := (hS.2).cell 1 _ rfl; go_simp)) ?_
              clear F a9
              intro a9 F
              refine fr_chT F [5, 6] [(105, .int .i64 (k : Int)), (104, .slice a T.length c)] ⟨HN.out _ HK.low, HN2.out _ HK.low⟩ (by kernel_rfl) ?_
              clear F a9
              intro a9 F
              refine fr_takeG (i := 7) (o := ⟨some 106, _, _, _, _, _⟩) F ⟨HN.out _ HK.low, HN2.out _ HK.low⟩ rfl (wanted_free rfl) 106 rfl (by decide) (.pointer (some ⟨N, q, none⟩)) (fun w9 hS => (by intro a' F'; have h104 := F'.at' 104 _ rfl; have h105 := F'.at' 105 _ rfl; subst hal; have hq := HQ.out; go_simp)) ?_
              clear F a9
              intro a9 F
              refine fr_chT F [8] [(107, .pointer (some ⟨N, q + 1, none⟩))] ⟨HN.out _ HK.low, HN2.out _ HK.low⟩ (by kernel_rfl) ?_
              clear F a9
              intro a9 F
              refine fr_takeG (i := 9) (o := ⟨some 108, _, _, _, _, _⟩) F ⟨HN.out _ HK.low, HN2.out _ HK.low⟩ rfl (wanted_free rfl) 108 rfl (by decide) (.int .i64 n.op) (fun w9 hS => (by intro a' F'; have h107 := F'.at' 107 _ rfl; have hc : w9.cell? ⟨N, q + 1, none⟩ = some (.int .i64 n.op) := (hS.1).cell 1 _ rfl; go_simp)) ?_
              clear F a9
              intro a9 F
              refine fr_takeG (i := 10) (o := ⟨some 109, _, _, _, _, _⟩) F ⟨HN.out _ HK.low, HN2.out _ HK.low⟩ rfl (wanted_free rfl) 109 rfl (by decide) (.bool true) (fun w9 hS => (by intro a' F'; have h103 := F'.at' 103 _ rfl; have h108 := F'.at' 108 _ rfl; go_simp)) ?_
              clear F a9
              intro a9 F
              refine AnyT.done (by kernel_rfl) ?_ _
              refine NoPanic.normal ?_
              show Code.wp _ _ _ _ _
              refine wp_cond_true (F.ev 109 rfl) ?_
              refine wp_region_lit ?_
              refine fr_mv F (wanted_free rfl) 110 rfl (by decide) 11 rfl rfl ?_
              clear F a9
              intro a9 F
              refine fr_do F (wanted_free rfl) 111 rfl (by decide) (.int .i64 ((i : Int) - 1)) (by intro a' F'; have h110 := F'.at' 110 _ rfl; go_simp <;> (rw [IntKind.wrap_i64]; omega)) ?_
              clear F a9
              intro a9 F
              refine fr_ch F 1 [(10, .int .i64 ((i : Int) - 1))] (by kernel_rfl) ?_
              clear F a9
              intro a9 F
              refine wpList_nil ?_
              exact ⟨_, (((((((FrL.nil F.size F.defers).add 0 _ (F.at' 0 _ rfl)).add 1 _ (F.at' 1 _ rfl)).add 4 _ (F.at' 4 _ rfl)).add 9 _ (F.at' 9 _ rfl)).add 10 _ (F.at' 10 _ rfl)).add 11 _ (F.at' 11 _ rfl)), HK, Or.inl ⟨ho, rfl⟩⟩
            · skip
              refine wp_seq ?_
              refine wp_region_noPanic ?_
              have hb8 : Below w9.heap.size w9 w9.drew := below_draws (n := 1) rfl
              replace HK := HK.below hb8
              clear hb8
              refine AnyT.begin (S := fun w' => NtAt w' N q n an cn ∧ NtAt w' N q2 n2 an2 cn2) (z := 1000) (by kernel_rfl) ⟨HN.out _ HK.low, HN2.out _ HK.low⟩ (fun hS0 => ?_)
              clear hS0
              generalize w9.drew = w8 at *
              clear w9
              rename World => w9
              refine fr_chT F [0, 1] [(100, .int .i64 ((i : Nat) : Int)), (99, .slice a T.length c)] ⟨HN.out _ HK.low, HN2.out _ HK.low⟩ (by kernel_rfl) ?_
              clear F a9
              intro a9 F
              refine fr_takeG (i := 2) (o := ⟨some 101, _, _, _, _, _⟩) F ⟨HN.out _ HK.low, HN2.out _ HK.low⟩ rfl (wanted_free rfl) 101 rfl (by decide) (.pointer (some ⟨N, q2, none⟩)) (fun w9 hS => (by intro a' F'; have h99 := F'.at' 99 _ rfl; have h100 := F'.at' 100 _ rfl; subst hal; have hq := HQ2.out; go_simp)) ?_
              clear F a9
              intro a9 F
              refine fr_chT F [3] [(102, .pointer (some ⟨N, q2 + 1, none⟩))] ⟨HN.out _ HK.low, HN2.out _ HK.low⟩ (by kernel_rfl) ?_
              clear F a9
              intro a9 F
              refine fr_takeG (i := 4) (o := ⟨some 103, _, _, _, _, _⟩) F ⟨HN.out _ HK.low, HN2.out _ HK.low⟩ rfl (wanted_free rfl) 103 rfl (by decide) (.int .i64 n2.op) (fun w9 hS => (by intro a' F'; have h102 := F'.at' 102 _ rfl; have hc : w9.cell? ⟨N, q2 + 1, none⟩ = some (.int .i64 n2.op) := (hS.2).cell 1 _ rfl; go_simp)) ?_
              clear F a9
              intro a9 F
              refine fr_chT F [5, 6] [(105, .int .i64 (k : Int)), (104, .slice a T.length c)] ⟨HN.out _ HK.low, HN2.out _ HK.low⟩ (by kernel_rfl) ?_
              clear F a9
              intro a9 F
              refine fr_takeG (i := 7) (o := ⟨some 106, _, _, _, _, _⟩) F ⟨HN.out _ HK.low, HN2.out _ HK.low⟩ rfl (wanted_free rfl) 106 rfl (by decide) (.pointer (some ⟨N, q, none⟩)) (fun w9 hS => (by intro a' F'; have h104 := F'.at' 104 _ rfl; have h105 := F'.at' 105 _ rfl; subst hal; have hq := HQ.out; go_simp)) ?_
              clear F a9
              intro a9 F
              refine fr_chT F [8] [(107, .pointer (some ⟨N, q + 1, none⟩))] ⟨HN.out _ HK.low, HN2.out _ HK.low⟩ (by kernel_rfl) ?_
              clear F a9
              intro a9 F
              refine fr_takeG (i := 9) (o := ⟨some 108, _, _, _, _, _⟩) F ⟨HN.out _ HK.low, HN2.out _ HK.low⟩ rfl (wanted_free rfl) 108 rfl (by decide) (.int .i64 n.op) (fun w9 hS => (by intro a' F'; have h107 := F'.at' 107 _ rfl; have hc : w9.cell? ⟨N, q + 1, none⟩ = some (.int .i64 n.op) := (hS.1).cell 1 _ rfl; go_simp)) ?_
              clear F a9
              intro a9 F
              refine fr_takeG (i := 10) (o := ⟨some 109, _, _, _, _, _⟩) F ⟨HN.out _ HK.low, HN2.out _ HK.low⟩ rfl (wanted_free rfl) 109 rfl (by decide) (.bool false) (fun w9 hS => (by intro a' F'; have h103 := F'.at' 103 _ rfl; have h108 := F'.at' 108 _ rfl; go_simp)) ?_
              clear F a9
              intro a9 F
              refine AnyT.done (by kernel_rfl) ?_ _
              refine NoPanic.normal ?_
              show Code.wp _ _ _ _ _
              refine wp_cond_false (F.ev 109 rfl) ?_
              refine wp_skip ?_
              exact ⟨_, (((((((FrL.nil F.size F.defers).add 0 _ (F.at' 0 _ rfl)).add 1 _ (F.at' 1 _ rfl)).add 4 _ (F.at' 4 _ rfl)).add 9 _ (F.at' 9 _ rfl)).add 10 _ (F.at' 10 _ rfl)).add 11 _ (F.at' 11 _ rfl)), HK, Or.inr ⟨ho, rfl⟩⟩
          · clear F a9 HK
            rintro a9 w8 ⟨nx', F, HK, hno⟩
            clear w9
            rename World => w9
            have HNO := Lib.hid hno
            clear hno
            show Code.wp _ _ _ _ _
            refine wp_region_lit ?_
            refine fr_mv F (wanted_free rfl) 97 rfl (by decide) 11 rfl rfl ?_
            clear F a9
            intro a9 F
            refine fr_do F (wanted_free rfl) 98 rfl (by decide) (.int .i64 ((i - 1 : Nat) : Int)) (by intro a' F'; have h97 := F'.at' 97 _ rfl; go_simp <;> (rw [IntKind.wrap_i64]; omega)) ?_
            clear F a9
            intro a9 F
            refine fr_ch F 1 [(11, .int .i64 ((i - 1 : Nat) : Int))] (by kernel_rfl) ?_
            clear F a9
            intro a9 F
            refine wpList_nil ?_
            replace F := F.cut [(11, .int .i64 (((i - 1 : Nat) : Int))), (10, .int .i64 nx'), (9, .slice ax (0 + k + (T.length - (k + 1))) cx), (4, .bool false), (1, .int .i64 (k : Int)), (0, .slice a T.length c)] (by kernel_rfl)
            refine ⟨⟨nx', i - 1, by omega, by omega, F, HK, ?_⟩, ?_⟩
            · rcases HNO.out with ⟨h1, h2⟩ | ⟨h1, h2⟩
              · exact Or.inr ⟨i, n2, by omega, hlt, HY.out, h1, h2, fun j x hj hj2 => by omega⟩
              · have hsk : ∀ (j : Nat) (x : Nt), i - 1 < j → ¬ i < j → (T.map (·.1))[j]? = some x → x.op ≠ n.op := fun j x hj hj2 hx => by
                  have e : j = i := by omega
                  rw [e, HY.out] at hx
                  injection hx with hx
                  rw [← hx]; exact h1
                rcases HNX.out with ⟨h3, h4⟩ | ⟨j, x, h3, h3b, h4, h5, h6, h7⟩
                · exact Or.inl ⟨by rw [h2]; exact h3, fun j x hj hx => by
                    by_cases h8 : i < j
                    · exact h4 j x h8 hx
                    · exact hsk j x hj h8 hx⟩
                · exact Or.inr ⟨j, x, by omega, h3b, h4, h5, by rw [h2]; exact h6, fun j' x' hj' hj2 hx' => by
                    by_cases h8 : i < j'
                    · exact h7 j' x' h8 hj2 hx'
                    · exact hsk j' x' hj' h8 hx'⟩
            · rw [muD_at F 11 (i - 1) rfl]
              omega
        · have hki2 : i = k := by omega
          subst hki2
          refine wp_region_lit ?_
          refine fr_mv F (wanted_free rfl) 94 rfl (by decide) 11 rfl rfl ?_
          clear F a9
          intro a9 F
          refine fr_mv F (wanted_free rfl) 95 rfl (by decide) 1 rfl rfl ?_
          clear F a9
          intro a9 F
          refine fr_do F (wanted_free rfl) 96 rfl (by decide) (.bool false) (by intro a' F'; have h94 := F'.at' 94 _ rfl; have h95 := F'.at' 95 _ rfl; go_simp) ?_
          clear F a9
          intro a9 F
          refine wpList_nil ?_
          show Code.wp _ _ _ _ _
          refine wp_cond_false (F.ev 96 rfl) ?_
          refine wp_exit ?_
          exact then_exit (then_exit (exit_in ⟨nx, ⟨_, (((((((FrL.nil F.size F.defers).add 0 _ (F.at' 0 _ rfl)).add 1 _ (F.at' 1 _ rfl)).add 4 _ (F.at' 4 _ rfl)).add 9 _ (F.at' 9 _ rfl)).add 10 _ (F.at' 10 _ rfl)).add 11 _ (F.at' 11 _ rfl))⟩, HK, HNX.out⟩))
      · clear F a9 HK
        rintro a9 w8 ⟨nx, ⟨ii, F⟩, HK, hnx⟩
        clear w9
        rename World => w9
        show Code.wp _ _ _ _ _
        have hend := next_is HR.out HX.out h4 hnx
        have HEND := Lib.hid hend
        clear hnx hend
        replace F := F.cut [(10, .int .i64 nx), (9, .slice ax (0 + k + (T.length - (k + 1))) cx), (4, .bool false)] (by kernel_rfl)
        by_cases hx0 : nx < 0
        · skip
          have hce : checkL ((T.map (·.1)).take k ++ (T.map (·.1)).drop (k + 1)) = (-1, 0) := by
            rcases HEND.out with ⟨_, h⟩ | ⟨h, _⟩
            · exact h
            · omega
          have HCE := Lib.hid hce
          clear hce
          refine wp_seq ?_
          refine wp_region_lit ?_
          refine fr_ch F 1 [(113, .slice ax (0 + k + (T.length - (k + 1))) cx)] (by kernel_rfl) ?_
          clear F a9
          intro a9 F
          refine fr_call F (wanted_free rfl) 114 rfl (by decide) 11 #[.slice ax (0 + k + (T.length - (k + 1))) cx] (by intro a' F'; have h113 := F'.at' 113 _ rfl; go_simp) (by have h := check_at (a := ax) (m := (0 + k + (T.length - (k + 1)))) (c := cx) (l := (T.map (·.1)).take k ++ (T.map (·.1)).drop (k + 1)) (T := (T.take k ++ T.drop (k + 1))) HK.env HK.low (HK.rowAt 0 rfl) (fun x hx => HG.out x ((List.mem_append.1 hx).elim List.mem_of_mem_take List.mem_of_mem_drop)) (by rw [List.length_append, List.length_take, List.length_drop]; have := HF.out; omega) (by rw [List.length_append, List.length_take, List.length_drop]; omega) (by rw [List.map_append, List.map_take, List.map_drop]); rw [HCE.out] at h; exact h) ?_
          rintro e9 w8 ⟨rfl, hb8⟩
          replace HK := HK.below hb8
          clear hb8
          clear w9
          rename World => w9
          refine ⟨_, rfl, ?_⟩
          clear F a9
          intro a9 F
          refine fr_mv F (wanted_free rfl) 112 rfl (by decide) 114 rfl rfl ?_
          clear F a9
          intro a9 F
          refine fr_ch F 4 [(13, .int .u8 0), (12, .int .i64 (-1)), (116, .int .u8 0), (115, .int .i64 (-1))] (by kernel_rfl) ?_
          clear F a9
          intro a9 F
          refine wpList_nil ?_
          show Code.wp _ _ _ _ _
          replace F := F.cut [(13, .int .u8 0), (12, .int .i64 (-1)), (10, .int .i64 nx), (4, .bool false)] (by kernel_rfl)
          refine wp_seq ?_
          refine wp_seq ?_
          refine wp_region_lit ?_
          refine fr_ch F 1 [(117, .int .i64 nx)] (by kernel_rfl) ?_
          clear F a9
          intro a9 F
          refine fr_do F (wanted_free rfl) 118 rfl (by decide) (.bool true) (by intro a' F'; have h117 := F'.at' 117 _ rfl; go_simp) ?_
          clear F a9
          intro a9 F
          refine wpList_nil ?_
          show Code.wp _ _ _ _ _
          refine wp_cond_true (F.ev 118 rfl) ?_
          refine wp_seq ?_
          refine wp_region_lit ?_
          refine fr_mv F (wanted_free rfl) 119 rfl (by decide) 12 rfl rfl ?_
          clear F a9
          intro a9 F
          refine fr_ch F 2 [(121, .bool true), (120, .bool true)] (by kernel_rfl) ?_
          clear F a9
          intro a9 F
          refine fr_call F (by rw [wanted_at F rfl (t := 121) (b := true) (by kernel_rfl) rfl]; rfl) 122 rfl (by decide) 10 #[] (by intro a' F'; go_simp) (law26_awake HK.env) ?_
          rintro e9 w8 ⟨rfl, hb8⟩
          replace HK := HK.below hb8
          clear hb8
          clear w9
          rename World => w9
          refine ⟨_, rfl, ?_⟩
          clear F a9
          intro a9 F
          refine fr_ch F 2 [(4, .bool true), (123, .bool true)] (by kernel_rfl) ?_
          clear F a9
          intro a9 F
          refine wpList_nil ?_
          show Code.wp _ _ _ _ _
          refine wp_ret ?_
          exact fr_ret1 F rfl _ rfl (FIN.out _ HK.low)
        · skip
          have hce : checkL ((T.map (·.1)).take k ++ (T.map (·.1)).drop (k + 1)) = (nx, 2) := by
            rcases HEND.out with ⟨h, _⟩ | ⟨_, h⟩
            · omega
            · exact h
          have HCE := Lib.hid hce
          clear hce
          refine wp_seq ?_
          refine wp_region_lit ?_
          refine fr_mv F (wanted_free rfl) 113 rfl (by decide) 9 rfl rfl ?_
          clear F a9
          intro a9 F
          refine fr_call F (wanted_free rfl) 114 rfl (by decide) 11 #[.slice ax (0 + k + (T.length - (k + 1))) cx] (by intro a' F'; have h113 := F'.at' 113 _ rfl; go_simp) (by have h := check_at (a := ax) (m := (0 + k + (T.length - (k + 1)))) (c := cx) (l := (T.map (·.1)).take k ++ (T.map (·.1)).drop (k + 1)) (T := (T.take k ++ T.drop (k + 1))) HK.env HK.low (HK.rowAt 0 rfl) (fun x hx => HG.out x ((List.mem_append.1 hx).elim List.mem_of_mem_take List.mem_of_mem_drop)) (by rw [List.length_append, List.length_take, List.length_drop]; have := HF.out; omega) (by rw [List.length_append, List.length_take, List.length_drop]; omega) (by rw [List.map_append, List.map_take, List.map_drop]); rw [HCE.out] at h; exact h) ?_
          rintro e9 w8 ⟨rfl, hb8⟩
          replace HK := HK.below hb8
          clear hb8
          clear w9
          rename World => w9
          refine ⟨_, rfl, ?_⟩
          clear F a9
          intro a9 F
          refine fr_mv F (wanted_free rfl) 112 rfl (by decide) 114 rfl rfl ?_
          clear F a9
          intro a9 F
          refine fr_ch F 4 [(13, .int .u8 2), (12, .int .i64 nx), (116, .int .u8 2), (115, .int .i64 nx)] (by kernel_rfl) ?_
          clear F a9
          intro a9 F
          refine wpList_nil ?_
          show Code.wp _ _ _ _ _
          replace F := F.cut [(13, .int .u8 2), (12, .int .i64 nx), (10, .int .i64 nx), (4, .bool false)] (by kernel_rfl)
          refine wp_seq ?_
          refine wp_seq ?_
          refine wp_region_lit ?_
          refine fr_ch F 1 [(117, .int .i64 nx)] (by kernel_rfl) ?_
          clear F a9
          intro a9 F
          refine fr_do F (wanted_free rfl) 118 rfl (by decide) (.bool false) (by intro a' F'; have h117 := F'.at' 117 _ rfl; go_simp) ?_
          clear F a9
          intro a9 F
          refine wpList_nil ?_
          show Code.wp _ _ _ _ _
          refine wp_cond_false (F.ev 118 rfl) ?_
          refine wp_skip ?_
          show Code.wp _ _ _ _ _
          refine wp_seq ?_
          refine wp_region_lit ?_
          refine fr_mv F (wanted_free rfl) 124 rfl (by decide) 12 rfl rfl ?_
          clear F a9
          intro a9 F
          refine fr_mv F (wanted_free rfl) 125 rfl (by decide) 10 rfl rfl ?_
          clear F a9
          intro a9 F
          refine fr_do F (wanted_free rfl) 126 rfl (by decide) (.bool true) (by intro a' F'; have h124 := F'.at' 124 _ rfl; have h125 := F'.at' 125 _ rfl; go_simp) ?_
          clear F a9
          intro a9 F
          refine fr_ch F 1 [(127, .bool true)] (by kernel_rfl) ?_
          clear F a9
          intro a9 F
          refine fr_mv F (by rw [wanted_at F rfl (t := 127) (b := true) (by kernel_rfl) rfl]; rfl) 128 rfl (by decide) 13 rfl rfl ?_
          clear F a9
          intro a9 F
          refine fr_ch F 3 [(131, .bool true), (130, .bool true), (129, .bool true)] (by kernel_rfl) ?_
          clear F a9
          intro a9 F
          refine fr_call F (by rw [wanted_at F rfl (t := 131) (b := true) (by kernel_rfl) rfl]; rfl) 132 rfl (by decide) 10 #[] (by intro a' F'; go_simp) (law26_awake HK.env) ?_
          rintro e9 w8 ⟨rfl, hb8⟩
          replace HK := HK.below hb8
          clear hb8
          clear w9
          rename World => w9
          refine ⟨_, rfl, ?_⟩
          clear F a9
          intro a9 F
          refine fr_ch F 2 [(4, .bool true), (133, .bool true)] (by kernel_rfl) ?_
          clear F a9
          intro a9 F
          refine wpList_nil ?_
          show Code.wp _ _ _ _ _
          refine wp_ret ?_
          exact fr_ret1 F rfl _ rfl (FIN.out _ HK.low)
  · skip
    refine wp_seq ?_
    refine wp_region_lit ?_
    refine fr_mv F (wanted_free rfl) 32 rfl (by decide) 5 rfl rfl ?_
    clear F a9
    intro a9 F
    refine fr_ch F 2 [(34, .bool false), (33, .bool false)] (by kernel_rfl) ?_
    clear F a9
    intro a9 F
    refine fr_mv F (by rw [wanted_at F rfl (t := 34) (b := false) (by kernel_rfl) rfl]; rfl) 35 rfl (by decide) 0 rfl rfl ?_
    clear F a9
    intro a9 F
    refine fr_mv F (by rw [wanted_at F rfl (t := 34) (b := false) (by kernel_rfl) rfl]; rfl) 36 rfl (by decide) 1 rfl rfl ?_
    clear F a9
    intro a9 F
    refine fr_do F (by rw [wanted_at F rfl (t := 34) (b := false) (by kernel_rfl) rfl]; rfl) 37 rfl (by decide) (.pointer (some ⟨N, q, none⟩)) (by intro a' F'; have h35 := F'.at' 35 _ rfl; have h36 := F'.at' 36 _ rfl; subst hal; have hq := HQ.out; go_simp) ?_
    clear F a9
    intro a9 F
    refine fr_ch F 1 [(38, .pointer (some ⟨N, q, none⟩))] (by kernel_rfl) ?_
    clear F a9
    intro a9 F
    refine fr_do F (by rw [wanted_at F rfl (t := 34) (b := false) (by kernel_rfl) rfl]; rfl) 39 rfl (by decide) (.int .u8 (n.kind : Int)) (by intro a' F'; have h38 := F'.at' 38 _ rfl; have hc : w9.cell? ⟨N, q, none⟩ = some (.int .u8 (n.kind : Int)) := (HN.out _ HK.low).cell 0 _ rfl; go_simp) ?_
    clear F a9
    intro a9 F
    refine fr_do F (by rw [wanted_at F rfl (t := 34) (b := false) (by kernel_rfl) rfl]; rfl) 40 rfl (by decide) (.bool true) (by intro a' F'; have h39 := F'.at' 39 _ rfl; go_simp) ?_
    clear F a9
    intro a9 F
    refine fr_ch F 1 [(41, .bool true)] (by kernel_rfl) ?_
    clear F a9
    intro a9 F
    refine fr_mv F (by rw [wanted_at F rfl (t := 41) (b := true) (by kernel_rfl) rfl]; rfl) 42 rfl (by decide) 0 rfl rfl ?_
    clear F a9
    intro a9 F
    refine fr_mv F (by rw [wanted_at F rfl (t := 41) (b := true) (by kernel_rfl) rfl]; rfl) 43 rfl (by decide) 1 rfl rfl ?_
    clear F a9
    intro a9 F
    refine fr_do F (by rw [wanted_at F rfl (t := 41) (b := true) (by kernel_rfl) rfl]; rfl) 44 rfl (by decide) (.pointer (some ⟨N, q, none⟩)) (by intro a' F'; have h42 := F'.at' 42 _ rfl; have h43 := F'.at' 43 _ rfl; subst hal; have hq := HQ.out; go_simp) ?_
    clear F a9
    intro a9 F
    refine fr_ch F 1 [(45, .pointer (some ⟨N, q, none⟩))] (by kernel_rfl) ?_
    clear F a9
    intro a9 F
    refine fr_do F (by rw [wanted_at F rfl (t := 41) (b := true) (by kernel_rfl) rfl]; rfl) 46 rfl (by decide) (.int .u8 (n.kind : Int)) (by intro a' F'; have h45 := F'.at' 45 _ rfl; have hc : w9.cell? ⟨N, q, none⟩ = some (.int .u8 (n.kind : Int)) := (HN.out _ HK.low).cell 0 _ rfl; go_simp) ?_
    clear F a9
    intro a9 F
    refine fr_do F (by rw [wanted_at F rfl (t := 41) (b := true) (by kernel_rfl) rfl]; rfl) 47 rfl (by decide) (.bool false) (by intro a' F'; have h46 := F'.at' 46 _ rfl; go_simp) ?_
    clear F a9
    intro a9 F
    refine fr_ch F 2 [(49, .bool false), (48, .bool false)] (by kernel_rfl) ?_
    clear F a9
    intro a9 F
    refine wpList_nil ?_
    show Code.wp _ _ _ _ _
    refine wp_cond_false (F.ev 49 rfl) ?_
    refine wp_skip ?_
    show Code.wp _ _ _ _ _
    replace F := F.cut [(4, .bool false), (1, .int .i64 (k : Int)), (0, .slice a T.length c)] (by kernel_rfl)
    refine wp_seq ?_
    refine wp_seq ?_
    refine wp_region_lit ?_
    refine fr_ch F 2 [(52, .int .i64 (k : Int)), (51, .slice a T.length c)] (by kernel_rfl) ?_
    clear F a9
    intro a9 F
    refine fr_do F (wanted_free rfl) 53 rfl (by decide) (.pointer (some ⟨N, q, none⟩)) (by intro a' F'; have h51 := F'.at' 51 _ rfl; have h52 := F'.at' 52 _ rfl; subst hal; have hq := HQ.out; go_simp) ?_
    clear F a9
    intro a9 F
    refine fr_ch F 1 [(54, .pointer (some ⟨N, q, none⟩))] (by kernel_rfl) ?_
    clear F a9
    intro a9 F
    refine fr_do F (wanted_free rfl) 55 rfl (by decide) (.int .u8 (n.kind : Int)) (by intro a' F'; have h54 := F'.at' 54 _ rfl; have hc : w9.cell? ⟨N, q, none⟩ = some (.int .u8 (n.kind : Int)) := (HN.out _ HK.low).cell 0 _ rfl; go_simp) ?_
    clear F a9
    intro a9 F
    refine fr_do F (wanted_free rfl) 56 rfl (by decide) (.bool true) (by intro a' F'; have h55 := F'.at' 55 _ rfl; go_simp) ?_
    clear F a9
    intro a9 F
    refine wpList_nil ?_
    show Code.wp _ _ _ _ _
    refine wp_cond_true (F.ev 56 rfl) ?_
    replace F := F.cut [(4, .bool false), (1, .int .i64 (k : Int)), (0, .slice a T.length c)] (by kernel_rfl)
    have htw := tells_twice HR.out HX.out h3
    rw [HSP.out, show T.map (·.1) ++ [n] = (T ++ [(n, an, cn)]).map (·.1) from by rw [List.map_append]; rfl] at htw
    have HTW := Lib.hid htw
    clear htw
    refine wp_seq ?_
    obtain ⟨i0, hi, hz0, hz1, hz2⟩ := info_parts infoNtR
    refine wp_region_noPanic ?_
    have hb8 : Below w9.heap.size w9 w9.drew := below_draws (n := 1) rfl
    replace HK := HK.below hb8
    clear hb8
    refine AnyT.begin (S := fun w' => NtAt w' N q n an cn) (z := 1000) (by kernel_rfl) (HN.out _ HK.low) (fun hS0 => ?_)
    clear hS0
    generalize w9.drew = w8 at *
    clear w9
    rename World => w9
    refine fr_chT F [1, 3, 4] [(62, .int .i64 (k : Int)), (61, .slice a T.length c), (59, .slice a T.length c)] (HN.out _ HK.low) (by kernel_rfl) ?_
    clear F a9
    intro a9 F
    refine fr_takeG (i := 5) (o := ⟨some 63, _, _, _, _, _⟩) F (HN.out _ HK.low) rfl (wanted_free rfl) 63 rfl (by decide) (.pointer (some ⟨N, q, none⟩)) (fun w9 hS => (by intro a' F'; have h61 := F'.at' 61 _ rfl; have h62 := F'.at' 62 _ rfl; subst hal; have hq := HQ.out; go_simp)) ?_
    clear F a9
    intro a9 F
    refine fr_takeG (i := 6) (o := ⟨some 64, _, _, _, _, _⟩) F (HN.out _ HK.low) rfl (wanted_free rfl) 64 rfl (by decide) (.agg (ntV n an cn)) (fun w9 hS => (fun a' F' => run_load_midF 35 _ rfl N q (F'.ev 63 rfl) (ntV n an cn).toList _ hS Tryd.underlying35 rfl infoNt)) ?_
    clear F a9
    intro a9 F
    obtain ⟨wA, hwA⟩ : ∃ x, w9.alloc (.cells #[] 35) = x := ⟨_, rfl⟩
    have hbA : Below w9.heap.size w9 wA := by rw [← hwA]; exact (Below.refl _ _).alloc (Nat.le_refl _) _
    have HOA : wA.ownsRow w.heap.size 35 35 (.slice (some ⟨w9.heap.size, 0, none⟩) 0 0) 0 [] := by rw [← hwA]; exact own_zero HK.size
    have HKA := HK.below hbA
    obtain ⟨wB, hwB⟩ : ∃ x, w9.alloc (.cells (ntV n an cn) 35) = x := ⟨_, rfl⟩
    have hbB : Below w9.heap.size w9 wB := by rw [← hwB]; exact (Below.refl _ _).alloc (Nat.le_refl _) _
    have HNB : CellsA wB (some ⟨w9.heap.size, 0, none⟩) (ntV n an cn).toList := by rw [← hwB]; exact cells_new
    have HKB := HK.below hbB
    refine fr_step2 (i := 0) (j := 7) (o := ⟨some 58, _, _, _, _, _⟩) (o2 := ⟨some 65, _, _, _, _, _⟩) F rfl rfl rfl rfl 58 65 rfl rfl (by decide) (by decide) (.slice (some ⟨w9.heap.size, 0, none⟩) 0 0) (.slice (some ⟨w9.heap.size, 0, none⟩) 1 1) wA wB (fun a' F' => by rw [← hwA]; exact run_slice0 22 35 rfl i0 _ Tryd.underlying22 hi hz0) (fun a' F' => by rw [← hwB]; exact run_slice1 22 35 _ rfl (ntV n an cn) (F'.ev 64 rfl) i0 _ Tryd.underlying22 hi hz0 (by rw [hz1]; decide) (by rw [hz1]; decide) (by rw [hz1]; kernel_rfl)) (HN.out _ HKA.low) (HN.out _ HKB.low) ?_ ?_
    · skip
      clear F a9
      intro a9 F
      try clear HNB HKB hbB hwB wB
      try clear HOB
      try clear HNZlt
      clear HK hbA
      obtain ⟨Y, hY⟩ : ∃ Y, w9.heap.size = Y := ⟨_, rfl⟩
      rw [hY] at HOA F
      have hYlt : Y < wA.heap.size := by rw [← hwA, ← hY]; simp
      clear hY hwA w9
      rename World => w9
      have HK := HKA
      have HO := HOA
      clear HKA HOA
      obtain ⟨v8, w8, hrun, hown, hgr⟩ := op_append (P := Tryd.prog) (w := w9) (o := ⟨_, .call { callee := .builtin .append, args := #[.tmp 58, .tmp 59], argTypes := #[22, 22] }, _, _, _, _⟩) (.tmp 58) (.tmp 59) 22 rfl w.heap.size 35 i0 _ 35 304 Tryd.underlying22 hi hz0 hz1 hz2 rfl (by decide) (.slice (some ⟨Y, 0, none⟩) 0 0) (0) ([]) HO (a) (T.length) (c) HZ.out (ntCells T) (ntCells_len T) (HC.out.below HK.low) (nt_ones _) (by unfold maxLen; have := HF.out; omega) (by have := HF.out; omega) HK.size
      have HK2 := HK.grownBoxM HO (Nat.le_refl _) hgr (by intro z hz; cases hz)
      obtain ⟨wB, hwB⟩ : ∃ x, w9.alloc (.cells (ntV n an cn) 35) = x := ⟨_, rfl⟩
      have hbB : Below w9.heap.size w9 wB := by rw [← hwB]; exact (Below.refl _ _).alloc (Nat.le_refl _) _
      have HNB : CellsA wB (some ⟨w9.heap.size, 0, none⟩) (ntV n an cn).toList := by rw [← hwB]; exact cells_new
      have HKB := HK.below hbB
      have HOB := own_only HO (Only.of_below hbB (fun _ => False)) (fun _ _ h => h)
      refine fr_step2 (i := 2) (j := 7) (o := ⟨some 60, _, _, _, _, _⟩) (o2 := ⟨some 65, _, _, _, _, _⟩) F rfl rfl rfl rfl 60 65 rfl rfl (by decide) (by decide) v8 (.slice (some ⟨w9.heap.size, 0, none⟩) 1 1) w8 wB (fun a' F' => hrun _ (F'.ev 58 rfl) (F'.ev 59 rfl)) (fun a' F' => by rw [← hwB]; exact run_slice1 22 35 _ rfl (ntV n an cn) (F'.ev 64 rfl) i0 _ Tryd.underlying22 hi hz0 (by rw [hz1]; decide) (by rw [hz1]; decide) (by rw [hz1]; kernel_rfl)) (HN.out _ HK2.low) (HN.out _ HKB.low) ?_ ?_
      · skip
        clear F a9
        intro a9 F
        try clear HNB HKB HOB hbB hwB wB
        clear HK HO hgr hrun
        have HK := HK2
        have HO := hown
        clear HK2 hown
        try clear hYlt
        try clear HNZlt
        clear w9
        rename World => w9
        obtain ⟨vA, hvA⟩ : ∃ z, v8 = z := ⟨_, rfl⟩
        rw [hvA] at HO F
        clear hvA v8
        obtain ⟨wB, hwB⟩ : ∃ x, w9.alloc (.cells (ntV n an cn) 35) = x := ⟨_, rfl⟩
        have hbB : Below w9.heap.size w9 wB := by rw [← hwB]; exact (Below.refl _ _).alloc (Nat.le_refl _) _
        have HNB : CellsA wB (some ⟨w9.heap.size, 0, none⟩) (ntV n an cn).toList := by rw [← hwB]; exact cells_new
        have HKB := HK.below hbB
        have HOB := own_only HO (Only.of_below hbB (fun _ => False)) (fun _ _ h => h)
        refine fr_step (i := 7) (o := ⟨some 65, _, _, _, _, _⟩) F rfl rfl 65 rfl (by decide) (.slice (some ⟨w9.heap.size, 0, none⟩) 1 1) wB (fun a' F' => by rw [← hwB]; exact run_slice1 22 35 _ rfl (ntV n an cn) (F'.ev 64 rfl) i0 _ Tryd.underlying22 hi hz0 (by rw [hz1]; decide) (by rw [hz1]; decide) (by rw [hz1]; kernel_rfl)) (HN.out _ HKB.low) ?_
        clear F a9
        intro a9 F
        try clear hrun hown hgr HK2 w8 v8
        try clear HOA HKA hbA hwA wA
        clear HK hbB
        clear HO
        have HO := HOB
        clear HOB
        obtain ⟨Z, hZ⟩ : ∃ Z, w9.heap.size = Z := ⟨_, rfl⟩
        rw [hZ] at HNB F
        have HNZlt : Z < wB.heap.size := by rw [← hwB, ← hZ]; simp
        clear hZ hwB
        try clear hYlt
        clear w9
        rename World => w9
        have HK := HKB
        have HNZ := HNB
        clear HKB HNB
        obtain ⟨v8, w8, hrun, hown, hgr⟩ := op_append (P := Tryd.prog) (w := w9) (o := ⟨_, .call { callee := .builtin .append, args := #[.tmp 60, .tmp 65], argTypes := #[22, 22] }, _, _, _, _⟩) (.tmp 60) (.tmp 65) 22 rfl w.heap.size 35 i0 _ 35 304 Tryd.underlying22 hi hz0 hz1 hz2 rfl (by decide) (vA) (0 + T.length) ([] ++ ntCells T) HO (some ⟨Z, 0, none⟩) (1) (1) (fun h => by cases h) (ntCells [(n, an, cn)]) (ntCells_len _) HNZ (nt_ones _) (by unfold maxLen; have := HF.out; omega) (by have := HF.out; omega) HK.size
        have HK2 := HK.grownBoxM HO (Nat.le_refl _) hgr (by intro z hz; cases hz)
        refine fr_step (i := 8) (o := ⟨some 66, _, _, _, _, _⟩) F rfl rfl 66 rfl (by decide) v8 w8 (fun a' F' => hrun _ (F'.ev 60 rfl) (F'.ev 65 rfl)) (HN.out _ HK2.low) ?_
        clear F a9
        intro a9 F
        clear HK HO HNZ hgr hrun
        try clear hYlt
        try clear HNZlt
        have HK := HK2
        clear HK2
        clear w9
        rename World => w9
        rw [List.nil_append, ntCells_app] at hown
        obtain ⟨ax, cx, hvx, _, hcx⟩ := own_form hown
        subst hvx
        clear hown
        refine fr_stepC (i := 9) (o := ⟨some 67, _, _, _, _, _⟩) F rfl (wanted_free rfl) 67 rfl (by decide) 11 #[.slice ax (0 + T.length + 1) cx] (by intro a' F'; have h66 := F'.at' 66 _ rfl; go_simp) (by have h := check_at (a := ax) (m := (0 + T.length + 1)) (c := cx) (l := (T ++ [(n, an, cn)]).map (·.1)) (T := T ++ [(n, an, cn)]) HK.env HK.low hcx (fun x hx => (List.mem_append.1 hx).elim (HG.out x) (fun h => by rw [List.mem_singleton.1 h]; exact HG.out _ (List.mem_of_getElem? HX2.out))) (by rw [List.length_append]; have := HF.out; show T.length + 1 ≤ _; omega) (by rw [List.length_append, Nat.zero_add]; rfl) rfl; rw [HTW.out] at h; exact h) ?_
        rintro e9 w8 ⟨rfl, hb8⟩
        clear hcx
        replace HK := HK.below hb8
        clear hb8
        clear w9
        rename World => w9
        refine ⟨_, rfl, (HN.out _ HK.low), ?_⟩
        clear F a9
        intro a9 F
        refine fr_chT F [10, 11, 12, 13, 14] [(8, .int .u8 2), (7, .int .i64 (T.length : Int)), (69, .int .u8 2), (68, .int .i64 (T.length : Int)), (57, .tuple #[.int .i64 (T.length : Int), .int .u8 2])] (HN.out _ HK.low) (by kernel_rfl) ?_
        clear F a9
        intro a9 F
        refine AnyT.done (by kernel_rfl) ?_ _
        refine NoPanic.normal ?_
        show Code.wp _ _ _ _ _
        replace F := F.cut [(8, .int .u8 2), (7, .int .i64 (T.length : Int)), (4, .bool false), (0, .slice a T.length c)] (by kernel_rfl)
        refine wp_seq ?_
        refine wp_region_lit ?_
        refine fr_ch F 3 [(72, .int .i64 (T.length : Int)), (71, .slice a T.length c), (70, .int .i64 (T.length : Int))] (by kernel_rfl) ?_
        clear F a9
        intro a9 F
        refine fr_do F (wanted_free rfl) 73 rfl (by decide) (.bool true) (by intro a' F'; have h70 := F'.at' 70 _ rfl; have h72 := F'.at' 72 _ rfl; go_simp) ?_
        clear F a9
        intro a9 F
        refine fr_ch F 1 [(74, .bool true)] (by kernel_rfl) ?_
        clear F a9
        intro a9 F
        refine fr_mv F (by rw [wanted_at F rfl (t := 74) (b := true) (by kernel_rfl) rfl]; rfl) 75 rfl (by decide) 8 rfl rfl ?_
        clear F a9
        intro a9 F
        refine fr_ch F 3 [(78, .bool true), (77, .bool true), (76, .bool true)] (by kernel_rfl) ?_
        clear F a9
        intro a9 F
        refine fr_call F (by rw [wanted_at F rfl (t := 78) (b := true) (by kernel_rfl) rfl]; rfl) 79 rfl (by decide) 10 #[] (by intro a' F'; go_simp) (law26_awake HK.env) ?_
        rintro e9 w8 ⟨rfl, hb8⟩
        replace HK := HK.below hb8
        clear hb8
        clear w9
        rename World => w9
        refine ⟨_, rfl, ?_⟩
        clear F a9
        intro a9 F
        refine fr_ch F 2 [(4, .bool true), (80, .bool true)] (by kernel_rfl) ?_
        clear F a9
        intro a9 F
        refine wpList_nil ?_
        show Code.wp _ _ _ _ _
        refine wp_ret ?_
        exact fr_ret1 F rfl _ rfl (FIN.out _ HK.low)
      · skip
        clear F a9
        intro a9 F
        try clear hrun hown hgr HK2 w8 v8
        have hYZ : w9.heap.size ≠ Y := by omega
        try clear HOA HKA hbA hwA wA
        clear HK hbB
        clear HO
        have HO := HOB
        clear HOB
        obtain ⟨Z, hZ⟩ : ∃ Z, w9.heap.size = Z := ⟨_, rfl⟩
        rw [hZ] at HNB F hYZ
        have HNZlt : Z < wB.heap.size := by rw [← hwB, ← hZ]; simp
        clear hZ hwB
        try clear hYlt
        clear w9
        rename World => w9
        have HK := HKB
        have HNZ := HNB
        clear HKB HNB
        obtain ⟨v8, w8, hrun, hown, hgr⟩ := op_append (P := Tryd.prog) (w := w9) (o := ⟨_, .call { callee := .builtin .append, args := #[.tmp 58, .tmp 59], argTypes := #[22, 22] }, _, _, _, _⟩) (.tmp 58) (.tmp 59) 22 rfl w.heap.size 35 i0 _ 35 304 Tryd.underlying22 hi hz0 hz1 hz2 rfl (by decide) (.slice (some ⟨Y, 0, none⟩) 0 0) (0) ([]) HO (a) (T.length) (c) HZ.out (ntCells T) (ntCells_len T) (HC.out.below HK.low) (nt_ones _) (by unfold maxLen; have := HF.out; omega) (by have := HF.out; omega) HK.size
        have HK2 := HK.grownBoxM HO (Nat.le_refl _) hgr (by intro z hz; cases hz)
        have HNZ2 := far_cells HNZ hgr hYZ
        refine fr_step (i := 2) (o := ⟨some 60, _, _, _, _, _⟩) F rfl rfl 60 rfl (by decide) v8 w8 (fun a' F' => hrun _ (F'.ev 58 rfl) (F'.ev 59 rfl)) (HN.out _ HK2.low) ?_
        clear F a9
        intro a9 F
        try clear HNB HKB HOB hbB hwB wB
        clear HK HO hgr hrun
        have HK := HK2
        have HO := hown
        clear HK2 hown
        try clear hYlt
        try clear HNZlt
        clear HNZ
        have HNZ := HNZ2
        clear HNZ2
        clear w9
        rename World => w9
        obtain ⟨vA, hvA⟩ : ∃ z, v8 = z := ⟨_, rfl⟩
        rw [hvA] at HO F
        clear hvA v8
        obtain ⟨v8, w8, hrun, hown, hgr⟩ := op_append (P := Tryd.prog) (w := w9) (o := ⟨_, .call { callee := .builtin .append, args := #[.tmp 60, .tmp 65], argTypes := #[22, 22] }, _, _, _, _⟩) (.tmp 60) (.tmp 65) 22 rfl w.heap.size 35 i0 _ 35 304 Tryd.underlying22 hi hz0 hz1 hz2 rfl (by decide) (vA) (0 + T.length) ([] ++ ntCells T) HO (some ⟨Z, 0, none⟩) (1) (1) (fun h => by cases h) (ntCells [(n, an, cn)]) (ntCells_len _) HNZ (nt_ones _) (by unfold maxLen; have := HF.out; omega) (by have := HF.out; omega) HK.size
        have HK2 := HK.grownBoxM HO (Nat.le_refl _) hgr (by intro z hz; cases hz)
        refine fr_step (i := 8) (o := ⟨some 66, _, _, _, _, _⟩) F rfl rfl 66 rfl (by decide) v8 w8 (fun a' F' => hrun _ (F'.ev 60 rfl) (F'.ev 65 rfl)) (HN.out _ HK2.low) ?_
        clear F a9
        intro a9 F
        clear HK HO HNZ hgr hrun
        try clear hYlt
        try clear HNZlt
        have HK := HK2
        clear HK2
        clear w9
        rename World => w9
        rw [List.nil_append, ntCells_app] at hown
        obtain ⟨ax, cx, hvx, _, hcx⟩ := own_form hown
        subst hvx
        clear hown
        refine fr_stepC (i := 9) (o := ⟨some 67, _, _, _, _, _⟩) F rfl (wanted_free rfl) 67 rfl (by decide) 11 #[.slice ax (0 + T.length + 1) cx] (by intro a' F'; have h66 := F'.at' 66 _ rfl; go_simp) (by have h := check_at (a := ax) (m := (0 + T.length + 1)) (c := cx) (l := (T ++ [(n, an, cn)]).map (·.1)) (T := T ++ [(n, an, cn)]) HK.env HK.low hcx (fun x hx => (List.mem_append.1 hx).elim (HG.out x) (fun h => by rw [List.mem_singleton.1 h]; exact HG.out _ (List.mem_of_getElem? HX2.out))) (by rw [List.length_append]; have := HF.out; show T.length + 1 ≤ _; omega) (by rw [List.length_append, Nat.zero_add]; rfl) rfl; rw [HTW.out] at h; exact h) ?_
        rintro e9 w8 ⟨rfl, hb8⟩
        clear hcx
        replace HK := HK.below hb8
        clear hb8
        clear w9
        rename World => w9
        refine ⟨_, rfl, (HN.out _ HK.low), ?_⟩
        clear F a9
        intro a9 F
        refine fr_chT F [10, 11, 12, 13, 14] [(8, .int .u8 2), (7, .int .i64 (T.length : Int)), (69, .int .u8 2), (68, .int .i64 (T.length : Int)), (57, .tuple #[.int .i64 (T.length : Int), .int .u8 2])] (HN.out _ HK.low) (by kernel_rfl) ?_
        clear F a9
        intro a9 F
        refine AnyT.done (by kernel_rfl) ?_ _
        refine NoPanic.normal ?_
        show Code.wp _ _ _ _ _
        replace F := F.cut [(8, .int .u8 2), (7, .int .i64 (T.length : Int)), (4, .bool false), (0, .slice a T.length c)] (by kernel_rfl)
        refine wp_seq ?_
        refine wp_region_lit ?_
        refine fr_ch F 3 [(72, .int .i64 (T.length : Int)), (71, .slice a T.length c), (70, .int .i64 (T.length : Int))] (by kernel_rfl) ?_
        clear F a9
        intro a9 F
        refine fr_do F (wanted_free rfl) 73 rfl (by decide) (.bool true) (by intro a' F'; have h70 := F'.at' 70 _ rfl; have h72 := F'.at' 72 _ rfl; go_simp) ?_
        clear F a9
        intro a9 F
        refine fr_ch F 1 [(74, .bool true)] (by kernel_rfl) ?_
        clear F a9
        intro a9 F
        refine fr_mv F (by rw [wanted_at F rfl (t := 74) (b := true) (by kernel_rfl) rfl]; rfl) 75 rfl (by decide) 8 rfl rfl ?_
        clear F a9
        intro a9 F
        refine fr_ch F 3 [(78, .bool true), (77, .bool true), (76, .bool true)] (by kernel_rfl) ?_
        clear F a9
        intro a9 F
        refine fr_call F (by rw [wanted_at F rfl (t := 78) (b := true) (by kernel_rfl) rfl]; rfl) 79 rfl (by decide) 10 #[] (by intro a' F'; go_simp) (law26_awake HK.env) ?_
        rintro e9 w8 ⟨rfl, hb8⟩
        replace HK := HK.below hb8
        clear hb8
        clear w9
        rename World => w9
        refine ⟨_, rfl, ?_⟩
        clear F a9
        intro a9 F
        refine fr_ch F 2 [(4, .bool true), (80, .bool true)] (by kernel_rfl) ?_
        clear F a9
        intro a9 F
        refine wpList_nil ?_
        show Code.wp _ _ _ _ _
        refine wp_ret ?_
        exact fr_ret1 F rfl _ rfl (FIN.out _ HK.low)
    · skip
      clear F a9
      intro a9 F
      try clear hrun hown hgr HK2 w8 v8
      try clear HOA HKA hbA hwA wA
      clear HK hbB
      obtain ⟨Z, hZ⟩ : ∃ Z, w9.heap.size = Z := ⟨_, rfl⟩
      rw [hZ] at HNB F
      have HNZlt : Z < wB.heap.size := by rw [← hwB, ← hZ]; simp
      clear hZ hwB
      try clear hYlt
      clear w9
      rename World => w9
      have HK := HKB
      have HNZ := HNB
      clear HKB HNB
      obtain ⟨wA, hwA⟩ : ∃ x, w9.alloc (.cells #[] 35) = x := ⟨_, rfl⟩
      have hbA : Below w9.heap.size w9 wA := by rw [← hwA]; exact (Below.refl _ _).alloc (Nat.le_refl _) _
      have HOA : wA.ownsRow w.heap.size 35 35 (.slice (some ⟨w9.heap.size, 0, none⟩) 0 0) 0 [] := by rw [← hwA]; exact own_zero HK.size
      have HKA := HK.below hbA
      refine fr_step (i := 0) (o := ⟨some 58, _, _, _, _, _⟩) F rfl rfl 58 rfl (by decide) (.slice (some ⟨w9.heap.size, 0, none⟩) 0 0) wA (fun a' F' => by rw [← hwA]; exact run_slice0 22 35 rfl i0 _ Tryd.underlying22 hi hz0) (HN.out _ HKA.low) ?_
      clear F a9
      intro a9 F
      have HNZ2 := HNZ.below hbA
      have hYZ : Z ≠ w9.heap.size := by have := HNZlt; omega
      try clear HNB HKB hbB hwB wB
      try clear HOB
      try clear HNZlt
      clear HK hbA
      clear HNZ
      have HNZ := HNZ2
      clear HNZ2
      obtain ⟨Y, hY⟩ : ∃ Y, w9.heap.size = Y := ⟨_, rfl⟩
      rw [hY] at HOA F hYZ
      have hYlt : Y < wA.heap.size := by rw [← hwA, ← hY]; simp
      clear hY hwA w9
      rename World => w9
      have HK := HKA
      have HO := HOA
      clear HKA HOA
      obtain ⟨v8, w8, hrun, hown, hgr⟩ := op_append (P := Tryd.prog) (w := w9) (o := ⟨_, .call { callee := .builtin .append, args := #[.tmp 58, .tmp 59], argTypes := #[22, 22] }, _, _, _, _⟩) (.tmp 58) (.tmp 59) 22 rfl w.heap.size 35 i0 _ 35 304 Tryd.underlying22 hi hz0 hz1 hz2 rfl (by decide) (.slice (some ⟨Y, 0, none⟩) 0 0) (0) ([]) HO (a) (T.length) (c) HZ.out (ntCells T) (ntCells_len T) (HC.out.below HK.low) (nt_ones _) (by unfold maxLen; have := HF.out; omega) (by have := HF.out; omega) HK.size
      have HK2 := HK.grownBoxM HO (Nat.le_refl _) hgr (by intro z hz; cases hz)
      have HNZ2 := far_cells HNZ hgr hYZ
      refine fr_step (i := 2) (o := ⟨some 60, _, _, _, _, _⟩) F rfl rfl 60 rfl (by decide) v8 w8 (fun a' F' => hrun _ (F'.ev 58 rfl) (F'.ev 59 rfl)) (HN.out _ HK2.low) ?_
      clear F a9
      intro a9 F
      try clear HNB HKB HOB hbB hwB wB
      clear HK HO hgr hrun
      have HK := HK2
      have HO := hown
      clear HK2 hown
      try clear hYlt
      try clear HNZlt
      clear HNZ
      have HNZ := HNZ2
      clear HNZ2
      clear w9
      rename World => w9
      obtain ⟨vA, hvA⟩ : ∃ z, v8 = z := ⟨_, rfl⟩
      rw [hvA] at HO F
      clear hvA v8
      obtain ⟨v8, w8, hrun, hown, hgr⟩ := op_append (P := Tryd.prog) (w := w9) (o := ⟨_, .call { callee := .builtin .append, args := #[.tmp 60, .tmp 65], argTypes := #[22, 22] }, _, _, _, _⟩) (.tmp 60) (.tmp 65) 22 rfl w.heap.size 35 i0 _ 35 304 Tryd.underlying22 hi hz0 hz1 hz2 rfl (by decide) (vA) (0 + T.length) ([] ++ ntCells T) HO (some ⟨Z, 0, none⟩) (1) (1) (fun h => by cases h) (ntCells [(n, an, cn)]) (ntCells_len _) HNZ (nt_ones _) (by unfold maxLen; have := HF.out; omega) (by have := HF.out; omega) HK.size
      have HK2 := HK.grownBoxM HO (Nat.le_refl _) hgr (by intro z hz; cases hz)
      refine fr_step (i := 8) (o := ⟨some 66, _, _, _, _, _⟩) F rfl rfl 66 rfl (by decide) v8 w8 (fun a' F' => hrun _ (F'.ev 60 rfl) (F'.ev 65 rfl)) (HN.out _ HK2.low) ?_
      clear F a9
      intro a9 F
      clear HK HO HNZ hgr hrun
      try clear hYlt
      try clear HNZlt
      have HK := HK2
      clear HK2
      clear w9
      rename World => w9
      rw [List.nil_append, ntCells_app] at hown
      obtain ⟨ax, cx, hvx, _, hcx⟩ := own_form hown
      subst hvx
      clear hown
      refine fr_stepC (i := 9) (o := ⟨some 67, _, _, _, _, _⟩) F rfl (wanted_free rfl) 67 rfl (by decide) 11 #[.slice ax (0 + T.length + 1) cx] (by intro a' F'; have h66 := F'.at' 66 _ rfl; go_simp) (by have h := check_at (a := ax) (m := (0 + T.length + 1)) (c := cx) (l := (T ++ [(n, an, cn)]).map (·.1)) (T := T ++ [(n, an, cn)]) HK.env HK.low hcx (fun x hx => (List.mem_append.1 hx).elim (HG.out x) (fun h => by rw [List.mem_singleton.1 h]; exact HG.out _ (List.mem_of_getElem? HX2.out))) (by rw [List.length_append]; have := HF.out; show T.length + 1 ≤ _; omega) (by rw [List.length_append, Nat.zero_add]; rfl) rfl; rw [HTW.out] at h; exact h) ?_
      rintro e9 w8 ⟨rfl, hb8⟩
      clear hcx
      replace HK := HK.below hb8
      clear hb8
      clear w9
      rename World => w9
      refine ⟨_, rfl, (HN.out _ HK.low), ?_⟩
      clear F a9
      intro a9 F
      refine fr_chT F [10, 11, 12, 13, 14] [(8, .int .u8 2), (7, .int .i64 (T.length : Int)), (69, .int .u8 2), (68, .int .i64 (T.length : Int)), (57, .tuple #[.int .i64 (T.length : Int), .int .u8 2])] (HN.out _ HK.low) (by kernel_rfl) ?_
      clear F a9
      intro a9 F
      refine AnyT.done (by kernel_rfl) ?_ _
      refine NoPanic.normal ?_
      show Code.wp _ _ _ _ _
      replace F := F.cut [(8, .int .u8 2), (7, .int .i64 (T.length : Int)), (4, .bool false), (0, .slice a T.length c)] (by kernel_rfl)
      refine wp_seq ?_
      refine wp_region_lit ?_
      refine fr_ch F 3 [(72, .int .i64 (T.length : Int)), (70, .int .i64 (T.length : Int))] (by kernel_rfl) ?_
      clear F a9
      intro a9 F
      refine fr_do F (wanted_free rfl) 73 rfl (by decide) (.bool true) (by intro a' F'; have h70 := F'.at' 70 _ rfl; have h72 := F'.at' 72 _ rfl; go_simp) ?_
      clear F a9
      intro a9 F
      refine fr_ch F 1 [(74, .bool true)] (by kernel_rfl) ?_
      clear F a9
      intro a9 F
      refine fr_mv F (by rw [wanted_at F rfl (t := 74) (b := true) (by kernel_rfl) rfl]; rfl) 75 rfl (by decide) 8 rfl rfl ?_
      clear F a9
      intro a9 F
      refine fr_ch F 3 [(78, .bool true), (77, .bool true), (76, .bool true)] (by kernel_rfl) ?_
      clear F a9
      intro a9 F
      refine fr_call F (by rw [wanted_at F rfl (t := 78) (b := true) (by kernel_rfl) rfl]; rfl) 79 rfl (by decide) 10 #[] (by intro a' F'; go_simp) (law26_awake HK.env) ?_
      rintro e9 w8 ⟨rfl, hb8⟩
      replace HK := HK.below hb8
      clear hb8
      clear w9
      rename World => w9
      refine ⟨_, rfl, ?_⟩
      clear F a9
      intro a9 F
      refine fr_ch F 2 [(4, .bool true), (80, .bool true)] (by kernel_rfl) ?_
      clear F a9
      intro a9 F
      refine wpList_nil ?_
      show Code.wp _ _ _ _ _
      refine wp_ret ?_
      exact fr_ret1 F rfl _ rfl (FIN.out _ HK.low)
end Go.Proofs.YtmppkgonkkffhaaDoor
