import Derived.Test.YtnnpokndajpkiaaDoorJoinW
import Derived.Test.YtnnpokndajpkiaaDoorJoinT
import Derived.Test.YtnnpokndajpkiaaDoorJoinL
import Derived.Test.YtnnpokndajpkiaaDoorJoinK
import Derived.Test.YtnnpokndajpkiaaDoorJoinM
import Derived.Test.YtnnpokndajpkiaaDoorJoinO
namespace Go.Proofs.YtnnpokndajpkiaaDoor
open Go.RowKit
def msC (m : Ms) : List Value := (msV m).toList
def msCells (Q : List Ms) : List Value := Q.flatMap msC
theorem msC_len (m : Ms) : (msC m).length = 4 := rfl
theorem row_at {w : World} {a : Option Addr} {α : Type} {g : α → List Value} {m : Nat} (hg : ∀ x, (g x).length = m) (hm : 0 < m) {L : List α} (h : CellsA w a (L.flatMap g)) : ∃ b o, ∀ i x, L[i]? = some x → a = some ⟨b, o, none⟩ ∧ w.rangeAt b (o + i * m) (g x) := by
  cases L with
  | nil => exact ⟨0, 0, fun i x h => by simp at h⟩
  | cons x0 T =>
    have g0 : ∀ x, ∃ u, (g x)[0]? = some u := fun x => ⟨_, List.getElem?_eq_getElem (by rw [hg]; exact hm)⟩
    obtain ⟨u0, hu0⟩ := g0 x0; obtain ⟨b, o, ha, _⟩ := CellsA.elem hg h (i := 0) rfl u0 hu0; refine ⟨b, o, fun i x hx => ⟨ha, ?_⟩⟩; obtain ⟨u, hu⟩ := g0 x; obtain ⟨b', o', ha', hc⟩ := CellsA.elem hg h hx u hu; rw [ha] at ha'; injection ha' with e
    injection e with e1 e2
    subst e1 e2; exact fun j v hv => hc j v hv
structure KpAt (w : World) (B K : Nat) (vk : Value) (Q : List Ms) : Prop where
  box : BoxAt w K #[vk] 103
  own : w.ownsRow B 37 4 vk Q.length (msCells Q)
  lo : B ≤ K
theorem KpAt.below {w w' : World} {B K : Nat} {vk : Value} {Q : List Ms} (h : KpAt w B K vk Q) (k : Below w.heap.size w w') : KpAt w' B K vk Q :=
  ⟨h.box.below k, own_only h.own (Only.of_below k (fun _ => False)) (fun _ _ h => h), h.lo⟩
set_option maxRecDepth 100000 in
set_option maxHeartbeats 4000000 in
theorem ref10_May (m : Ms) {w : World} (hE : Env w) (hs : m.topic.size < 4294967281) : Calls Tryd.prog 71 #[.agg (msV m)] w fun e w' => e = .returned (.bool (mayM m)) ∧ Below w.heap.size w w' := by
  obtain ⟨RR, hRR⟩ : ∃ RR : Ending → World → Prop, RR = fun e w' => e = .returned (.bool (mayM m)) ∧ Below w.heap.size w w' := ⟨_, rfl⟩
  have FIN := Lib.hid (show ∀ b w', b = mayM m → Below w.heap.size w w' → RR (.returned (.bool b)) w' from fun b w' h1 hb => by rw [hRR, h1]; exact ⟨rfl, hb⟩); rw [← hRR]; obtain ⟨w9, hw9⟩ : ∃ w9, w9 = w := ⟨_, rfl⟩
  have HK : Keep w [] [] w9 := by rw [hw9]; exact Keep.begin hE _ (by intro r hr; cases hr)
  suffices hgo : Calls Tryd.prog 71 #[.agg (msV m)] w9 RR by rw [hw9] at hgo; exact hgo
  clear hw9 hRR hE; go_enter Tryd.func71, Tryd.ntmps71
  refine wp_forget (n := 11) (L := [(0, .agg (msV m))]) (FrL.add (FrL.nil ?_ ?_) _ _ ?_) ?_; iterate 3 rfl
  intro a9 F; refine xR ?_; refine fr_box F HK 1 (by decide) rfl 37 _ rfl rfl (msV m) (fun a' F' => F'.ev 0 rfl) ?_; rintro X a10 w10 hX F' HK' hb; clear HK F hb hX; clear a9 w9; rename World => w9
  rename Act => a9
  have HK := HK'; have F := F'; clear HK' F'; replace HK : Keep w [(X, (msV m), 37)] [] w9 := HK; refine fr_do F (wanted_free rfl) 2 rfl (by decide) (.bool false) (by intro a' F'; go_simp) ?_; clear F a9; intro a9 F; refine xW ?_; obtain ⟨nb, hnb⟩ : ∃ nb, nameL (bl m.topic) = nb := ⟨_, rfl⟩
  have HNB := Lib.hid hnb; clear hnb; cases nb
  ·
   refine xR ?_; refine xP F (kO [⟨X, 0, (msV m).toList⟩] ⟨(HK.at 0 rfl).range, trivial⟩) [.c, .l 0 0] [(4, .string m.topic), (2, .bool false), (1, pQ X 0)] ?_; clear F a9; intro a9 F; refine fr_call F (wanted_free rfl) 5 rfl (by decide) 100 #[.string m.topic] (by intro a' F'; have h4 := F'.at' 4 _ rfl; go_simp) (by have h := ref07_Name m.topic w9 hs; rw [HNB.out] at h; exact h) ?_; rintro e9 w8 ⟨rfl, hb8⟩; replace HK := HK.below hb8; clear hb8; clear w9; rename World => w9
   refine ⟨_, rfl, ?_⟩; clear F a9; intro a9 F; refine xE F k0 (xC 6 []) [(2, .bool false)] ?_; clear F a9; intro a9 F; refine wp_ret ?_; exact fr_ret1 F rfl _ rfl (FIN.out _ _ (by unfold mayM; rw [HNB.out]; rfl) HK.low)
  by_cases h2 : m.qos ≤ 2
  ·
   refine xR ?_; refine xP F (kO [⟨X, 0, (msV m).toList⟩] ⟨(HK.at 0 rfl).range, trivial⟩) [.c, .l 0 0] [(4, .string m.topic), (2, .bool false), (1, pQ X 0)] ?_; clear F a9; intro a9 F; refine fr_call F (wanted_free rfl) 5 rfl (by decide) 100 #[.string m.topic] (by intro a' F'; have h4 := F'.at' 4 _ rfl; go_simp) (by have h := ref07_Name m.topic w9 hs; rw [HNB.out] at h; exact h) ?_; rintro e9 w8 ⟨rfl, hb8⟩; replace HK := HK.below hb8; clear hb8; clear w9; rename World => w9
   refine ⟨_, rfl, ?_⟩; clear F a9; intro a9 F; refine xE F (kOF [⟨X, 0, (msV m).toList⟩] ⟨(HK.at 0 rfl).range, trivial⟩ [(.bool (decide ((((m.qos : Int)) : Int) ≤ 2)), .bool true)] ⟨dcT (by omega), trivial⟩) [.c, .c, .l 0 2, .f 0, .c, .c] [(2, .bool true)] ?_; clear F a9; intro a9 F; refine wp_ret ?_; exact fr_ret1 F rfl _ rfl (FIN.out _ _ (by unfold mayM; rw [HNB.out, decide_eq_true h2]; rfl) HK.low)
  ·
   refine xR ?_; refine xP F (kO [⟨X, 0, (msV m).toList⟩] ⟨(HK.at 0 rfl).range, trivial⟩) [.c, .l 0 0] [(4, .string m.topic), (2, .bool false), (1, pQ X 0)] ?_; clear F a9; intro a9 F; refine fr_call F (wanted_free rfl) 5 rfl (by decide) 100 #[.string m.topic] (by intro a' F'; have h4 := F'.at' 4 _ rfl; go_simp) (by have h := ref07_Name m.topic w9 hs; rw [HNB.out] at h; exact h) ?_; rintro e9 w8 ⟨rfl, hb8⟩; replace HK := HK.below hb8; clear hb8; clear w9; rename World => w9
   refine ⟨_, rfl, ?_⟩; clear F a9; intro a9 F; refine xE F (kOF [⟨X, 0, (msV m).toList⟩] ⟨(HK.at 0 rfl).range, trivial⟩ [(.bool (decide ((((m.qos : Int)) : Int) ≤ 2)), .bool false)] ⟨dcF (by omega), trivial⟩) [.c, .c, .l 0 2, .f 0, .c, .c] [(2, .bool false)] ?_; clear F a9; intro a9 F; refine wp_ret ?_; exact fr_ret1 F rfl _ rfl (FIN.out _ _ (by unfold mayM; rw [HNB.out, decide_eq_false h2]; rfl) HK.low)
theorem range_below {w w' : World} {b o : Nat} {cs : List Value} (h : w.rangeAt b o cs) (k : Below w.heap.size w w') : w'.rangeAt b o cs := fun j v hv => (k.cell (p := ⟨b, o + j, none⟩) (World.block_lt_of_cell? _ _ (h j v hv))).trans (h j v hv)
theorem own_size1 {w : World} {B n m : Nat} {e : TypeId} {v : Value} {xs : List Value} (h : w.ownsRow B e m v n xs) : v.cells.size = 1 := by
  rcases h.2 with ⟨rfl, _⟩ | ⟨g, cap, cur, rfl, _⟩ <;> rfl
theorem own_one1 {w : World} {B n m : Nat} {e : TypeId} {v : Value} {xs : List Value} (h : w.ownsRow B e m v n xs) : v.cells.all (·.oneCell') = true := by
  rcases h.2 with ⟨rfl, _⟩ | ⟨g, cap, cur, rfl, _⟩ <;> simp [Value.cells, Value.oneCell']
theorem own_set1 {w : World} {B n m : Nat} {e : TypeId} {v : Value} {xs : List Value} (h : w.ownsRow B e m v n xs) (x : Value) : setMany #[x] 0 v.cells.toList = #[v] := by
  rcases h.2 with ⟨rfl, _⟩ | ⟨g, cap, cur, rfl, _⟩ <;> rfl
theorem own_weak {w : World} {B B' n m : Nat} {e : TypeId} {v : Value} {xs : List Value} (h : w.ownsRow B e m v n xs) (hB : B' ≤ B) : w.ownsRow B' e m v n xs := by
  refine ⟨h.1, ?_⟩; rcases h.2 with h2 | ⟨g, cap, cur, h1, h2, h3⟩
  · exact Or.inl h2
  · exact Or.inr ⟨g, cap, cur, h1, Nat.le_trans hB h2, h3⟩
set_option maxRecDepth 100000 in
set_option maxHeartbeats 4000000 in
theorem ref10_Set {w0 w : World} (HK0 : Keep w0 [] [] w) {K : Nat} {vk : Value} {Q : List Ms} (hk : KpAt w w0.heap.size K vk Q) (HQ : Q.length ≤ 10000) (m : Ms) (hs : m.topic.size < 4294967281) : Calls Tryd.prog 55 #[.pointer (some ⟨K, 0, none⟩), .agg (msV m)] w fun e w' => ∃ vk' Q', e = .returned (.bool (mayM m)) ∧ KpAt w' w0.heap.size K vk' Q' ∧ Q'.length ≤ Q.length + 1 ∧ Keep w0 [] [] w' ∧ Only (fun j => j = K) w w' := by
  have hE := HK0.env; obtain ⟨RR, hRR⟩ : ∃ RR : Ending → World → Prop, RR = fun e w' => ∃ vk' Q', e = .returned (.bool (mayM m)) ∧ KpAt w' w0.heap.size K vk' Q' ∧ Q'.length ≤ Q.length + 1 ∧ Keep w0 [] [] w' ∧ Only (fun j => j = K) w w' := ⟨_, rfl⟩
  have FIN := Lib.hid (show ∀ b vk' Q' w', b = mayM m → KpAt w' w0.heap.size K vk' Q' → Q'.length ≤ Q.length + 1 → Keep w0 [] [] w' → Only (fun j => j = K) w w' → RR (.returned (.bool b)) w' from fun b vk' Q' w' h1 h2 h3 h4 h5 => by rw [hRR, h1]; exact ⟨vk', Q', rfl, h2, h3, h4, h5⟩); rw [← hRR]; have HKP := Lib.hid hk; have H0 := Lib.hid HK0; have hsz := HK0.size; have HFAR := Lib.hid (show K < w.heap.size from hk.box.lt); obtain ⟨w9, hw9⟩ : ∃ w9, w9 = w := ⟨_, rfl⟩
  have HK : Keep w [] [] w9 := by rw [hw9]; exact Keep.begin hE _ (by intro r hr; cases hr)
  suffices hgo : Calls Tryd.prog 55 #[.pointer (some ⟨K, 0, none⟩), .agg (msV m)] w9 RR by rw [hw9] at hgo; exact hgo
  clear hw9 hRR hE hk HK0; go_enter Tryd.func55, Tryd.ntmps55
  refine wp_forget (n := 74) (L := [(1, .agg (msV m)), (0, pQ K 0)]) (FrL.add (FrL.add (FrL.nil ?_ ?_) _ _ ?_) _ _ ?_) ?_; iterate 4 rfl
  intro a9 F; refine xR ?_; refine fr_box F HK 3 (by decide) rfl 37 _ rfl rfl (msV m) (fun a' F' => F'.ev 1 rfl) ?_; rintro X a10 w10 hX F' HK' hb; clear HK F hb hX; clear a9 w9; rename World => w9
  rename Act => a9
  have HK := HK'; have F := F'; clear HK' F'; replace HK : Keep w [(X, (msV m), 37)] [] w9 := HK; refine fr_do F (wanted_free rfl) 4 rfl (by decide) (.bool false) (by intro a' F'; go_simp) ?_; clear F a9; intro a9 F; refine xW ?_; have hXlo : w.heap.size ≤ X := HK.up _ (List.mem_cons_self ..); obtain ⟨mb, hmb⟩ : ∃ mb, mayM m = mb := ⟨_, rfl⟩
  have HMB := Lib.hid hmb; clear hmb; refine wp_seq ?_; cases mb
  ·
   refine xR ?_; refine xP F (kO [⟨X, 0, (msV m).toList⟩] ⟨(HK.at 0 rfl).range, trivial⟩) [.l 0 0] [(8, .agg (msV m)), (4, .bool false), (3, pQ X 0), (0, pQ K 0)] ?_; clear F a9; intro a9 F; refine fr_call F (wanted_free rfl) 9 rfl (by decide) 71 #[.agg (msV m)] (by intro a' F'; have h8 := F'.at' 8 _ rfl; go_simp) (by have h := ref10_May m HK.env hs; rw [HMB.out] at h; exact h) ?_; rintro e9 w8 ⟨rfl, hb8⟩; replace HK := HK.below hb8; clear hb8; clear w9; rename World => w9
   refine ⟨_, rfl, ?_⟩; clear F a9; intro a9 F; refine eT F k0 [.c] 10 [(10, .bool true), (4, .bool false), (3, pQ X 0), (0, pQ K 0)] ?_; clear F a9; refine xS k0 [.c] [(4, .bool false)] ?_; intro a9 F; refine wp_ret ?_; exact fr_ret1 F rfl _ rfl (FIN.out _ _ Q _ HMB.out.symm (HKP.out.below HK.low) (Nat.le_succ _) (H0.out.below HK.low) (Only.of_below HK.low _))
  refine xR ?_; refine xP F (kO [⟨X, 0, (msV m).toList⟩] ⟨(HK.at 0 rfl).range, trivial⟩) [.l 0 0] [(8, .agg (msV m)), (4, .bool false), (3, pQ X 0), (0, pQ K 0)] ?_; clear F a9; intro a9 F; refine fr_call F (wanted_free rfl) 9 rfl (by decide) 71 #[.agg (msV m)] (by intro a' F'; have h8 := F'.at' 8 _ rfl; go_simp) (by have h := ref10_May m HK.env hs; rw [HMB.out] at h; exact h) ?_; rintro e9 w8 ⟨rfl, hb8⟩; replace HK := HK.below hb8; clear hb8; clear w9; rename World => w9
  refine ⟨_, rfl, ?_⟩; clear F a9; intro a9 F; refine eF F k0 [.c] 10 [(10, .bool false), (4, .bool false), (3, pQ X 0), (0, pQ K 0)] ?_; clear F a9; intro a9 F; refine xR ?_; refine xP F k0 [.c] [(11, pQ X 3), (4, .bool false), (3, pQ X 0), (0, pQ K 0)] ?_; clear F a9; intro a9 F; refine fr_putO F HK 0 rfl rfl rfl 4 _ _ rfl 3 (.bool true) (fun a' F' => F'.ev 11 rfl) (fun a' F' => rfl) z_bool (Nat.le_of_ble_eq_true (by kernel_rfl)) (by kernel_rfl) ?_; intro a10 w10 F' HK' HO; clear HK F HO; clear a9 w9; rename World => w9
  rename Act => a9
  have HK := HK'; have F := F'; clear HK' F'; replace HK : Keep w [(X, (msV { m with ret := true }), 37)] [] w9 := HK; replace F := F.cut [(4, .bool false), (3, pQ X 0), (0, pQ K 0)] (by kernel_rfl); refine xW ?_; refine xR ?_; refine fr_do F (wanted_free rfl) 5 rfl (by decide) (.slice none 0 0) (by intro a' F'; go_simp) ?_; clear F a9; intro a9 F; refine xW ?_; refine wp_seq_meet (fun a' w' => ∃ d, FrL 74 [(6, .bool d), (5, .slice none 0 0), (4, .bool false), (3, pQ X 0), (0, pQ K 0)] a' ∧ Keep w [(X, (msV { m with ret := true }), 37)] [] w') ?_ ?_
  ·
   by_cases hd : m.payload = ⟨#[]⟩
   ·
    refine wp_region_lit ?_; refine xP F (kOF [⟨X, 0, (msV { m with ret := true }).toList⟩] ⟨(HK.at 0 rfl).range, trivial⟩ [(.bool ((m.payload : ByteArray).toList == (⟨#[]⟩ : ByteArray).toList), .bool true)] ⟨eqS (hd), trivial⟩) [.c, .l 0 1, .f 0, .c] [(6, .bool true), (5, .slice none 0 0), (4, .bool false), (3, pQ X 0), (0, pQ K 0)] ?_; clear F a9; intro a9 F; refine wpList_nil ?_; exact ⟨_, F, HK⟩
   ·
    refine wp_region_lit ?_; refine xP F (kOF [⟨X, 0, (msV { m with ret := true }).toList⟩] ⟨(HK.at 0 rfl).range, trivial⟩ [(.bool ((m.payload : ByteArray).toList == (⟨#[]⟩ : ByteArray).toList), .bool false)] ⟨eqS' (hd), trivial⟩) [.c, .l 0 1, .f 0, .c] [(6, .bool false), (5, .slice none 0 0), (4, .bool false), (3, pQ X 0), (0, pQ K 0)] ?_; clear F a9; intro a9 F; refine wpList_nil ?_; exact ⟨_, F, HK⟩
  clear F a9 HK; rintro a9 w8 ⟨d, F, HK⟩; clear w9; rename World => w9
  obtain ⟨ak, ck, hvk, hlc, hcv⟩ := own_form HKP.out.own; subst hvk; obtain ⟨bk, ok, hrow⟩ := row_at msC_len (by decide) hcv; have HROW := Lib.hid hrow; have hfew := HQ; clear hcv hrow; refine wp_seq ?_; refine xR ?_; refine fr_do F (wanted_free rfl) 7 rfl (by decide) (.int .i64 0) (by intro a' F'; go_simp) ?_; clear F a9; intro a9 F; refine xW ?_; replace F : FrL 74 [(7, .int .i64 ((0 : Nat) : Int)), (6, .bool d), (5, .slice none 0 0), (4, .bool false), (3, pQ X 0), (0, pQ K 0)] a9 := (((((((FrL.nil F.size F.defers).add 0 _ (F.at' 0 _ rfl)).add 3 _ (F.at' 3 _ rfl)).add 4 _ (F.at' 4 _ rfl)).add 5 _ (F.at' 5 _ rfl)).add 6 _ (F.at' 6 _ rfl)).add 7 _ (F.at' 7 _ rfl))
  refine wp_block_end (fun a' w' => ∃ v O d, (∃ kk : Nat, FrL 74 [(7, .int .i64 (kk : Int)), (6, .bool d), (5, v), (4, .bool false), (3, pQ X 0), (0, pQ K 0)] a') ∧ w'.ownsRow (X + 1) 37 4 v O.length (msCells O) ∧ O.length ≤ Q.length + 1 ∧ (d = false → O.length ≤ Q.length) ∧ Keep w [(X, (msV { m with ret := true }), 37)] [] w') ?_ ?_
  ·
   refine wp_loop (fun a' w' => ∃ k : Nat, k ≤ Q.length ∧ ∃ v O d, FrL 74 [(7, .int .i64 (k : Int)), (6, .bool d), (5, v), (4, .bool false), (3, pQ X 0), (0, pQ K 0)] a' ∧ w'.ownsRow (X + 1) 37 4 v O.length (msCells O) ∧ O.length ≤ k + 1 ∧ (d = false → O.length ≤ k) ∧ Keep w [(X, (msV { m with ret := true }), 37)] [] w') (fun a' _ => muI (Q.length) 7 a') ⟨0, Nat.zero_le _, _, [], _, F, World.ownsRow_nil _ _ _ _, Nat.zero_le _, fun _ => Nat.le_refl _, HK⟩ ?_; clear F a9 HK d w9; rintro a9 w9 ⟨k, hk_k, v, O, d, F, HO, hol, hod, HK⟩; rw [muI_at F 7 k rfl]; refine wp_seq ?_; refine wp_seq ?_; by_cases hlt_k : k < Q.length
   ·
    refine wp_region_lit ?_; refine fr_mv F (wanted_free rfl) 15 rfl (by decide) 7 rfl rfl ?_; clear F a9; intro a9 F; refine fr_mv F (wanted_free rfl) 16 rfl (by decide) 0 rfl rfl ?_; clear F a9; intro a9 F; refine fr_nc F (wanted_free rfl) 17 rfl (by decide) 16 rfl rfl ?_; clear F a9; intro a9 F; refine fr_do F (wanted_free rfl) 18 rfl (by decide) (pQ K 0) (by intro a' F'; have h17 := F'.at' 17 _ rfl; go_simp) ?_; clear F a9; intro a9 F; refine fr_do F (wanted_free rfl) 19 rfl (by decide) (.slice ak Q.length ck) (by intro a' F'; have h18 := F'.at' 18 _ rfl; have hc : w9.cell? ⟨K, 0, none⟩ = some (.slice ak Q.length ck) := (HKP.out.box.below HK.low).cells 0; go_simp) ?_; clear F a9; intro a9 F; refine fr_do F (wanted_free rfl) 20 rfl (by decide) (.int .i64 (Q.length : Int)) (by intro a' F'; have h19 := F'.at' 19 _ rfl; go_simp) ?_; clear F a9; intro a9 F; refine fr_do F (wanted_free rfl) 21 rfl (by decide) (.bool true) (by intro a' F'; have h15 := F'.at' 15 _ rfl; have h20 := F'.at' 20 _ rfl; go_simp <;> first | rfl | omega | (rw [IntKind.wrap_i64]; omega) | (rw [IntKind.wrap_u8]; omega) | (intro hcon; exfalso; omega) | (rw [Bool.eq_iff_iff]; simp; omega) | (rw [decide_eq_decide]; omega) | (congr 1; omega) | (congr 2; omega) | (rw [if_pos (by omega)]; congr 4 <;> omega) | (rw [if_pos (by omega), if_pos (by omega)]; congr 4 <;> omega)) ?_; clear F a9; intro a9 F; refine xW ?_; refine wp_cond_true (F.ev 21 rfl) ?_; refine xK ?_; replace F : FrL 74 [(7, .int .i64 (k : Int)), (6, .bool d), (5, v), (4, .bool false), (3, pQ X 0), (0, pQ K 0)] a9 := (((((((FrL.nil F.size F.defers).add 0 _ (F.at' 0 _ rfl)).add 3 _ (F.at' 3 _ rfl)).add 4 _ (F.at' 4 _ rfl)).add 5 _ (F.at' 5 _ rfl)).add 6 _ (F.at' 6 _ rfl)).add 7 _ (F.at' 7 _ rfl))
    obtain ⟨x, hx⟩ : ∃ x, Q[k]? = some x := ⟨_, List.getElem?_eq_getElem hlt_k⟩
    obtain ⟨hal, hxr⟩ := HROW.out k x hx; obtain ⟨q, hq⟩ : ∃ q, ok + k * 4 = q := ⟨_, rfl⟩
    rw [hq] at hxr; have HAL := Lib.hid hal; have HQQ := Lib.hid hq; have HXQ := Lib.hid (fun w9 (h : Below w.heap.size w w9) => range_below hxr h); clear hx hxr hq; refine wp_seq ?_; refine wp_block_end (fun a' w' => ∃ v O d, FrL 74 [(7, .int .i64 (k : Int)), (6, .bool d), (5, v), (4, .bool false), (3, pQ X 0), (0, pQ K 0)] a' ∧ w'.ownsRow (X + 1) 37 4 v O.length (msCells O) ∧ O.length ≤ k + 2 ∧ (d = false → O.length ≤ k + 1) ∧ Keep w [(X, (msV { m with ret := true }), 37)] [] w') ?_ ?_
    ·
     refine wp_seq_meet (fun a' w' => ∃ v O d, FrL 74 [(7, .int .i64 (k : Int)), (6, .bool d), (5, v), (4, .bool false), (3, pQ X 0), (0, pQ K 0)] a' ∧ w'.ownsRow (X + 1) 37 4 v O.length (msCells O) ∧ O.length ≤ k + 1 ∧ (d = false → O.length ≤ k) ∧ Keep w [(X, (msV { m with ret := true }), 37)] [] w') ?_ ?_
     ·
      cases d; rotate_left
      ·
       refine dR (fun w' => MemOk w' [⟨K, 0, [.slice ak Q.length ck]⟩, ⟨bk, q, msC x⟩, ⟨X, 0, (msV { m with ret := true }).toList⟩]) (by kernel_rfl) fun w8 hb8 => ?_
       replace HK := HK.below hb8; replace HO := own_only HO (Only.of_below hb8 (fun _ => False)) (fun _ _ h => h); clear hb8 w9; rename World => w9
       refine ⟨⟨(HKP.out.box.below HK.low).range, HXQ.out _ HK.low, (HK.at 0 rfl).range, trivial⟩, ?_⟩; refine xD F [⟨K, 0, [.slice ak Q.length ck]⟩, ⟨bk, q, msC x⟩, ⟨X, 0, (msV { m with ret := true }).toList⟩] [] [] (xN 0 (xC 15 [])) [(38, .bool false), (7, .int .i64 (k : Int)), (6, .bool true), (5, v), (4, .bool false), (3, pQ X 0), (0, pQ K 0)] ⟨(HKP.out.box.below HK.low).range, HXQ.out _ HK.low, (HK.at 0 rfl).range, trivial⟩ (fun _ h => h) trivial trivial ?_; clear F a9; intro a9 F; refine wp_cond_false (F.ev 38 rfl) ?_; refine wp_skip ?_; exact ⟨v, O, true, (((((((FrL.nil F.size F.defers).add 0 _ (F.at' 0 _ rfl)).add 3 _ (F.at' 3 _ rfl)).add 4 _ (F.at' 4 _ rfl)).add 5 _ (F.at' 5 _ rfl)).add 6 _ (F.at' 6 _ rfl)).add 7 _ (F.at' 7 _ rfl)), HO, hol, hod, HK⟩
      have hol0 := hod rfl; cases hgt : (!(Op.bytesLess x.topic.toList m.topic.toList || x.topic.toList == m.topic.toList))
      ·
       refine dR (fun w' => MemOk w' [⟨K, 0, [.slice ak Q.length ck]⟩, ⟨bk, q, msC x⟩, ⟨X, 0, (msV { m with ret := true }).toList⟩]) (by kernel_rfl) fun w8 hb8 => ?_
       replace HK := HK.below hb8; replace HO := own_only HO (Only.of_below hb8 (fun _ => False)) (fun _ _ h => h); clear hb8 w9; rename World => w9
       refine ⟨⟨(HKP.out.box.below HK.low).range, HXQ.out _ HK.low, (HK.at 0 rfl).range, trivial⟩, ?_⟩; refine xD F [⟨K, 0, [.slice ak Q.length ck]⟩, ⟨bk, q, msC x⟩, ⟨X, 0, (msV { m with ret := true }).toList⟩] [(.bool (!(Op.bytesLess x.topic.toList m.topic.toList || x.topic.toList == m.topic.toList)), .bool false)] [⟨ak, Q.length, ck, .i64, (k : Int), 4, ⟨bk, q, none⟩⟩] (xN 0 (xC 6 ([.l 0 0, .c, .i 0, .c, .l 1 0, .c, .l 2 0, .f 0, .c]))) [(38, .bool false), (7, .int .i64 (k : Int)), (6, .bool false), (5, v), (4, .bool false), (3, pQ X 0), (0, pQ K 0)] ⟨(HKP.out.box.below HK.low).range, HXQ.out _ HK.low, (HK.at 0 rfl).range, trivial⟩ (fun _ h => h) ⟨congrArg Value.bool hgt, trivial⟩ ⟨⟨bk, ok, k, HAL.out, rfl, hlt_k, by rw [HQQ.out]⟩, trivial⟩ ?_; clear F a9; intro a9 F; refine wp_cond_false (F.ev 38 rfl) ?_; refine wp_skip ?_; exact ⟨v, O, false, (((((((FrL.nil F.size F.defers).add 0 _ (F.at' 0 _ rfl)).add 3 _ (F.at' 3 _ rfl)).add 4 _ (F.at' 4 _ rfl)).add 5 _ (F.at' 5 _ rfl)).add 6 _ (F.at' 6 _ rfl)).add 7 _ (F.at' 7 _ rfl)), HO, hol, hod, HK⟩
      ·
       refine dR (fun w' => MemOk w' [⟨K, 0, [.slice ak Q.length ck]⟩, ⟨bk, q, msC x⟩, ⟨X, 0, (msV { m with ret := true }).toList⟩]) (by kernel_rfl) fun w8 hb8 => ?_
       replace HK := HK.below hb8; replace HO := own_only HO (Only.of_below hb8 (fun _ => False)) (fun _ _ h => h); clear hb8 w9; rename World => w9
       refine ⟨⟨(HKP.out.box.below HK.low).range, HXQ.out _ HK.low, (HK.at 0 rfl).range, trivial⟩, ?_⟩; refine xD F [⟨K, 0, [.slice ak Q.length ck]⟩, ⟨bk, q, msC x⟩, ⟨X, 0, (msV { m with ret := true }).toList⟩] [(.bool (!(Op.bytesLess x.topic.toList m.topic.toList || x.topic.toList == m.topic.toList)), .bool true)] [⟨ak, Q.length, ck, .i64, (k : Int), 4, ⟨bk, q, none⟩⟩] (xN 0 (xC 6 ([.l 0 0, .c, .i 0, .c, .l 1 0, .c, .l 2 0, .f 0, .c]))) [(38, .bool true), (7, .int .i64 (k : Int)), (6, .bool false), (5, v), (4, .bool false), (3, pQ X 0), (0, pQ K 0)] ⟨(HKP.out.box.below HK.low).range, HXQ.out _ HK.low, (HK.at 0 rfl).range, trivial⟩ (fun _ h => h) ⟨congrArg Value.bool hgt, trivial⟩ ⟨⟨bk, ok, k, HAL.out, rfl, hlt_k, by rw [HQQ.out]⟩, trivial⟩ ?_; clear F a9; intro a9 F; refine wp_cond_true (F.ev 38 rfl) ?_; refine xR ?_; refine xP F (kO [⟨X, 0, (msV { m with ret := true }).toList⟩] ⟨(HK.at 0 rfl).range, trivial⟩) [.c, .l 0 0] [(40, .agg (msV { m with ret := true })), (39, v), (7, .int .i64 (k : Int)), (6, .bool false), (5, v), (4, .bool false), (3, pQ X 0), (0, pQ K 0)] ?_; clear F a9; intro a9 F; obtain ⟨i0, hi, hz0, hz1, hz2⟩ := info_parts infoMsR; refine fr_doW F (wanted_free rfl) 41 rfl (by decide) (.slice (some ⟨w9.heap.size, 0, none⟩) 1 1) (w9.alloc (.cells (msV { m with ret := true }) 37)) (fun a' F' => run_slice1 101 37 _ rfl (msV { m with ret := true }) (F'.ev 40 rfl) i0 _ Tryd.underlying101 hi hz0 (by rw [hz1]; decide) (by rw [hz1]; decide) (by rw [hz1]; kernel_rfl)) ?_; clear F a9; intro a9 F; have hb8 : Below w9.heap.size w9 (w9.alloc (.cells (msV { m with ret := true }) 37)) := (Below.refl _ _).alloc (Nat.le_refl _) _; have hnr : CellsA (w9.alloc (.cells (msV { m with ret := true }) 37)) (some ⟨w9.heap.size, 0, none⟩) (msV { m with ret := true }).toList := cells_new; replace HK := HK.below hb8; replace HO := own_only HO (Only.of_below hb8 (fun _ => False)) (fun _ _ h => h); obtain ⟨Z, hZ⟩ : ∃ Z, w9.heap.size = Z := ⟨_, rfl⟩
       rw [hZ] at hnr F; clear hb8 hZ; generalize w9.alloc (.cells (msV { m with ret := true }) 37) = w8 at *; clear w9; rename World => w9
       refine fr_appendP F rfl 42 rfl (by decide) (.tmp 39) (.tmp 41) 101 rfl (X + 1) 37 i0 _ 4 40 Tryd.underlying101 hi hz0 hz1 hz2 rfl (by decide) v O.length _ (F.ev 39 rfl) HO (some ⟨Z, 0, none⟩) 1 1 (fun h => by cases h) (msV { m with ret := true }).toList (F.ev 41 rfl) rfl hnr (fun u hu => Array.all_eq_true'.1 (ms_one _) u (Array.mem_def.2 hu)) (by unfold maxLen; omega) (by omega) (HK.lt (List.mem_cons_self ..)) ?_; intro v8 w8 hown hgr; clear hi hz0 hz1 hz2 i0 hnr; have HK2 := HK.grown hgr (fun g hg => by have := (own_lt HO hg).2; omega) (fun g hg z hz => by have := (own_lt HO hg).2; rw [List.mem_singleton.1 hz]; show g ≠ X; omega) (fun r hr => by cases hr); have hown2 : w8.ownsRow (X + 1) 37 4 v8 (O ++ [{ m with ret := true }]).length (msCells (O ++ [{ m with ret := true }])) := by
         rw [List.length_append]; unfold msCells at hown ⊢; rw [List.flatMap_append]; exact hown
       clear HK HO hgr hown; have HK := HK2; have HO := hown2; clear HK2 hown2; clear w9; rename World => w9
       obtain ⟨O2, hO2⟩ : ∃ O2, O ++ [{ m with ret := true }] = O2 := ⟨_, rfl⟩
       have hol2 : O2.length = O.length + 1 := by rw [← hO2, List.length_append]; rfl
       rw [hO2] at HO; clear hO2; clear F a9; intro a9 F; replace HK : Keep w [(X, (msV { m with ret := true }), 37)] [] w9 := HK; refine xE F k0 [.c] [(7, .int .i64 (k : Int)), (6, .bool false), (5, v8), (4, .bool false), (3, pQ X 0), (0, pQ K 0)] ?_; clear F a9; intro a9 F; refine wp_region_lit ?_; refine xP F k0 [.c] [(7, .int .i64 (k : Int)), (6, .bool true), (5, v8), (4, .bool false), (3, pQ X 0), (0, pQ K 0)] ?_; clear F a9; intro a9 F; refine wpList_nil ?_; exact ⟨v8, O2, true, (((((((FrL.nil F.size F.defers).add 0 _ (F.at' 0 _ rfl)).add 3 _ (F.at' 3 _ rfl)).add 4 _ (F.at' 4 _ rfl)).add 5 _ (F.at' 5 _ rfl)).add 6 _ (F.at' 6 _ rfl)).add 7 _ (F.at' 7 _ rfl)), HO, by omega, (fun h => by cases h), HK⟩
     clear F a9 HK HO hol hod d O v; rintro a9 w8 ⟨v, O, d, F, HO, hol, hod, HK⟩; clear w9; rename World => w9
     by_cases hne : x.topic = m.topic
     ·
      refine dR (fun w' => MemOk w' [⟨K, 0, [.slice ak Q.length ck]⟩, ⟨bk, q, msC x⟩, ⟨X, 0, (msV { m with ret := true }).toList⟩]) (by kernel_rfl) fun w8 hb8 => ?_
      replace HK := HK.below hb8; replace HO := own_only HO (Only.of_below hb8 (fun _ => False)) (fun _ _ h => h); clear hb8 w9; rename World => w9
      refine ⟨⟨(HKP.out.box.below HK.low).range, HXQ.out _ HK.low, (HK.at 0 rfl).range, trivial⟩, ?_⟩; refine xD F [⟨K, 0, [.slice ak Q.length ck]⟩, ⟨bk, q, msC x⟩, ⟨X, 0, (msV { m with ret := true }).toList⟩] [(.bool (!((x.topic : ByteArray).toList == (m.topic : ByteArray).toList)), .bool false)] [⟨ak, Q.length, ck, .i64, (k : Int), 4, ⟨bk, q, none⟩⟩] (xN 0 (xC 3 ([.l 0 0, .c, .i 0, .c, .l 1 0, .c, .l 2 0, .f 0]))) [(53, .bool false), (7, .int .i64 (k : Int)), (6, .bool d), (5, v), (4, .bool false), (3, pQ X 0), (0, pQ K 0)] ⟨(HKP.out.box.below HK.low).range, HXQ.out _ HK.low, (HK.at 0 rfl).range, trivial⟩ (fun _ h => h) ⟨neS' (hne), trivial⟩ ⟨⟨bk, ok, k, HAL.out, rfl, hlt_k, by rw [HQQ.out]⟩, trivial⟩ ?_; clear F a9; intro a9 F; refine wp_cond_false (F.ev 53 rfl) ?_; refine wp_skip ?_; exact ⟨v, O, d, (((((((FrL.nil F.size F.defers).add 0 _ (F.at' 0 _ rfl)).add 3 _ (F.at' 3 _ rfl)).add 4 _ (F.at' 4 _ rfl)).add 5 _ (F.at' 5 _ rfl)).add 6 _ (F.at' 6 _ rfl)).add 7 _ (F.at' 7 _ rfl)), HO, by omega, fun h => by have := hod h; omega, HK⟩
     ·
      refine dR (fun w' => MemOk w' [⟨K, 0, [.slice ak Q.length ck]⟩, ⟨bk, q, msC x⟩, ⟨X, 0, (msV { m with ret := true }).toList⟩]) (by kernel_rfl) fun w8 hb8 => ?_
      replace HK := HK.below hb8; replace HO := own_only HO (Only.of_below hb8 (fun _ => False)) (fun _ _ h => h); clear hb8 w9; rename World => w9
      refine ⟨⟨(HKP.out.box.below HK.low).range, HXQ.out _ HK.low, (HK.at 0 rfl).range, trivial⟩, ?_⟩; refine xD F [⟨K, 0, [.slice ak Q.length ck]⟩, ⟨bk, q, msC x⟩, ⟨X, 0, (msV { m with ret := true }).toList⟩] [(.bool (!((x.topic : ByteArray).toList == (m.topic : ByteArray).toList)), .bool true)] [⟨ak, Q.length, ck, .i64, (k : Int), 4, ⟨bk, q, none⟩⟩] (xN 0 (xC 3 ([.l 0 0, .c, .i 0, .c, .l 1 0, .c, .l 2 0, .f 0]))) [(53, .bool true), (7, .int .i64 (k : Int)), (6, .bool d), (5, v), (4, .bool false), (3, pQ X 0), (0, pQ K 0)] ⟨(HKP.out.box.below HK.low).range, HXQ.out _ HK.low, (HK.at 0 rfl).range, trivial⟩ (fun _ h => h) ⟨neS (hne), trivial⟩ ⟨⟨bk, ok, k, HAL.out, rfl, hlt_k, by rw [HQQ.out]⟩, trivial⟩ ?_; clear F a9; intro a9 F; refine wp_cond_true (F.ev 53 rfl) ?_; refine wp_region_lit ?_; refine xP F ⟨[⟨K, 0, [.slice ak Q.length ck]⟩, ⟨bk, q, msC x⟩], [], [⟨ak, Q.length, ck, .i64, (k : Int), 4, ⟨bk, q, none⟩⟩], ⟨(HKP.out.box.below HK.low).range, HXQ.out _ HK.low, trivial⟩, trivial, ⟨⟨bk, ok, k, HAL.out, rfl, hlt_k, by rw [HQQ.out]⟩, trivial⟩⟩ (xC 4 ([.l 0 0, .c, .i 0, .l 1 0])) [(61, .agg (msV x)), (54, v), (7, .int .i64 (k : Int)), (6, .bool d), (5, v), (4, .bool false), (3, pQ X 0), (0, pQ K 0)] ?_; clear F a9; intro a9 F; obtain ⟨i0, hi, hz0, hz1, hz2⟩ := info_parts infoMsR; refine fr_doW F (wanted_free rfl) 62 rfl (by decide) (.slice (some ⟨w9.heap.size, 0, none⟩) 1 1) (w9.alloc (.cells (msV x) 37)) (fun a' F' => run_slice1 101 37 _ rfl (msV x) (F'.ev 61 rfl) i0 _ Tryd.underlying101 hi hz0 (by rw [hz1]; decide) (by rw [hz1]; decide) (by rw [hz1]; kernel_rfl)) ?_; clear F a9; intro a9 F; have hb8 : Below w9.heap.size w9 (w9.alloc (.cells (msV x) 37)) := (Below.refl _ _).alloc (Nat.le_refl _) _; have hnr : CellsA (w9.alloc (.cells (msV x) 37)) (some ⟨w9.heap.size, 0, none⟩) (msV x).toList := cells_new; replace HK := HK.below hb8; replace HO := own_only HO (Only.of_below hb8 (fun _ => False)) (fun _ _ h => h); obtain ⟨Z, hZ⟩ : ∃ Z, w9.heap.size = Z := ⟨_, rfl⟩
      rw [hZ] at hnr F; clear hb8 hZ; generalize w9.alloc (.cells (msV x) 37) = w8 at *; clear w9; rename World => w9
      refine fr_appendP F rfl 63 rfl (by decide) (.tmp 54) (.tmp 62) 101 rfl (X + 1) 37 i0 _ 4 40 Tryd.underlying101 hi hz0 hz1 hz2 rfl (by decide) v O.length _ (F.ev 54 rfl) HO (some ⟨Z, 0, none⟩) 1 1 (fun h => by cases h) (msV x).toList (F.ev 62 rfl) rfl hnr (fun u hu => Array.all_eq_true'.1 (ms_one _) u (Array.mem_def.2 hu)) (by unfold maxLen; omega) (by omega) (HK.lt (List.mem_cons_self ..)) ?_; intro v8 w8 hown hgr; clear hi hz0 hz1 hz2 i0 hnr; have HK2 := HK.grown hgr (fun g hg => by have := (own_lt HO hg).2; omega) (fun g hg z hz => by have := (own_lt HO hg).2; rw [List.mem_singleton.1 hz]; show g ≠ X; omega) (fun r hr => by cases hr); have hown2 : w8.ownsRow (X + 1) 37 4 v8 (O ++ [x]).length (msCells (O ++ [x])) := by
        rw [List.length_append]; unfold msCells at hown ⊢; rw [List.flatMap_append]; exact hown
      clear HK HO hgr hown; have HK := HK2; have HO := hown2; clear HK2 hown2; clear w9; rename World => w9
      obtain ⟨O2, hO2⟩ : ∃ O2, O ++ [x] = O2 := ⟨_, rfl⟩
      have hol2 : O2.length = O.length + 1 := by rw [← hO2, List.length_append]; rfl
      rw [hO2] at HO; clear hO2; clear F a9; intro a9 F; replace HK : Keep w [(X, (msV { m with ret := true }), 37)] [] w9 := HK; refine xP F k0 [.c] [(7, .int .i64 (k : Int)), (6, .bool d), (5, v8), (4, .bool false), (3, pQ X 0), (0, pQ K 0)] ?_; clear F a9; intro a9 F; refine wpList_nil ?_; exact ⟨v8, O2, d, (((((((FrL.nil F.size F.defers).add 0 _ (F.at' 0 _ rfl)).add 3 _ (F.at' 3 _ rfl)).add 4 _ (F.at' 4 _ rfl)).add 5 _ (F.at' 5 _ rfl)).add 6 _ (F.at' 6 _ rfl)).add 7 _ (F.at' 7 _ rfl)), HO, by omega, fun h => by have := hod h; omega, HK⟩
    · clear F a9 HK HO hol hod d O v
      rintro a9 w8 ⟨v, O, d, F, HO, hol, hod, HK⟩; clear w9; rename World => w9
      show Code.wp _ _ _ _ _; refine wp_region_lit ?_; refine fr_mv F (wanted_free rfl) 22 rfl (by decide) 7 rfl rfl ?_; clear F a9; intro a9 F; refine fr_do F (wanted_free rfl) 23 rfl (by decide) (.int .i64 ((k + 1 : Nat) : Int)) (by intro a' F'; have h22 := F'.at' 22 _ rfl; go_simp <;> first | rfl | omega | (rw [IntKind.wrap_i64]; omega) | (rw [IntKind.wrap_u8]; omega) | (intro hcon; exfalso; omega) | (rw [Bool.eq_iff_iff]; simp; omega) | (rw [decide_eq_decide]; omega) | (congr 1; omega) | (congr 2; omega) | (rw [if_pos (by omega)]; congr 4 <;> omega) | (rw [if_pos (by omega), if_pos (by omega)]; congr 4 <;> omega)) ?_; clear F a9; intro a9 F; refine fr_as F (wanted_free rfl) 7 rfl (by decide) 23 rfl rfl ?_; clear F a9; intro a9 F; refine wpList_nil ?_; replace F : FrL 74 [(7, .int .i64 ((k + 1 : Nat) : Int)), (6, .bool d), (5, v), (4, .bool false), (3, pQ X 0), (0, pQ K 0)] a9 := (((((((FrL.nil F.size F.defers).add 0 _ (F.at' 0 _ rfl)).add 3 _ (F.at' 3 _ rfl)).add 4 _ (F.at' 4 _ rfl)).add 5 _ (F.at' 5 _ rfl)).add 6 _ (F.at' 6 _ rfl)).add 7 _ (F.at' 7 _ rfl))
      refine ⟨⟨k + 1, by omega, v, O, d, F, HO, by omega, hod, HK⟩, ?_⟩; rw [muI_at F 7 (k + 1) rfl]; omega
   · have hk2_k : k = Q.length := by omega
     subst hk2_k; refine wp_region_lit ?_; refine fr_mv F (wanted_free rfl) 15 rfl (by decide) 7 rfl rfl ?_; clear F a9; intro a9 F; refine fr_mv F (wanted_free rfl) 16 rfl (by decide) 0 rfl rfl ?_; clear F a9; intro a9 F; refine fr_nc F (wanted_free rfl) 17 rfl (by decide) 16 rfl rfl ?_; clear F a9; intro a9 F; refine fr_do F (wanted_free rfl) 18 rfl (by decide) (pQ K 0) (by intro a' F'; have h17 := F'.at' 17 _ rfl; go_simp) ?_; clear F a9; intro a9 F; refine fr_do F (wanted_free rfl) 19 rfl (by decide) (.slice ak Q.length ck) (by intro a' F'; have h18 := F'.at' 18 _ rfl; have hc : w9.cell? ⟨K, 0, none⟩ = some (.slice ak Q.length ck) := (HKP.out.box.below HK.low).cells 0; go_simp) ?_; clear F a9; intro a9 F; refine fr_do F (wanted_free rfl) 20 rfl (by decide) (.int .i64 (Q.length : Int)) (by intro a' F'; have h19 := F'.at' 19 _ rfl; go_simp) ?_; clear F a9; intro a9 F; refine fr_do F (wanted_free rfl) 21 rfl (by decide) (.bool false) (by intro a' F'; have h15 := F'.at' 15 _ rfl; have h20 := F'.at' 20 _ rfl; go_simp <;> first | rfl | omega | (rw [IntKind.wrap_i64]; omega) | (rw [IntKind.wrap_u8]; omega) | (intro hcon; exfalso; omega) | (rw [Bool.eq_iff_iff]; simp; omega) | (rw [decide_eq_decide]; omega) | (congr 1; omega) | (congr 2; omega) | (rw [if_pos (by omega)]; congr 4 <;> omega) | (rw [if_pos (by omega), if_pos (by omega)]; congr 4 <;> omega)) ?_; clear F a9; intro a9 F; refine xW ?_; refine wp_cond_false (F.ev 21 rfl) ?_; refine wp_exit ?_; exact then_exit (then_exit (exit_in ⟨v, O, d, ⟨Q.length, (((((((FrL.nil F.size F.defers).add 0 _ (F.at' 0 _ rfl)).add 3 _ (F.at' 3 _ rfl)).add 4 _ (F.at' 4 _ rfl)).add 5 _ (F.at' 5 _ rfl)).add 6 _ (F.at' 6 _ rfl)).add 7 _ (F.at' 7 _ rfl))⟩, HO, hol, hod, HK⟩))
  · clear F a9 HK d
    rintro a9 w8 ⟨v, O, d, ⟨kk, F⟩, HO, hol, hod, HK⟩; clear w9; rename World => w9
    show Code.wp _ _ _ _ _; replace F : FrL 74 [(6, .bool d), (5, v), (4, .bool false), (3, pQ X 0), (0, pQ K 0)] a9 := ((((((FrL.nil F.size F.defers).add 0 _ (F.at' 0 _ rfl)).add 3 _ (F.at' 3 _ rfl)).add 4 _ (F.at' 4 _ rfl)).add 5 _ (F.at' 5 _ rfl)).add 6 _ (F.at' 6 _ rfl))
    refine wp_seq_meet (fun a' w' => ∃ v O, FrL 74 [(5, v), (4, .bool false), (3, pQ X 0), (0, pQ K 0)] a' ∧ w'.ownsRow (X + 1) 37 4 v O.length (msCells O) ∧ O.length ≤ Q.length + 1 ∧ Keep w [(X, (msV { m with ret := true }), 37)] [] w') ?_ ?_
    ·
     cases d; rotate_left
     ·
      refine xG F k0 [.c, .c] [(65, .bool false), (5, v), (4, .bool false), (3, pQ X 0), (0, pQ K 0)] ?_; clear F a9; intro a9 F; refine wp_cond_false (F.ev 65 rfl) ?_; refine wp_skip ?_; exact ⟨v, O, (((((FrL.nil F.size F.defers).add 0 _ (F.at' 0 _ rfl)).add 3 _ (F.at' 3 _ rfl)).add 4 _ (F.at' 4 _ rfl)).add 5 _ (F.at' 5 _ rfl)), HO, hol, HK⟩
     have hol0 := hod rfl; refine xG F k0 [.c, .c] [(65, .bool true), (5, v), (4, .bool false), (3, pQ X 0), (0, pQ K 0)] ?_; clear F a9; intro a9 F; refine wp_cond_true (F.ev 65 rfl) ?_; refine wp_region_lit ?_; refine xP F (kO [⟨X, 0, (msV { m with ret := true }).toList⟩] ⟨(HK.at 0 rfl).range, trivial⟩) [.c, .l 0 0] [(67, .agg (msV { m with ret := true })), (66, v), (5, v), (4, .bool false), (3, pQ X 0), (0, pQ K 0)] ?_; clear F a9; intro a9 F; obtain ⟨i0, hi, hz0, hz1, hz2⟩ := info_parts infoMsR; refine fr_doW F (wanted_free rfl) 68 rfl (by decide) (.slice (some ⟨w9.heap.size, 0, none⟩) 1 1) (w9.alloc (.cells (msV { m with ret := true }) 37)) (fun a' F' => run_slice1 101 37 _ rfl (msV { m with ret := true }) (F'.ev 67 rfl) i0 _ Tryd.underlying101 hi hz0 (by rw [hz1]; decide) (by rw [hz1]; decide) (by rw [hz1]; kernel_rfl)) ?_; clear F a9; intro a9 F; have hb8 : Below w9.heap.size w9 (w9.alloc (.cells (msV { m with ret := true }) 37)) := (Below.refl _ _).alloc (Nat.le_refl _) _; have hnr : CellsA (w9.alloc (.cells (msV { m with ret := true }) 37)) (some ⟨w9.heap.size, 0, none⟩) (msV { m with ret := true }).toList := cells_new; replace HK := HK.below hb8; replace HO := own_only HO (Only.of_below hb8 (fun _ => False)) (fun _ _ h => h); obtain ⟨Z, hZ⟩ : ∃ Z, w9.heap.size = Z := ⟨_, rfl⟩
     rw [hZ] at hnr F; clear hb8 hZ; generalize w9.alloc (.cells (msV { m with ret := true }) 37) = w8 at *; clear w9; rename World => w9
     refine fr_appendP F rfl 69 rfl (by decide) (.tmp 66) (.tmp 68) 101 rfl (X + 1) 37 i0 _ 4 40 Tryd.underlying101 hi hz0 hz1 hz2 rfl (by decide) v O.length _ (F.ev 66 rfl) HO (some ⟨Z, 0, none⟩) 1 1 (fun h => by cases h) (msV { m with ret := true }).toList (F.ev 68 rfl) rfl hnr (fun u hu => Array.all_eq_true'.1 (ms_one _) u (Array.mem_def.2 hu)) (by unfold maxLen; omega) (by omega) (HK.lt (List.mem_cons_self ..)) ?_; intro v8 w8 hown hgr; clear hi hz0 hz1 hz2 i0 hnr; have HK2 := HK.grown hgr (fun g hg => by have := (own_lt HO hg).2; omega) (fun g hg z hz => by have := (own_lt HO hg).2; rw [List.mem_singleton.1 hz]; show g ≠ X; omega) (fun r hr => by cases hr); have hown2 : w8.ownsRow (X + 1) 37 4 v8 (O ++ [{ m with ret := true }]).length (msCells (O ++ [{ m with ret := true }])) := by
       rw [List.length_append]; unfold msCells at hown ⊢; rw [List.flatMap_append]; exact hown
     clear HK HO hgr hown; have HK := HK2; have HO := hown2; clear HK2 hown2; clear w9; rename World => w9
     obtain ⟨O2, hO2⟩ : ∃ O2, O ++ [{ m with ret := true }] = O2 := ⟨_, rfl⟩
     have hol2 : O2.length = O.length + 1 := by rw [← hO2, List.length_append]; rfl
     rw [hO2] at HO; clear hO2; clear F a9; intro a9 F; replace HK : Keep w [(X, (msV { m with ret := true }), 37)] [] w9 := HK; refine xP F k0 [.c] [(5, v8), (4, .bool false), (3, pQ X 0), (0, pQ K 0)] ?_; clear F a9; intro a9 F; refine wpList_nil ?_; exact ⟨v8, O2, (((((FrL.nil F.size F.defers).add 0 _ (F.at' 0 _ rfl)).add 3 _ (F.at' 3 _ rfl)).add 4 _ (F.at' 4 _ rfl)).add 5 _ (F.at' 5 _ rfl)), HO, by omega, HK⟩
    clear F a9 HK HO hol hod d O v; rintro a9 w8 ⟨v, O, F, HO, hol, HK⟩; clear w9; rename World => w9
    have HKf := (H0.out.below HK.low).withBox ⟨K, #[.slice ak Q.length ck], 103⟩ (HKP.out.box.below HK.low) HKP.out.lo (fun z hz => by cases hz); have hlow := HK.low; clear HK; have HK := HKf; clear HKf; replace HK : Keep w0 [(K, #[.slice ak Q.length ck], 103)] [] w9 := HK; refine xR ?_; refine xP F k0 (xC 4 []) [(73, pQ K 0), (71, v), (5, v), (4, .bool false), (3, pQ X 0), (0, pQ K 0)] ?_; clear F a9; intro a9 F; refine fr_putO F HK 0 rfl rfl rfl 101 _ _ rfl 0 v (fun a' F' => F'.ev 73 rfl) (fun a' F' => F'.ev 71 rfl) (by rw [own_size1 HO]; kernel_rfl) (by rw [own_size1 HO]; exact Nat.le_refl _) (own_one1 HO) ?_; intro a10 w10 F' HK' HON; rw [show setMany #[Value.slice ak Q.length ck] 0 v.cells.toList = #[v] from own_set1 HO _] at HK'; replace HO := own_only HO HON (fun g hg => BoxAt.ne_own (HK.at 0 rfl) HO (by decide) g hg); have HON2 : Only (fun j => j = K) w w10 := Only.trans (Only.of_below hlow _) HON (fun j _ h => h); clear HK F HON hlow; clear a9 w9; rename World => w9
    rename Act => a9
    have HK := HK'; have F := F'; clear HK' F'; replace HK : Keep w0 [(K, #[v], 103)] [] w9 := HK; refine xW ?_; refine xG F k0 [.c] [(4, .bool true)] ?_; clear F a9; intro a9 F; refine wp_ret ?_; exact fr_ret1 F rfl _ rfl (FIN.out _ v O _ HMB.out.symm ⟨HK.at 0 rfl, own_weak HO (by omega), HKP.out.lo⟩ hol (HK.sub (List.nil_sublist _) (fun r hr => hr)) HON2)
end Go.Proofs.YtnnpokndajpkiaaDoor
namespace Go.Proofs.YtnnpokndajpkiaaDoor
open Go.RowKit
structure Rs where
  client : ByteArray
  conn : Int
  clean : Bool
  g : Nat
  v : Value
  S : List Sb
def rsV (x : Rs) : Array Value := #[.string x.client, .int .i64 x.conn, .bool x.clean, .pointer (some ⟨x.g, 0, none⟩)]
def rsC (x : Rs) : List Value := (rsV x).toList
def rsCells (L : List Rs) : List Value := L.flatMap rsC
theorem rsC_len (x : Rs) : (rsC x).length = 4 := rfl
theorem rsCells_len (L : List Rs) : (rsCells L).length = L.length * 4 := by
  induction L with
  | nil => rfl
  | cons x T ih =>
    show (rsC x ++ rsCells T).length = _; rw [List.length_append, ih, rsC_len, List.length_cons]; omega
theorem rs_one (x : Rs) : (rsV x).all (·.oneCell') = true := by kernel_rfl
theorem rs_ones (L : List Rs) : ∀ u ∈ rsCells L, u.oneCell' = true := by
  intro u hu; obtain ⟨x, _, hx⟩ := List.mem_flatMap.1 hu; exact Array.all_eq_true'.1 (rs_one x) u (Array.mem_def.2 (Array.mem_toList_iff.1 hx |> Array.mem_toList_iff.2))
theorem infoRs : (Tryd.prog.info? 112).map (fun i => (i.zero, i.size, i.bytes)) = some (some (.agg #[.string ⟨#[]⟩, .int .i64 0, .bool false, .pointer none]), 4, 40) := by kernel_rfl
theorem rsCells_drop : ∀ (L : List Rs) (k : Nat), (rsCells L).drop (k * 4) = rsCells (L.drop k)
  | L, 0 => by simp
  | [], k + 1 => by simp [rsCells]
  | x :: T, k + 1 => by
    rw [List.drop_succ_cons, ← rsCells_drop T k]; show (rsC x ++ rsCells T).drop ((k + 1) * 4) = _; rw [List.drop_append, rsC_len, List.drop_of_length_le (by rw [rsC_len]; omega), List.nil_append]; congr 1; omega
theorem rsCells_take : ∀ (L : List Rs) (k : Nat), (rsCells L).take (k * 4) = rsCells (L.take k)
  | L, 0 => by simp [rsCells]
  | [], k + 1 => by simp [rsCells]
  | x :: T, k + 1 => by
    rw [List.take_succ_cons]; show (rsC x ++ rsCells T).take ((k + 1) * 4) = rsC x ++ rsCells (T.take k); rw [← rsCells_take T k, List.take_append, rsC_len, List.take_of_length_le (by rw [rsC_len]; omega)]; congr 2; omega
theorem rsCells_app (L M : List Rs) : rsCells L ++ rsCells M = rsCells (L ++ M) := by unfold rsCells; rw [List.flatMap_append]
theorem rs_rest {w : World} {a : Option Addr} {L : List Rs} {c k : Nat} (h : CellsA w a (rsCells L)) (hk : k ≤ L.length) (hc : L.length ≤ c) : CellsA w (if c = k then a else a.map (·.add (k * 4))) (rsCells (L.drop k)) := by
  split
  · have : L.drop k = [] := List.drop_eq_nil_of_le (by omega)
    rw [this]; exact CellsA.nil _ _
  · rw [← rsCells_drop]; exact h.drop _
theorem rs_ahead {w : World} {a : Option Addr} {L : List Rs} {c k : Nat} (h : CellsA w a (rsCells L)) : CellsA w (if c = 0 then a else a.map (·.add 0)) (rsCells (L.take k)) := by
  rw [← rsCells_take]; split
  · exact h.take _
  · exact (h.take _).add0
theorem own_nilc {w : World} {B n m c k : Nat} {e : TypeId} {a : Option Addr} {xs : List Value} (h : w.ownsRow B e m (.slice a n c) k xs) : a = none → c = 0 := by
  intro ha; rcases h.2 with ⟨e1, _⟩ | ⟨g, cap, cur, e1, _⟩
  · injection e1
  · injection e1 with e1; rw [ha] at e1; cases e1
theorem none_of2 {a : Option Addr} {p : Prop} [Decidable p] {k : Nat} (h : (if p then a else a.map (·.add k)) = none) : a = none := by
  split at h
  · exact h
  · exact Option.map_eq_none_iff.1 h
def isR (c : ByteArray) (x : Rs) : Bool := decide (x.client = c)
def absR (L : List Rs) : Sess := fun c => (L.find? (isR c)).map fun x => ⟨x.conn, x.clean, x.S⟩
def idxR (c : ByteArray) (L : List Rs) : Int := match L.findIdx? (isR c) with | some i => (i : Int) | none => -1
theorem idxR_cases (c : ByteArray) (L : List Rs) : (idxR c L = -1 ∧ (∀ x ∈ L, x.client ≠ c) ∧ absR L c = none) ∨ ∃ (k : Nat) (x : Rs), idxR c L = (k : Int) ∧ L[k]? = some x ∧ k < L.length ∧ x.client = c ∧ absR L c = some ⟨x.conn, x.clean, x.S⟩ := by
  unfold idxR absR; cases h : L.findIdx? (isR c) with
  | none =>
    rw [List.findIdx?_eq_none_iff] at h; refine Or.inl ⟨rfl, fun x hx => of_decide_eq_false (h x hx), ?_⟩; rw [List.find?_eq_none.2 (fun x hx => by rw [h x hx]; decide)]; rfl
  | some k =>
    obtain ⟨hlt, h2, h3⟩ := List.findIdx?_eq_some_iff_getElem.1 h; refine Or.inr ⟨k, L[k], rfl, List.getElem?_eq_getElem hlt, hlt, of_decide_eq_true h2, ?_⟩; rw [show L.find? (isR c) = some L[k] from List.find?_eq_some_iff_getElem.2 ⟨h2, k, hlt, rfl, fun j hj => by have := h3 j hj; simpa using this⟩]; rfl
theorem idxR_none {c : ByteArray} {L : List Rs} (h : ∀ (j : Nat) (x : Rs), j < L.length → L[j]? = some x → x.client ≠ c) : idxR c L = -1 := by
  unfold idxR; rw [List.findIdx?_eq_none_iff.2 (fun x hx => by
    obtain ⟨j, hj, e⟩ := List.getElem_of_mem hx; exact decide_eq_false (h j x hj (by rw [List.getElem?_eq_getElem hj, e])))]
theorem idxR_some {c : ByteArray} {L : List Rs} {k : Nat} {x : Rs} (h0 : ∀ (j : Nat) (x : Rs), j < k → L[j]? = some x → x.client ≠ c) (hk : L[k]? = some x) (hx : x.client = c) : idxR c L = (k : Int) := by
  obtain ⟨hlt, e⟩ := List.getElem?_eq_some_iff.1 hk; unfold idxR; rw [List.findIdx?_eq_some_iff_getElem.2 ⟨hlt, by rw [e]; exact decide_eq_true hx, fun j hj => by rw [show isR c (L[j]'(Nat.lt_trans hj hlt)) = false from decide_eq_false (h0 j _ hj (List.getElem?_eq_getElem (Nat.lt_trans hj hlt)))]; decide⟩]
theorem absR_app (A C : List Rs) (d : ByteArray) : absR (A ++ C) d = (absR A d).or (absR C d) := by
  unfold absR; rw [List.find?_append]; cases A.find? (isR d) <;> rfl
theorem absR_cons (x : Rs) (C : List Rs) (d : ByteArray) : absR (x :: C) d = if x.client = d then some ⟨x.conn, x.clean, x.S⟩ else absR C d := by
  unfold absR; rw [List.find?_cons]; by_cases h : x.client = d
  · rw [if_pos h, show isR d x = true from decide_eq_true h]; rfl
  · rw [if_neg h, show isR d x = false from decide_eq_false h]
theorem absR_no {A : List Rs} {d : ByteArray} (h : ∀ x ∈ A, x.client ≠ d) : absR A d = none := by
  unfold absR; rw [List.find?_eq_none.2 (fun x hx => by rw [show isR d x = false from decide_eq_false (h x hx)]; decide)]; rfl
theorem absR_snoc {L : List Rs} {y : Rs} (h : ∀ x ∈ L, x.client ≠ y.client) : absR (L ++ [y]) = updS (absR L) y.client (some ⟨y.conn, y.clean, y.S⟩) := by
  funext d
  rw [absR_app, absR_cons]; unfold updS; by_cases e : d = y.client
  · rw [if_pos e, if_pos e.symm, e, absR_no h]; rfl
  · rw [if_neg e, if_neg (fun h => e h.symm)]
    show (absR L d).or (absR [] d) = _; cases absR L d <;> rfl
theorem split_at {L : List Rs} {k : Nat} {x : Rs} (hk : L[k]? = some x) : L = L.take k ++ x :: L.drop (k + 1) := by
  obtain ⟨hlt, e⟩ := List.getElem?_eq_some_iff.1 hk; rw [← e, List.getElem_cons_drop, List.take_append_drop]
theorem ahead_ne {L : List Rs} {k : Nat} {x : Rs} (hk : L[k]? = some x) (hn : (L.map (·.client)).Nodup) : (∀ z ∈ L.take k, z.client ≠ x.client) ∧ (∀ z ∈ L.drop (k + 1), z.client ≠ x.client) := by
  rw [split_at hk, List.map_append, List.nodup_append] at hn; obtain ⟨_, h2, h3⟩ := hn; rw [List.map_cons, List.nodup_cons] at h2; exact ⟨fun z hz e => h3 z.client (List.mem_map_of_mem hz) x.client (by simp) e, fun z hz e => h2.1 (e ▸ List.mem_map_of_mem hz)⟩
theorem absR_del {L : List Rs} {k : Nat} {x : Rs} (hk : L[k]? = some x) (hn : (L.map (·.client)).Nodup) : absR (L.take k ++ L.drop (k + 1)) = updS (absR L) x.client none := by
  obtain ⟨h1, h2⟩ := ahead_ne hk hn; funext d
  conv => rhs; rw [split_at hk]
  unfold updS; rw [absR_app]; by_cases e : d = x.client
  · rw [if_pos e, e, absR_no h1, absR_no h2]; rfl
  · rw [if_neg e, absR_app, absR_cons, if_neg (fun h => e h.symm)]
theorem set_is {L : List Rs} {k : Nat} {x : Rs} (hk : L[k]? = some x) (y : Rs) : L.set k y = L.take k ++ y :: L.drop (k + 1) := by
  obtain ⟨hlt, _⟩ := List.getElem?_eq_some_iff.1 hk; rw [List.set_eq_take_append_cons_drop, if_pos hlt]
theorem absR_set {L : List Rs} {k : Nat} {x y : Rs} (hk : L[k]? = some x) (hn : (L.map (·.client)).Nodup) (hy : y.client = x.client) : absR (L.set k y) = updS (absR L) x.client (some ⟨y.conn, y.clean, y.S⟩) := by
  obtain ⟨h1, h2⟩ := ahead_ne hk hn; funext d
  rw [set_is hk]; conv => rhs; rw [split_at hk]
  unfold updS; rw [absR_app, absR_cons, hy]; by_cases e : d = x.client
  · rw [if_pos e, if_pos e.symm, e, absR_no h1]; rfl
  · rw [if_neg e, if_neg (fun h => e h.symm), absR_app, absR_cons, if_neg (fun h => e h.symm)]
theorem updS_upd (σ : Sess) (c : ByteArray) (a b : Option Se) : updS (updS σ c a) c b = updS σ c b := by
  funext d
  unfold updS; split <;> rfl
def HasT (w : World) (j : Nat) (T : TypeId) : Prop := ∃ cur fr, w.heap[j]? = some (.cells cur T fr)
theorem HasT.ne {w : World} {i j : Nat} {T U : TypeId} (h : HasT w i T) (k : HasT w j U) (hn : T ≠ U) : i ≠ j := by
  rintro rfl; obtain ⟨c, f, h1⟩ := h; obtain ⟨c', f', h2⟩ := k; rw [h1] at h2; injection h2 with h2
  injection h2 with _ h3
  exact hn h3
theorem BoxAt.hasT {w : World} {X : Nat} {cs : Array Value} {T : TypeId} (h : BoxAt w X cs T) : HasT w X T := ⟨_, _, h⟩
theorem own_hasT {w : World} {B n m : Nat} {e : TypeId} {v : Value} {xs : List Value} (h : w.ownsRow B e m v n xs) {g : Nat} (hg : v.ownBlock = some g) : HasT w g e := by
  rcases h.2 with ⟨rfl, _⟩ | ⟨g', cap, cur, rfl, _, hh, _⟩
  · simp [Value.ownBlock] at hg
  · have : g' = g := by simpa [Value.ownBlock] using hg
    subst this; exact ⟨_, _, hh⟩
theorem RowAt.hasT {w : World} {B n m : Nat} {e : TypeId} {v : Value} {xs : List Value} (h : RowAt w B e m v n xs) {g : Nat} (hg : v.ownBlock = some g) : HasT w g e := by
  rcases h.2 with ⟨rfl, _⟩ | ⟨g', cap, cur, rfl, _, hh, _⟩
  · simp [Value.ownBlock] at hg
  · have : g' = g := by simpa [Value.ownBlock] using hg
    subst this; exact ⟨_, _, hh⟩
theorem OneAt.hasT {w : World} {g : Nat} {T : TypeId} {v : Value} (h : OneAt w g T v) : HasT w g T := ⟨_, _, h⟩
structure RsAt (w : World) (B : Nat) (x : Rs) : Prop where
  list : RAt w B x.g x.v x.S
  fine : Fine x.S
  conn : 0 ≤ x.conn
def FarR (x z : Rs) : Prop := x.g ≠ z.g ∧ ∀ r, x.v.ownBlock = some r → z.v.ownBlock ≠ some r
theorem FarR.symm {x z : Rs} (h : FarR x z) : FarR z x := ⟨fun e => h.1 e.symm, fun r h1 h2 => h.2 r h2 h1⟩
theorem RsAt.only {F : Nat → Prop} {w w' : World} {B : Nat} {x : Rs} (h : RsAt w B x) (k : Only F w w') (h1 : ¬ F x.g) (h2 : ∀ r, x.v.ownBlock = some r → ¬ F r) : RsAt w' B x := ⟨h.list.only k h1 h2, h.fine, h.conn⟩
structure RmAt (w : World) (B m K : Nat) (vl vk : Value) (L : List Rs) (Q : List Ms) : Prop where
  box : BoxAt w m #[vl, .pointer (some ⟨K, 0, none⟩)] 106
  own : w.ownsRow B 112 4 vl L.length (rsCells L)
  kp : KpAt w B K vk Q
  st : ∀ x ∈ L, RsAt w B x
  nd : (L.map (·.client)).Nodup
  far : L.Pairwise FarR
  lo : B ≤ m
section
variable {w w' : World} {B m K : Nat} {vl vk : Value} {L : List Rs} {Q : List Ms}
theorem RmAt.below (h : RmAt w B m K vl vk L Q) (k : Below w.heap.size w w') : RmAt w' B m K vl vk L Q :=
  have k2 := Only.of_below k (fun _ => False)
  ⟨h.box.below k, own_only h.own k2 (fun _ _ h => h), h.kp.below k, fun x hx => (h.st x hx).only k2 (fun h => h) (fun _ _ h => h), h.nd, h.far, h.lo⟩
theorem RmAt.setK (h : RmAt w B m K vl vk L Q) (k : Only (fun j => j = K) w w') {vk' : Value} {Q' : List Ms} (hk : KpAt w' B K vk' Q') : RmAt w' B m K vl vk' L Q' := by
  have hK := h.kp.box.hasT; exact ⟨h.box.only k (h.box.hasT.ne hK (by decide)), own_only h.own k (fun g hg => (own_hasT h.own hg).ne hK (by decide)), hk,
    fun x hx => (h.st x hx).only k ((h.st x hx).list.blk.hasT.ne hK (by decide)) (fun r hr => ((h.st x hx).list.own.hasT hr).ne hK (by decide)), h.nd, h.far, h.lo⟩
theorem RmAt.setM (h : RmAt w B m K vl vk L Q) {F : Nat → Prop} (k : Only F w w') (hF : ∀ j, j < w.heap.size → F j → HasT w j 106 ∨ HasT w j 112) {vl' : Value} {L' : List Rs} (hb : BoxAt w' m #[vl', .pointer (some ⟨K, 0, none⟩)] 106) (ho : w'.ownsRow B 112 4 vl' L'.length (rsCells L'))
    (hst : ∀ x ∈ L', RsAt w B x ∨ RsAt w' B x) (hnd : (L'.map (·.client)).Nodup) (hfar : L'.Pairwise FarR) : RmAt w' B m K vl' vk L' Q := by
  have key : ∀ {j : Nat} {U : TypeId}, HasT w j U → 106 ≠ U → 112 ≠ U → ¬ F j := fun {j U} hj hn hn2 hf => by
    rcases hF j (by obtain ⟨c, f, hc⟩ := hj; exact (Array.getElem?_eq_some_iff.1 hc).1) hf with h1 | h1
    · exact h1.ne hj hn rfl
    · exact h1.ne hj hn2 rfl
  refine ⟨hb, ho, ⟨h.kp.box.only k (key h.kp.box.hasT (by decide) (by decide)), own_only h.kp.own k (fun g hg => key (own_hasT h.kp.own hg) (by decide) (by decide)), h.kp.lo⟩, fun x hx => ?_, hnd, hfar, h.lo⟩; rcases hst x hx with h1 | h1
  · exact h1.only k (key h1.list.blk.hasT (by decide) (by decide)) (fun r hr => key (h1.list.own.hasT hr) (by decide) (by decide))
  · exact h1
theorem far_lt {x : Rs} (h : RsAt w B x) : x.g < w.heap.size ∧ ∀ r, x.v.ownBlock = some r → r < w.heap.size :=
  ⟨h.list.blk.lt, fun _r hr => (h.list.own.lt hr).1⟩
theorem RmAt.setL (h : RmAt w B m K vl vk L Q) {i : Nat} {x : Rs} (hi : L[i]? = some x) (k : Only (Foot x.g x.v) w w') {v' : Value} {S' : List Sb} (hl : RAt w' B x.g v' S') (hf : Fine S') (hv : ∀ r, v'.ownBlock = some r → x.v.ownBlock = some r ∨ w.heap.size ≤ r) : RmAt w' B m K vl vk (L.set i { x with v := v', S := S' }) Q := by
  have hx := h.st x (List.mem_of_getElem? hi); have key : ∀ {j : Nat} {U : TypeId}, HasT w j U → U ≠ 114 → U ≠ 46 → ¬ Foot x.g x.v j := fun {j U} hj hn hn2 hf => by
    rcases hf with rfl | hf
    · exact hj.ne hx.list.blk.hasT hn rfl
    · exact hj.ne (hx.list.own.hasT hf) hn2 rfl
  have hfar := h.far; rw [split_at hi, List.pairwise_append, List.pairwise_cons] at hfar; obtain ⟨f1, ⟨f2, f3⟩, f4⟩ := hfar; have hz : ∀ z, z ∈ L → FarR x z → RsAt w' B z := fun z hz hfz => by
    have hzs := h.st z hz; refine hzs.only k ?_ ?_
    · rintro (e | e)
      · exact hfz.1 e.symm
      · exact hzs.list.blk.hasT.ne (hx.list.own.hasT e) (by decide) rfl
    · rintro r hr (e | e)
      · exact (hzs.list.own.hasT hr).ne hx.list.blk.hasT (by decide) e
      · exact hfz.2 r e hr
  have mA : ∀ z ∈ L.take i, z ∈ L := fun z hz => List.mem_of_mem_take hz
  have mC : ∀ z ∈ L.drop (i + 1), z ∈ L := fun z hz => List.mem_of_mem_drop hz
  have hnew : ∀ z, z ∈ L → FarR x z → FarR { x with v := v', S := S' } z := fun z hz hfz => ⟨hfz.1, fun r h1 h2 => by
    rcases hv r h1 with h3 | h3
    · exact hfz.2 r h3 h2
    · have := (far_lt (h.st z hz)).2 r h2; omega⟩
  rw [set_is hi]; have hlen : (L.take i ++ { x with v := v', S := S' } :: L.drop (i + 1)).length = L.length := by rw [← set_is hi, List.length_set]
  have hcells : rsCells (L.take i ++ { x with v := v', S := S' } :: L.drop (i + 1)) = rsCells L := by
    conv => rhs; rw [split_at hi]
    unfold rsCells; rw [List.flatMap_append, List.flatMap_append, List.flatMap_cons, List.flatMap_cons]; rfl
  have hcl : (L.take i ++ { x with v := v', S := S' } :: L.drop (i + 1)).map (·.client) = L.map (·.client) := by
    conv => rhs; rw [split_at hi]
    rw [List.map_append, List.map_append, List.map_cons, List.map_cons]
  refine ⟨h.box.only k (key h.box.hasT (by decide) (by decide)), ?_, ⟨h.kp.box.only k (key h.kp.box.hasT (by decide) (by decide)), own_only h.kp.own k (fun g hg => key (own_hasT h.kp.own hg) (by decide) (by decide)), h.kp.lo⟩, ?_, by rw [hcl]; exact h.nd, ?_, h.lo⟩
  · rw [hlen, hcells]; exact own_only h.own k (fun g hg => key (own_hasT h.own hg) (by decide) (by decide))
  · intro z hz'
    rcases List.mem_append.1 hz' with h1 | h1
    · exact hz z (mA z h1) (f4 z h1 x (List.mem_cons_self ..)).symm
    · rcases List.mem_cons.1 h1 with rfl | h1
      · exact ⟨hl, hf, hx.conn⟩
      · exact hz z (mC z h1) (f2 z h1)
  · rw [List.pairwise_append, List.pairwise_cons]
    refine ⟨f1, ⟨fun z h1 => hnew z (mC z h1) (f2 z h1), f3⟩, fun a ha b hb => ?_⟩; rcases List.mem_cons.1 hb with rfl | hb
    · exact (hnew a (mA a ha) (f4 a ha x (List.mem_cons_self ..)).symm).symm
    · exact f4 a ha b (List.mem_cons_of_mem _ hb)
end
end Go.Proofs.YtnnpokndajpkiaaDoor
namespace Go.Proofs.YtnnpokndajpkiaaDoor
open Go.RowKit
set_option maxRecDepth 100000 in
set_option maxHeartbeats 4000000 in
theorem ref25_New {w : World} (hE : Env w) : Calls Tryd.prog 33 #[] w fun e w' => ∃ m K, e = .returned (.pointer (some ⟨m, 0, none⟩)) ∧ RmAt w' w.heap.size m K (.slice none 0 0) (.slice none 0 0) [] [] ∧ Below w.heap.size w w' := by
  obtain ⟨RR, hRR⟩ : ∃ RR : Ending → World → Prop, RR = fun e w' => ∃ m K, e = .returned (.pointer (some ⟨m, 0, none⟩)) ∧ RmAt w' w.heap.size m K (.slice none 0 0) (.slice none 0 0) [] [] ∧ Below w.heap.size w w' := ⟨_, rfl⟩
  have FIN := Lib.hid (show ∀ m K w', RmAt w' w.heap.size m K (.slice none 0 0) (.slice none 0 0) [] [] → Below w.heap.size w w' → RR (.returned (.pointer (some ⟨m, 0, none⟩))) w' from fun m K w' h1 h2 => by rw [hRR]; exact ⟨m, K, rfl, h1, h2⟩); rw [← hRR]; obtain ⟨w9, hw9⟩ : ∃ w9, w9 = w := ⟨_, rfl⟩
  have HK : Keep w [] [] w9 := by rw [hw9]; exact Keep.begin hE _ (by intro r hr; cases hr)
  suffices hgo : Calls Tryd.prog 33 #[] w9 RR by rw [hw9] at hgo; exact hgo
  clear hw9 hRR hE; go_enter Tryd.func33, Tryd.ntmps33
  refine wp_forget (n := 5) (L := []) (FrL.nil ?_ ?_) ?_; iterate 2 rfl
  intro a9 F; refine xG F k0 [.c] [(0, .pointer none)] ?_; clear F a9; intro a9 F; refine xR ?_; refine fr_do F (wanted_free rfl) 1 rfl (by decide) (.agg #[.slice none 0 0]) (by intro a' F'; exact run_build_to rfl (by simp only [List.map_toArray, List.map_nil, Act.eval]; kernel_rfl)) ?_; clear F a9; intro a9 F; refine fr_box F HK 2 (by decide) rfl 103 _ rfl rfl #[.slice none 0 0] (fun a' F' => F'.ev 1 rfl) ?_; rintro K a10 w10 hX F' HK' hb; clear HK F hb hX; clear a9 w9; rename World => w9
  rename Act => a9
  have HK := HK'; have F := F'; clear HK' F'; replace HK : Keep w [(K, #[.slice none 0 0], 103)] [] w9 := HK; refine fr_do F (wanted_free rfl) 3 rfl (by decide) (.agg #[.slice none 0 0, pQ K 0]) (by intro a' F'; have g2 := F'.get 2 rfl; exact run_build_to rfl (by simp only [List.map_toArray, List.map_cons, List.map_nil, Act.eval, g2]; kernel_rfl)) ?_; clear F a9; intro a9 F; refine fr_box F HK 4 (by decide) rfl 106 _ rfl rfl #[.slice none 0 0, pQ K 0] (fun a' F' => F'.ev 3 rfl) ?_; rintro m a10 w10 hX F' HK' hb; clear HK F hb hX; clear a9 w9; rename World => w9
  rename Act => a9
  have HK := HK'; have F := F'; clear HK' F'; replace HK : Keep w [(m, #[.slice none 0 0, .pointer (some ⟨K, 0, none⟩)], 106), (K, #[.slice none 0 0], 103)] [] w9 := HK; refine fr_as F (wanted_free rfl) 0 rfl (by decide) 4 rfl rfl ?_; clear F a9; intro a9 F; refine xW ?_; refine wp_ret ?_; exact fr_ret1 F rfl _ rfl (FIN.out m K _ ⟨HK.at 0 rfl, World.ownsRow_nil _ _ _ _, ⟨HK.at 1 rfl, World.ownsRow_nil _ _ _ _, HK.up _ (List.mem_cons_of_mem _ (List.mem_cons_self ..))⟩, (fun x hx => by cases hx), List.nodup_nil, List.Pairwise.nil, HK.up _ (List.mem_cons_self ..)⟩ HK.low)
set_option maxRecDepth 100000 in
set_option maxHeartbeats 4000000 in
theorem ref25_Find {w : World} (hE : Env w) {m B : Nat} {vl kp : Value} {L : List Rs} (c : ByteArray) (hb : BoxAt w m #[vl, kp] 106) (ho : w.ownsRow B 112 4 vl L.length (rsCells L)) (hfew : L.length ≤ 1000000) : Calls Tryd.prog 56 #[.pointer (some ⟨m, 0, none⟩), .string c] w fun e w' => e = .returned (.int .i64 (idxR c L)) ∧ Below w.heap.size w w' := by
  obtain ⟨RR, hRR⟩ : ∃ RR : Ending → World → Prop, RR = fun e w' => e = .returned (.int .i64 (idxR c L)) ∧ Below w.heap.size w w' := ⟨_, rfl⟩
  have FIN := Lib.hid (show ∀ i w', i = idxR c L → Below w.heap.size w w' → RR (.returned (.int .i64 i)) w' from fun i w' h1 hb => by rw [hRR, h1]; exact ⟨rfl, hb⟩); rw [← hRR]; obtain ⟨a, ca, hv, hlc, hcs⟩ := own_form ho; subst hv; have HB := Lib.hid hb; obtain ⟨b, o0, hrow⟩ := row_at rsC_len (by decide) hcs; have HR := Lib.hid hrow; obtain ⟨w9, hw9⟩ : ∃ w9, w9 = w := ⟨_, rfl⟩
  have HK : Keep w [] [] w9 := by rw [hw9]; exact Keep.begin hE _ (by intro r hr; cases hr)
  suffices hgo : Calls Tryd.prog 56 #[.pointer (some ⟨m, 0, none⟩), .string c] w9 RR by rw [hw9] at hgo; exact hgo
  clear hw9 hRR hE hb ho hcs hrow; go_enter Tryd.func56, Tryd.ntmps56
  refine wp_forget (n := 26) (L := [(1, .string c), (0, pQ m 0)]) (FrL.add (FrL.add (FrL.nil ?_ ?_) _ _ ?_) _ _ ?_) ?_; iterate 4 rfl
  intro a9 F; refine xG F k0 [.c] [(4, .int .i64 0), (1, .string c), (0, pQ m 0)] ?_; clear F a9; intro a9 F; refine wp_seq ?_; refine xG F k0 [.c] [(5, .int .i64 0), (4, .int .i64 0), (1, .string c), (0, pQ m 0)] ?_; clear F a9; intro a9 F; refine wp_block_end (fun a' w' => (∃ kk : Nat, FrL 26 [(5, .int .i64 (kk : Int)), (4, .int .i64 0), (1, .string c), (0, pQ m 0)] a') ∧ Keep w [] [] w' ∧ (∀ (j : Nat) (x : Rs), j < L.length → L[j]? = some x → x.client ≠ c)) ?_ ?_
  ·
   refine wp_loop (fun a' w' => ∃ k : Nat, k ≤ L.length ∧ FrL 26 [(5, .int .i64 (k : Int)), (4, .int .i64 0), (1, .string c), (0, pQ m 0)] a' ∧ Keep w [] [] w' ∧ (∀ (j : Nat) (x : Rs), j < k → L[j]? = some x → x.client ≠ c)) (fun a' _ => muI (L.length) 5 a') ⟨0, Nat.zero_le _, F, HK, fun j x h => absurd h (Nat.not_lt_zero _)⟩ ?_; clear F a9 HK w9; rintro a9 w9 ⟨k, hk_k, F, HK, h0⟩; rw [muI_at F 5 k rfl]; have H0 := Lib.hid h0; clear h0; refine wp_seq ?_; by_cases hlt_k : k < L.length
   ·
    refine xG F (kOF [⟨m, 0, [.slice a L.length ca, kp]⟩] ⟨(HB.out.below HK.low).range, trivial⟩ [(.bool (decide ((((k : Int)) : Int) < (L.length : Int))), .bool true)] ⟨dcT (by omega), trivial⟩) (xC 4 ([.l 0 0, .c, .f 0])) [(12, .bool true), (5, .int .i64 (k : Int)), (4, .int .i64 0), (1, .string c), (0, pQ m 0)] ?_; clear F a9; intro a9 F; refine wp_cond_true (F.ev 12 rfl) ?_; refine xK ?_; replace F := F.cut [(5, .int .i64 (k : Int)), (4, .int .i64 0), (1, .string c), (0, pQ m 0)] (by kernel_rfl); obtain ⟨x, hx⟩ : ∃ x, L[k]? = some x := ⟨_, List.getElem?_eq_getElem hlt_k⟩
    obtain ⟨hal, hxr⟩ := HR.out k x hx; obtain ⟨q, hq⟩ : ∃ q, o0 + k * 4 = q := ⟨_, rfl⟩
    rw [hq] at hxr; have HAL := Lib.hid hal; have HQ := Lib.hid hq; have HXK := Lib.hid hx; have HX := Lib.hid (fun w9 (h : Below w.heap.size w w9) => range_below hxr h); clear hx hxr hq hal; refine wp_seq ?_; refine wp_block_end (fun a' w' => FrL 26 [(5, .int .i64 (k : Int)), (4, .int .i64 0), (1, .string c), (0, pQ m 0)] a' ∧ Keep w [] [] w' ∧ x.client ≠ c) ?_ ?_
    ·
     by_cases hc : x.client = c
     ·
      refine xG F ⟨[⟨m, 0, [.slice a L.length ca, kp]⟩, ⟨b, q, rsC x⟩], [(.bool ((x.client : ByteArray).toList == (c : ByteArray).toList), .bool true)], [⟨a, L.length, ca, .i64, ((k : Nat) : Int), 4, ⟨b, q, none⟩⟩], ⟨(HB.out.below HK.low).range, HX.out _ HK.low, trivial⟩, ⟨eqS (hc), trivial⟩, ⟨⟨b, o0, k, HAL.out, rfl, hlt_k, by rw [HQ.out]⟩, trivial⟩⟩ (xC 3 ([.l 0 0, .c, .i 0, .c, .l 1 0, .c, .f 0])) [(24, .bool true), (5, .int .i64 (k : Int)), (4, .int .i64 0), (1, .string c), (0, pQ m 0)] ?_; clear F a9; intro a9 F; refine wp_cond_true (F.ev 24 rfl) ?_; refine xG F k0 [.c, .c] [(4, .int .i64 (k : Int))] ?_; clear F a9; intro a9 F; refine wp_ret ?_; exact fr_ret1 F rfl _ rfl (FIN.out _ _ (idxR_some H0.out HXK.out hc).symm HK.low)
     ·
      refine xG F ⟨[⟨m, 0, [.slice a L.length ca, kp]⟩, ⟨b, q, rsC x⟩], [(.bool ((x.client : ByteArray).toList == (c : ByteArray).toList), .bool false)], [⟨a, L.length, ca, .i64, ((k : Nat) : Int), 4, ⟨b, q, none⟩⟩], ⟨(HB.out.below HK.low).range, HX.out _ HK.low, trivial⟩, ⟨eqS' (hc), trivial⟩, ⟨⟨b, o0, k, HAL.out, rfl, hlt_k, by rw [HQ.out]⟩, trivial⟩⟩ (xC 3 ([.l 0 0, .c, .i 0, .c, .l 1 0, .c, .f 0])) [(24, .bool false), (5, .int .i64 (k : Int)), (4, .int .i64 0), (1, .string c), (0, pQ m 0)] ?_; clear F a9; intro a9 F; refine wp_cond_false (F.ev 24 rfl) ?_; refine wp_skip ?_; exact ⟨(((((FrL.nil F.size F.defers).add 0 _ (F.at' 0 _ rfl)).add 1 _ (F.at' 1 _ rfl)).add 4 _ (F.at' 4 _ rfl)).add 5 _ (F.at' 5 _ rfl)), HK, hc⟩
    · clear F a9 HK
      rintro a9 w8 ⟨F, HK, hbn⟩; clear w9; rename World => w9
      show Code.wp _ _ _ _ _; refine wp_region_lit ?_; refine xP F (kF [(.int .i64 (IntKind.i64.wrap ((k : Int) + 1)), .int .i64 ((k + 1 : Nat) : Int))] ⟨addI (by omega), trivial⟩) [.c, .f 0, .c] [(5, .int .i64 ((k + 1 : Nat) : Int)), (4, .int .i64 0), (1, .string c), (0, pQ m 0)] ?_; clear F a9; intro a9 F; refine wpList_nil ?_; replace F : FrL 26 [(5, .int .i64 ((k + 1 : Nat) : Int)), (4, .int .i64 0), (1, .string c), (0, pQ m 0)] a9 := F; refine ⟨⟨k + 1, by omega, F, HK, fun j x hj hjx => by
          rcases Nat.lt_succ_iff_lt_or_eq.1 hj with h | h
          · exact H0.out j x h hjx
          · subst h
            rw [HXK.out] at hjx; injection hjx with hjx
            rw [← hjx]; exact hbn⟩, ?_⟩
      rw [muI_at F 5 (k + 1) rfl]; omega
   · have hk2_k : k = L.length := by omega
     subst hk2_k; refine xG F (kOF [⟨m, 0, [.slice a L.length ca, kp]⟩] ⟨(HB.out.below HK.low).range, trivial⟩ [(.bool (decide ((((L.length : Int)) : Int) < (L.length : Int))), .bool false)] ⟨dcF (by omega), trivial⟩) (xC 4 ([.l 0 0, .c, .f 0])) [(12, .bool false), (5, .int .i64 (L.length : Int)), (4, .int .i64 0), (1, .string c), (0, pQ m 0)] ?_; clear F a9; intro a9 F; refine wp_cond_false (F.ev 12 rfl) ?_; refine wp_exit ?_; exact then_exit (then_exit (exit_in ⟨⟨L.length, (((((FrL.nil F.size F.defers).add 0 _ (F.at' 0 _ rfl)).add 1 _ (F.at' 1 _ rfl)).add 4 _ (F.at' 4 _ rfl)).add 5 _ (F.at' 5 _ rfl))⟩, HK, H0.out⟩))
  · clear F a9 HK
    rintro a9 w8 ⟨⟨kk, F⟩, HK, h0⟩; clear w9; rename World => w9
    show Code.wp _ _ _ _ _; refine xG F k0 [.c] [(4, .int .i64 (-1))] ?_; clear F a9; intro a9 F; refine wp_ret ?_; exact fr_ret1 F rfl _ rfl (FIN.out _ _ (idxR_none h0).symm HK.low)
theorem own_set2 {w : World} {B n m : Nat} {e : TypeId} {v : Value} {xs : List Value} (h : w.ownsRow B e m v n xs) (x y : Value) : setMany #[x, y] 0 v.cells.toList = #[v, y] := by
  rcases h.2 with ⟨rfl, _⟩ | ⟨g, cap, cur, rfl, _⟩ <;> rfl
set_option maxRecDepth 100000 in
set_option maxHeartbeats 4000000 in
theorem ref25_gone {w0 w : World} (HK0 : Keep w0 [] [] w) {m i : Nat} {vl kp : Value} {L : List Rs} (hb : BoxAt w m #[vl, kp] 106) (hlo : w0.heap.size ≤ m) (ho : w.ownsRow w0.heap.size 112 4 vl L.length (rsCells L)) (hi : i < L.length) (hfew : L.length ≤ 1000000) : Calls Tryd.prog 57 #[.pointer (some ⟨m, 0, none⟩), .int .i64 (i : Int)] w fun e w' => ∃ vl', e = .returned (.tuple #[]) ∧ BoxAt w' m #[vl', kp] 106 ∧ w'.ownsRow w.heap.size 112 4 vl' (L.take i ++ L.drop (i + 1)).length (rsCells (L.take i ++ L.drop (i + 1))) ∧ Keep w0 [] [] w' ∧ Only (fun j => j = m) w w' := by
  have hE := HK0.env; obtain ⟨RR, hRR⟩ : ∃ RR : Ending → World → Prop, RR = fun e w' => ∃ vl', e = .returned (.tuple #[]) ∧ BoxAt w' m #[vl', kp] 106 ∧ w'.ownsRow w.heap.size 112 4 vl' (L.take i ++ L.drop (i + 1)).length (rsCells (L.take i ++ L.drop (i + 1))) ∧ Keep w0 [] [] w' ∧ Only (fun j => j = m) w w' := ⟨_, rfl⟩
  have FIN := Lib.hid (show ∀ vl' w', BoxAt w' m #[vl', kp] 106 → w'.ownsRow w.heap.size 112 4 vl' (L.take i ++ L.drop (i + 1)).length (rsCells (L.take i ++ L.drop (i + 1))) → Keep w0 [] [] w' → Only (fun j => j = m) w w' → RR (.returned (.tuple #[])) w' from fun vl' w' h1 h2 h3 h4 => by rw [hRR]; exact ⟨vl', rfl, h1, h2, h3, h4⟩); rw [← hRR]; obtain ⟨a, ca, hv, hlc, hcs⟩ := own_form ho; have hnil := own_nilc (a := a) (n := L.length) (c := ca) (hv ▸ ho); subst hv; have HB := Lib.hid hb; have HCS := Lib.hid hcs; have HNIL := Lib.hid hnil; have H0 := Lib.hid HK0; have hsz := HK0.size; have hmw := hb.lt; obtain ⟨w9, hw9⟩ : ∃ w9, w9 = w := ⟨_, rfl⟩
  have HK : Keep w [] [] w9 := by rw [hw9]; exact Keep.begin hE _ (by intro r hr; cases hr)
  suffices hgo : Calls Tryd.prog 57 #[.pointer (some ⟨m, 0, none⟩), .int .i64 (i : Int)] w9 RR by rw [hw9] at hgo; exact hgo
  clear hw9 hRR hE hb ho hcs HK0 hnil; go_enter Tryd.func57, Tryd.ntmps57
  refine wp_forget (n := 25) (L := [(1, .int .i64 (i : Int)), (0, pQ m 0)]) (FrL.add (FrL.add (FrL.nil ?_ ?_) _ _ ?_) _ _ ?_) ?_; iterate 4 rfl
  intro a9 F; refine xG F k0 [.c] [(4, .slice none 0 0), (1, .int .i64 (i : Int)), (0, pQ m 0)] ?_; clear F a9; intro a9 F; obtain ⟨i0, hi0, hz0, hz1, hz2⟩ := info_parts infoRs; refine xR ?_; refine xP F (kO [⟨m, 0, [.slice a L.length ca, kp]⟩] ⟨(HB.out.below HK.low).range, trivial⟩) (xC 4 ([.l 0 0, .c])) [(10, .int .i64 (i : Int)), (9, .slice a L.length ca), (5, .slice none 0 0), (4, .slice none 0 0), (1, .int .i64 (i : Int)), (0, pQ m 0)] ?_; clear F a9; intro a9 F; refine fr_do F (wanted_free rfl) 11 rfl (by decide) (.slice (if ca = 0 then a else a.map (·.add 0)) i ca) (fun a' F' => op_cutH Tryd.underlying104 hi0 hz1 rfl (F'.ev 9 rfl) (F'.ev 10 rfl) (by omega) rfl) ?_; clear F a9; intro a9 F; refine fr_appendP F rfl 12 rfl (by decide) (.tmp 5) (.tmp 11) 104 rfl w.heap.size 112 i0 _ 4 40 Tryd.underlying104 hi0 hz0 hz1 hz2 rfl (by decide) (.slice none 0 0) (0) ([]) (F.ev 5 rfl) (World.ownsRow_nil w9 w.heap.size 112 4) ((if ca = 0 then a else a.map (·.add 0))) (i) (ca) (fun h => HNIL.out (none_of2 h)) (rsCells (L.take i)) (F.ev 11 rfl) (by rw [rsCells_len, List.length_take]; omega) (rs_ahead (HCS.out.below HK.low)) (rs_ones _) (by unfold maxLen; omega) (by omega) HK.size ?_; intro v8 w8 hown hgr; have HK2 := HK.grownBoxM (World.ownsRow_nil w9 w.heap.size 112 4) (Nat.le_refl _) hgr (by intro z hz; cases hz); clear HK hgr; have HK := HK2; clear HK2; clear w9; rename World => w9
  clear F a9; intro a9 F; refine xE F k0 [.c] [(4, v8), (1, .int .i64 (i : Int)), (0, pQ m 0)] ?_; clear F a9; intro a9 F; obtain ⟨vA, hvA⟩ : ∃ z, v8 = z := ⟨_, rfl⟩
  rw [hvA] at hown F; clear hvA v8; have HO := hown; clear hown; rw [List.nil_append] at HO; refine wp_region_lit ?_; refine xP F (kOF [⟨m, 0, [.slice a L.length ca, kp]⟩] ⟨(HB.out.below HK.low).range, trivial⟩ [(.int .i64 (IntKind.i64.wrap ((i : Int) + 1)), .int .i64 ((i + 1 : Nat) : Int))] ⟨addI (by omega), trivial⟩) (xC 5 ([.l 0 0, .c, .f 0])) [(20, .int .i64 ((i + 1 : Nat) : Int)), (18, .slice a L.length ca), (14, vA), (13, pQ m 0), (0, pQ m 0)] ?_; clear F a9; intro a9 F; refine fr_do F (wanted_free rfl) 21 rfl (by decide) (.slice (if ca = (i + 1) then a else a.map (·.add ((i + 1) * 4))) (L.length - (i + 1)) (ca - (i + 1))) (fun a' F' => op_cutL Tryd.underlying104 hi0 hz1 rfl (F'.ev 18 rfl) (F'.ev 20 rfl) (by omega) rfl) ?_; clear F a9; intro a9 F; refine fr_appendP F rfl 22 rfl (by decide) (.tmp 14) (.tmp 21) 104 rfl w.heap.size 112 i0 _ 4 40 Tryd.underlying104 hi0 hz0 hz1 hz2 rfl (by decide) (vA) (0 + i) (rsCells (L.take i)) (F.ev 14 rfl) (HO) ((if ca = (i + 1) then a else a.map (·.add ((i + 1) * 4)))) (L.length - (i + 1)) (ca - (i + 1)) (fun h => by rw [HNIL.out (none_of2 h), Nat.zero_sub]) (rsCells (L.drop (i + 1))) (F.ev 21 rfl) (by rw [rsCells_len, List.length_drop]) (rs_rest (HCS.out.below HK.low) (by omega) hlc) (rs_ones _) (by unfold maxLen; omega) (by omega) HK.size ?_; intro v8 w8 hown hgr; have HK2 := HK.grownBoxM (HO) (Nat.le_refl _) hgr (by intro z hz; cases hz); clear HK HO hgr; have HK := HK2; clear HK2; clear w9; rename World => w9
  clear F a9; intro a9 F; refine xP F k0 [.c, .c] [(24, pQ m 0), (22, v8), (14, vA), (13, pQ m 0), (0, pQ m 0)] ?_; clear F a9; intro a9 F; rw [rsCells_app] at hown; have HO := hown; clear hown hi0 hz0 hz1 hz2 i0; have hlen : 0 + i + (L.length - (i + 1)) = (L.take i ++ L.drop (i + 1)).length := by rw [List.length_append, List.length_take, List.length_drop]; omega
  rw [hlen] at HO; clear hlen; have HKf := (H0.out.below HK.low).withBox ⟨m, #[.slice a L.length ca, kp], 106⟩ (HB.out.below HK.low) hlo (fun z hz => by cases hz); have hlow := HK.low; clear HK; have HK := HKf; clear HKf; replace HK : Keep w0 [(m, #[.slice a L.length ca, kp], 106)] [] w9 := HK; refine fr_putO F HK 0 rfl rfl rfl 104 _ _ rfl 0 v8 (fun a' F' => F'.ev 24 rfl) (fun a' F' => F'.ev 22 rfl) (by rw [own_size1 HO]; kernel_rfl) (by rw [own_size1 HO]; exact Nat.succ_le_succ (Nat.zero_le _)) (own_one1 HO) ?_; intro a10 w10 F' HK' HON; rw [show setMany #[.slice a L.length ca, kp] 0 v8.cells.toList = #[v8, kp] from own_set2 HO _ _] at HK'; replace HO := own_only HO HON (fun g hg => BoxAt.ne_own (HK.at 0 rfl) HO (by decide) g hg); have HON2 : Only (fun j => j = m) w w10 := Only.trans (Only.of_below hlow _) HON (fun j _ h => h); clear HK F HON hlow; clear a9 w9; rename World => w9
  rename Act => a9
  have HK := HK'; have F := F'; clear HK' F'; replace HK : Keep w0 [(m, #[v8, kp], 106)] [] w9 := HK; refine wpList_nil ?_; exact Great.bodyPost_end0 rfl F.defers (FIN.out v8 _ (HK.at 0 rfl) HO (HK.sub (List.nil_sublist _) (fun r hr => hr)) HON2)
end Go.Proofs.YtnnpokndajpkiaaDoor
namespace Go.Proofs.YtnnpokndajpkiaaDoor
open Go.RowKit
def E25 (T : TypeId) : Prop := T = 106 ∨ T = 112 ∨ T = 103 ∨ T = 37 ∨ T = 114 ∨ T = 46
theorem onlyT_of {E : TypeId → Prop} {F : Nat → Prop} {w w' : World} (k : Only F w w') (hF : ∀ j, F j → ∃ T, HasT w j T ∧ E T) : OnlyT E w w' :=
  k.weaken (fun j hj => by obtain ⟨T, ⟨c, f, h⟩, hE⟩ := hF j hj; exact ⟨c, T, f, h, hE⟩)
theorem onlyT_one {E : TypeId → Prop} {w w' : World} {i : Nat} {T : TypeId} (k : Only (fun j => j = i) w w') (h : HasT w i T) (hE : E T) : OnlyT E w w' := onlyT_of k (fun j hj => ⟨T, by subst hj; exact h, hE⟩)
theorem Keep.more {w0 w w' : World} {L : List Box} (h : Keep w0 L [] w) (h2 : Keep w0 [] [] w') (hb : ∀ x ∈ L, BoxAt w' x.1 x.2.1 x.2.2) : Keep w0 L [] w' :=
  ⟨h.env0, h2.low, hb, h.up, h.nod, (fun r hr => by cases hr), (fun r hr => by cases hr)⟩
theorem rs_at {w : World} {B n n2 c : Nat} {a : Option Addr} {L : List Rs} (h : w.ownsRow B 112 4 (.slice a n c) n2 (rsCells L)) {k b o q : Nat} {x : Rs} (hk : L[k]? = some x) (ha : a = some ⟨b, o, none⟩) (hq : o + k * 4 = q) : w.rangeAt b q (rsC x) := by
  obtain ⟨b', o', hr⟩ := row_at rsC_len (by decide) (own_cells h); obtain ⟨h1, h2⟩ := hr k x hk; rw [ha] at h1; injection h1 with h1
  injection h1 with e1 e2
  subst e1 e2 hq; exact h2
def subsQ (ty : Nat) (S T : List Sb) : List Nat × List Sb := if ty = 8 then setAll S T else if ty = 10 then ([], dropAll S T) else ([], S)
theorem subsR_nil (ty : Nat) (S : List Sb) : subsQ ty S [] = ([], S) := by unfold subsQ; split <;> (try split) <;> rfl
theorem subsR_len (ty : Nat) (S T : List Sb) : (subsQ ty S T).1.length ≤ T.length := by
  unfold subsQ; split
  · rw [setAll_len]; exact Nat.le_refl _
  · split <;> exact Nat.zero_le _
theorem codes_cat (a : List Nat) (c : Nat) : codesS a ++ strN [c] = codesS (a ++ [c]) := by
  unfold codesS strN; rw [List.map_append]; apply ByteArray.ext
  simp []
theorem codes_size (a : List Nat) : (codesS a).size = a.length := by simp [codesS, ByteArray.size]
theorem own_put {w w' : World} {B n c n2 m g : Nat} {e : TypeId} {xs : List Value} (h : w.ownsRow B e m (.slice (some ⟨g, 0, none⟩) n c) n2 xs) {cur : Array Value} (hb : BoxAt w g cur e) {j : Nat} {v : Value} (hb' : BoxAt w' g (setMany cur j [v]) e) : w'.ownsRow B e m (.slice (some ⟨g, 0, none⟩) n c) n2 (xs.set j v) := by
  refine ⟨by rw [List.length_set]; exact h.1, ?_⟩; rcases h.2 with ⟨e1, _⟩ | ⟨g', cap, cur', e1, hB, hh, h1, h2, h3, h4⟩
  · cases e1
  · injection e1 with e1 e2 e3
    injection e1 with e1
    injection e1 with e1 _
    subst e1; unfold BoxAt at hb hb'; rw [hh] at hb; injection hb with hb
    injection hb with hb _ _
    subst hb; refine Or.inr ⟨g, cap, _, by rw [e2, e3], hB, hb', h1, h2, by rw [setMany_size]; exact h3, ?_⟩; show (cur'.setIfInBounds j v).toList.take (n2 * m) = xs.set j v; rw [Array.toList_setIfInBounds, ← h4, List.take_set]
theorem rsCells_put {L : List Rs} {k : Nat} {x : Rs} (hk : L[k]? = some x) (i : Int) : (rsCells L).set (k * 4 + 1) (.int .i64 i) = rsCells (L.set k { x with conn := i }) := by
  rw [set_is hk]; conv => lhs; rw [split_at hk]
  have hlt := (List.getElem?_eq_some_iff.1 hk).1; have hl : (rsCells (L.take k)).length = k * 4 := by rw [rsCells_len, List.length_take]; congr 1; omega
  unfold rsCells at hl ⊢; rw [List.flatMap_append, List.flatMap_append, List.flatMap_cons, List.flatMap_cons, List.set_append_right _ _ (by omega), hl]; congr 1; rw [show k * 4 + 1 - k * 4 = 1 by omega]; rfl
theorem own_at {w : World} {B n c k m b o' : Nat} {e : TypeId} {a : Option Addr} {xs : List Value} (h : w.ownsRow B e m (.slice a n c) k xs) (ha : a = some ⟨b, o', none⟩) : ∃ cur, o' = 0 ∧ BoxAt w b cur e ∧ B ≤ b ∧ xs.length ≤ cur.size := by
  subst ha; rcases h.2 with ⟨e1, _⟩ | ⟨g', cap, cur, e1, hB, hh, h1, h2, h3, h4⟩
  · cases e1
  · injection e1 with e1 e2 e3
    injection e1 with e1
    injection e1 with e1 e4
    subst e1 e4; refine ⟨cur, rfl, hh, hB, ?_⟩; rw [← h4, List.length_take]; exact Nat.le_trans (Nat.min_le_right _ _) (by simp)
theorem map_put {α : Type} {f : Rs → α} {L : List Rs} {k : Nat} {x y : Rs} (hk : L[k]? = some x) (h : f y = f x) : (L.set k y).map f = L.map f := by
  rw [set_is hk]; conv => rhs; rw [split_at hk]
  rw [List.map_append, List.map_append, List.map_cons, List.map_cons, h]
theorem far_pr (L : List Rs) : L.Pairwise FarR ↔ (L.map fun x => (x.g, x.v)).Pairwise (fun p q => p.1 ≠ q.1 ∧ ∀ r, p.2.ownBlock = some r → q.2.ownBlock ≠ some r) := by
  rw [List.pairwise_map]; exact Iff.rfl
theorem RmAt.setC {w w' : World} {B m K b n c : Nat} {a : Option Addr} {vk : Value} {L : List Rs} {Q : List Ms} (h : RmAt w B m K (.slice a n c) vk L Q) {k : Nat} {x : Rs} {i : Int} (ha : a = some ⟨b, 0, none⟩) (hk : L[k]? = some x) {cur : Array Value} (hb : BoxAt w b cur 112) (hon : Only (fun j => j = b) w w') (hb' : BoxAt w' b (setMany cur (k * 4 + 1) [.int .i64 i]) 112) (hi : 0 ≤ i) : RmAt w' B m K (.slice a n c) vk (L.set k { x with conn := i }) Q := by
  have ho := h.own; rw [ha] at ho; have ho2 := own_put ho hb hb'; rw [rsCells_put hk i] at ho2; refine h.setM hon (fun j _ e => Or.inr (by rw [e]; exact hb.hasT)) (h.box.only hon (h.box.hasT.ne hb.hasT (by decide))) (by rw [ha, List.length_set]; exact ho2) (fun z hz => ?_) (by rw [map_put (y := { x with conn := i }) hk rfl]; exact h.nd) ((far_pr _).2 (by rw [map_put (y := { x with conn := i }) hk rfl]; exact (far_pr _).1 h.far)); rcases List.mem_or_eq_of_mem_set hz with hz | rfl
  · exact Or.inl (h.st z hz)
  · have hx := h.st x (List.mem_of_getElem? hk)
    exact Or.inl ⟨hx.list, hx.fine, hi⟩
theorem dropAll_snoc (S T : List Sb) (x : Sb) : dropAll S (T ++ [x]) = delS (dropAll S T) (bl x.1) := by unfold dropAll; rw [List.foldl_append]; rfl
theorem cat_ok {x y : ByteArray} (h : ((x.size + y.size : Nat) : Int) ≤ 9223372036854775807) {P : Program} {w : World} {o : Oper} {ρ : Operand → Value} {s t : Operand} {T U : TypeId} (ho : o.op = .binOp .add T s t U) (hs : ρ s = .string x) (ht : ρ t = .string y) : (execOp ρ o).run P w = .ok (.value (.string (x ++ y))) w := by
  unfold execOp; have hm : ¬ ((x.size + y.size : Nat) : Int) > IntKind.i64.max := by
    show ¬ ((x.size + y.size : Nat) : Int) > 9223372036854775807; omega
  simp only [ho, hs, ht, binOp, eqGuard, Op.stringOp]; rw [if_neg hm]; rfl
theorem RmAt.onlyBox {w w' : World} {B m K : Nat} {vl vk : Value} {L : List Rs} {Q : List Ms} (h : RmAt w B m K vl vk L Q) {Y : Nat} (k : Only (fun j => j = Y) w w') (hv : ∀ r, vl.ownBlock = some r → r ≠ Y) {cs : Array Value} (hY : BoxAt w Y cs 112) : RmAt w' B m K vl vk L Q :=
  ⟨h.box.only k (h.box.hasT.ne hY.hasT (by decide)), own_only h.own k (fun g hg => hv g hg), ⟨h.kp.box.only k (h.kp.box.hasT.ne hY.hasT (by decide)), own_only h.kp.own k (fun g hg => (own_hasT h.kp.own hg).ne hY.hasT (by decide)), h.kp.lo⟩,
    fun x hx => (h.st x hx).only k ((h.st x hx).list.blk.hasT.ne hY.hasT (by decide)) (fun r hr => ((h.st x hx).list.own.hasT hr).ne hY.hasT (by decide)), h.nd, h.far, h.lo⟩
set_option maxRecDepth 100000 in
set_option maxHeartbeats 4000000 in
theorem ref25_Apply {w0 w : World} (HK0 : Keep w0 [] [] w) {m K : Nat} {vl vk : Value} {L : List Rs} {Q : List Ms} (HR0 : RmAt w w0.heap.size m K vl vk L Q) (hL : L.length ≤ 5000) (hQ : Q.length ≤ 5000) (n : Nt) (an : Option Addr) (cn : Nat) (HN0 : NtGood w0 n an) : Calls Tryd.prog 36 #[.pointer (some ⟨m, 0, none⟩), .agg (ntV n an cn)] w fun e w' => ∃ vl' vk' L' Q', e = .returned (.tuple #[.string (applyS (absR L) n).1.1, .bool (applyS (absR L) n).1.2.1, .bool (applyS (absR L) n).1.2.2]) ∧ absR L' = (applyS (absR L) n).2 ∧ RmAt w' w0.heap.size m K vl' vk' L' Q' ∧ L'.length ≤ L.length + 1 ∧ Q'.length ≤ Q.length + 1 ∧ Keep w0 [] [] w' ∧ OnlyT E25 w w' := by
  obtain ⟨RR, hRR⟩ : ∃ RR : Ending → World → Prop, RR = fun e w' => ∃ vl' vk' L' Q', e = .returned (.tuple #[.string (applyS (absR L) n).1.1, .bool (applyS (absR L) n).1.2.1, .bool (applyS (absR L) n).1.2.2]) ∧ absR L' = (applyS (absR L) n).2 ∧ RmAt w' w0.heap.size m K vl' vk' L' Q' ∧ L'.length ≤ L.length + 1 ∧ Q'.length ≤ Q.length + 1 ∧ Keep w0 [] [] w' ∧ OnlyT E25 w w' := ⟨_, rfl⟩
  have FIN := Lib.hid (show ∀ cd pr ok vl' vk' L' Q' w', (applyS (absR L) n).1 = (cd, pr, ok) → absR L' = (applyS (absR L) n).2 → RmAt w' w0.heap.size m K vl' vk' L' Q' → L'.length ≤ L.length + 1 → Q'.length ≤ Q.length + 1 → Keep w0 [] [] w' → OnlyT E25 w w' → RR (.returned (.tuple #[.string cd, .bool pr, .bool ok])) w' from fun cd pr ok vl' vk' L' Q' w' h1 h2 h3 h4 h5 h6 h7 => by rw [hRR, h1]; exact ⟨vl', vk', L', Q', rfl, h2, h3, h4, h5, h6, h7⟩); rw [← hRR]; have HN := Lib.hid HN0; obtain ⟨a, ca, hv, hlc, hcs⟩ := own_form HR0.own; subst hv; obtain ⟨b, o0, hrow⟩ := row_at rsC_len (by decide) hcs; have HROW := Lib.hid (fun (k : Nat) (x : Rs) (h : L[k]? = some x) => (hrow k x h).1); have HND := Lib.hid HR0.nd; have HFR := Lib.hid HR0.far; have HCN := Lib.hid (fun x hx => (HR0.st x hx).conn); have hml := HR0.lo; clear hcs hrow; obtain ⟨w9, hw9⟩ : ∃ w9, w9 = w := ⟨_, rfl⟩
  have HON : OnlyT E25 w w9 := by rw [hw9]; exact OnlyT.refl _ _
  rw [← hw9] at HK0 HR0; have HK := HK0; have HR := HR0; suffices hgo : Calls Tryd.prog 36 #[.pointer (some ⟨m, 0, none⟩), .agg (ntV n an cn)] w9 RR by rw [hw9] at hgo; exact hgo
  clear hw9 hRR HK0 HR0 HN0; go_enter Tryd.func36, Tryd.ntmps36
  refine wp_forget (n := 216) (L := [(1, .agg (ntV n an cn)), (0, pQ m 0)]) (FrL.add (FrL.add (FrL.nil ?_ ?_) _ _ ?_) _ _ ?_) ?_; iterate 4 rfl
  intro a9 F; refine xR ?_; refine fr_box F HK 3 (by decide) rfl 53 _ rfl rfl (ntV n an cn) (fun a' F' => F'.ev 1 rfl) ?_; rintro X a10 w10 hX F' HK' hb; replace HR := HR.below hb; replace HON := HON.then hb
  clear HK F hb hX; clear a9 w9; rename World => w9
  rename Act => a9
  have HK := HK'; have F := F'; clear HK' F'; replace HK : Keep w0 [(X, (ntV n an cn), 53)] [] w9 := HK; refine fr_do F (wanted_free rfl) 4 rfl (by decide) (.string ⟨#[]⟩) (by intro a' F'; go_simp) ?_; clear F a9; intro a9 F; refine fr_do F (wanted_free rfl) 5 rfl (by decide) (.bool false) (by intro a' F'; go_simp) ?_; clear F a9; intro a9 F; refine fr_do F (wanted_free rfl) 6 rfl (by decide) (.bool false) (by intro a' F'; go_simp) ?_; clear F a9; intro a9 F; refine xW ?_; refine wp_seq ?_; by_cases k5 : n.kind = 5
  ·
   refine xG F (kOF [⟨X, 0, (ntV n an cn).toList⟩] ⟨(HK.at 0 rfl).range, trivial⟩ [(.bool ((((n.kind : Int)) : Int) == 5), .bool true)] ⟨eqI (by omega), trivial⟩) [.c, .l 0 0, .f 0] [(16, .bool true), (6, .bool false), (5, .bool false), (4, .string ⟨#[]⟩), (3, pQ X 0), (0, pQ m 0)] ?_; clear F a9; intro a9 F; refine wp_cond_true (F.ev 16 rfl) ?_; refine dR (fun w' => MemOk w' [⟨m, 0, [.slice a L.length ca, pQ K 0]⟩, ⟨X, 0, (ntV n an cn).toList⟩]) (by kernel_rfl) fun w8 hb8 => ?_
   replace HK := HK.below hb8; replace HR := HR.below hb8; replace HON := HON.then hb8
   clear hb8 w9; rename World => w9
   refine ⟨⟨HR.box.range, (HK.at 0 rfl).range, trivial⟩, ?_⟩; refine xPT F [⟨m, 0, [.slice a L.length ca, pQ K 0]⟩, ⟨X, 0, (ntV n an cn).toList⟩] [] [] (xN 0 (xC 3 ([.l 0 1, .c, .l 1 28]))) [(22, .agg (msV n.msg)), (20, pQ K 0), (6, .bool false), (5, .bool false), (4, .string ⟨#[]⟩)] ⟨HR.box.range, (HK.at 0 rfl).range, trivial⟩ (fun _ h => h) trivial trivial ?_; clear F a9; intro a9 F; refine fr_stepC (i := 6) (o := ⟨some 23, _, _, _, _, _⟩) F rfl (wanted_free rfl) 23 rfl (by decide) 55 #[pQ K 0, .agg (msV n.msg)] (by intro a' F'; have h20 := F'.at' 20 _ rfl; have h22 := F'.at' 22 _ rfl; go_simp) (ref10_Set (HK.sub (List.nil_sublist _) (fun r hr => hr)) HR.kp (by omega) n.msg HN.out.ok.topic) ?_; rintro e9 w8 ⟨vk2, Q2, rfl, hk2, hq2, HK2, hon⟩; have HK3 := HK.more HK2 (fun x hx => by rw [List.mem_singleton.1 hx]; exact (HK.at 0 rfl).only hon ((HK.at 0 rfl).hasT.ne HR.kp.box.hasT (by decide))); have HON2 := HON.trans (onlyT_one hon (HR.kp.box.hasT) (by unfold E25; decide)); have HR2 := HR.setK hon hk2; clear HK HR HON hon hk2 HK2; have HK := HK3; have HR := HR2; have HON := HON2; clear HK3 HR2 HON2; clear w9; rename World => w9
   refine ⟨_, rfl, ⟨HR.box.range, (HK.at 0 rfl).range, trivial⟩, ?_⟩; clear F a9; intro a9 F; refine xD F [⟨m, 0, [.slice a L.length ca, pQ K 0]⟩, ⟨X, 0, (ntV n an cn).toList⟩] [] [] (xN 7 (xC 3 [])) [(6, .bool (mayM n.msg)), (5, .bool false), (4, .string ⟨#[]⟩)] ⟨HR.box.range, (HK.at 0 rfl).range, trivial⟩ (fun _ h => h) trivial trivial ?_; clear F a9; intro a9 F; refine wp_ret ?_; exact fr_ret3t F rfl _ _ _ rfl rfl rfl (FIN.out _ _ _ _ _ L Q2 _ (by unfold applyS; rw [if_pos k5]; rfl) (by unfold applyS; rw [if_pos k5]) HR (by omega) hq2 (HK.sub (List.nil_sublist _) (fun r hr => hr)) HON)
  refine xG F (kOF [⟨X, 0, (ntV n an cn).toList⟩] ⟨(HK.at 0 rfl).range, trivial⟩ [(.bool ((((n.kind : Int)) : Int) == 5), .bool false)] ⟨eqI' (by omega), trivial⟩) [.c, .l 0 0, .f 0] [(16, .bool false), (6, .bool false), (5, .bool false), (4, .string ⟨#[]⟩), (3, pQ X 0), (0, pQ m 0)] ?_; clear F a9; intro a9 F; refine wp_cond_false (F.ev 16 rfl) ?_; refine xK ?_; refine wp_seq ?_; replace F := F.cut [(6, .bool false), (5, .bool false), (4, .string ⟨#[]⟩), (3, pQ X 0), (0, pQ m 0)] (by kernel_rfl); by_cases k2 : n.kind = 2; rotate_left
  ·
   refine xG F (kOF [⟨X, 0, (ntV n an cn).toList⟩] ⟨(HK.at 0 rfl).range, trivial⟩ [(.bool ((((n.kind : Int)) : Int) != 2), .bool true)] ⟨neI (by omega), trivial⟩) [.c, .l 0 0, .f 0] [(26, .bool true), (6, .bool false), (5, .bool false), (4, .string ⟨#[]⟩), (3, pQ X 0), (0, pQ m 0)] ?_; clear F a9; intro a9 F; refine wp_cond_true (F.ev 26 rfl) ?_; refine xG F k0 (xC 3 []) [(6, .bool true), (5, .bool false), (4, .string ⟨#[]⟩)] ?_; clear F a9; intro a9 F; refine wp_ret ?_; exact fr_ret3t F rfl _ _ _ rfl rfl rfl (FIN.out _ _ _ _ _ L Q _ (by unfold applyS; rw [if_neg k5, if_pos k2]; rfl) (by unfold applyS; rw [if_neg k5, if_pos k2]) HR (by omega) (by omega) (HK.sub (List.nil_sublist _) (fun r hr => hr)) HON)
  refine xG F (kOF [⟨X, 0, (ntV n an cn).toList⟩] ⟨(HK.at 0 rfl).range, trivial⟩ [(.bool ((((n.kind : Int)) : Int) != 2), .bool false)] ⟨neI' (by omega), trivial⟩) [.c, .l 0 0, .f 0] [(26, .bool false), (6, .bool false), (5, .bool false), (4, .string ⟨#[]⟩), (3, pQ X 0), (0, pQ m 0)] ?_; clear F a9; intro a9 F; refine wp_cond_false (F.ev 26 rfl) ?_; refine xK ?_; obtain ⟨i, hi⟩ : ∃ i, idxR n.client L = i := ⟨_, rfl⟩
  have hic := idxR_cases n.client L; rw [hi] at hic; have HI := Lib.hid hi; clear hi; refine xR ?_; refine xP F (kO [⟨X, 0, (ntV n an cn).toList⟩] ⟨(HK.at 0 rfl).range, trivial⟩) [.c, .c, .l 0 3] [(29, .string n.client), (27, pQ m 0), (6, .bool false), (5, .bool false), (4, .string ⟨#[]⟩), (3, pQ X 0), (0, pQ m 0)] ?_; clear F a9; intro a9 F; refine fr_call F (wanted_free rfl) 30 rfl (by decide) 56 #[pQ m 0, .string n.client] (by intro a' F'; have h27 := F'.at' 27 _ rfl; have h29 := F'.at' 29 _ rfl; go_simp) (by have h := ref25_Find HK.env n.client HR.box HR.own (by omega); rw [HI.out] at h; exact h) ?_; rintro e9 w8 ⟨rfl, hb8⟩; replace HK := HK.below hb8; replace HR := HR.below hb8; replace HON := HON.then hb8
  clear hb8; clear w9; rename World => w9
  refine ⟨_, rfl, ?_⟩; clear F a9; intro a9 F; refine xE F k0 [.c] [(7, .int .i64 i), (6, .bool false), (5, .bool false), (4, .string ⟨#[]⟩), (3, pQ X 0), (0, pQ m 0)] ?_; clear F a9; refine xS (kO [⟨X, 0, (ntV n an cn).toList⟩] ⟨(HK.at 0 rfl).range, trivial⟩) [.c, .c, .l 0 4, .c] [(8, .int .u8 (n.p.ty : Int)), (7, .int .i64 i), (6, .bool false), (5, .bool false), (4, .string ⟨#[]⟩), (3, pQ X 0), (0, pQ m 0)] ?_; intro a9 F; by_cases t1 : n.p.ty = 1
  ·
   refine xGT F (kF [(.bool ((((n.p.ty : Int)) : Int) == 1), .bool true)] ⟨eqI (by omega), trivial⟩) [.c, .f 0] 35 [(35, .bool true), (8, .int .u8 (n.p.ty : Int)), (7, .int .i64 i), (6, .bool false), (5, .bool false), (4, .string ⟨#[]⟩), (3, pQ X 0), (0, pQ m 0)] ?_; clear F a9; intro a9 F; refine wp_seq ?_; by_cases hc1 : n.conn < 1
   ·
    refine xG F (kOF [⟨X, 0, (ntV n an cn).toList⟩] ⟨(HK.at 0 rfl).range, trivial⟩ [(.bool (decide (((n.conn) : Int) < 1)), .bool true)] ⟨dcT (by omega), trivial⟩) (.c :: .l 0 2 :: .f 0 :: xC 15 []) [(53, .bool true), (8, .int .u8 (n.p.ty : Int)), (7, .int .i64 i), (6, .bool false), (5, .bool false), (4, .string ⟨#[]⟩), (3, pQ X 0), (0, pQ m 0)] ?_; clear F a9; intro a9 F; refine wp_cond_true (F.ev 53 rfl) ?_; refine xG F k0 (xC 3 []) [(6, .bool false), (5, .bool false), (4, .string ⟨#[]⟩)] ?_; clear F a9; intro a9 F; refine wp_ret ?_; exact fr_ret3t F rfl _ _ _ rfl rfl rfl (FIN.out _ _ _ _ _ L Q _ (by unfold applyS; rw [if_neg k5, if_neg (fun h => h k2), if_pos t1, if_pos (Or.inl hc1)]; rfl) (by unfold applyS; rw [if_neg k5, if_neg (fun h => h k2), if_pos t1, if_pos (Or.inl hc1)]) HR (by omega) (by omega) (HK.sub (List.nil_sublist _) (fun r hr => hr)) HON)
   have HC25 := Lib.hid hic; clear hic; refine wp_meet (fun a' w' => FrL 216 [(8, .int .u8 (n.p.ty : Int)), (7, .int .i64 i), (6, .bool false), (5, .bool false), (4, .string ⟨#[]⟩), (3, pQ X 0), (0, pQ m 0)] a' ∧ (∀ (k : Nat) x, i = (k : Int) → L[k]? = some x → x.conn = 0) ∧ w' = w9) ?_ ?_
   ·
    have hc := HC25.out; rcases hc with ⟨rfl, hnone, hab⟩ | hc
    ·
     refine xG F (kOF [⟨X, 0, (ntV n an cn).toList⟩] ⟨(HK.at 0 rfl).range, trivial⟩ [(.bool (decide (((n.conn) : Int) < 1)), .bool false)] ⟨dcF (by omega), trivial⟩) (.c :: .l 0 2 :: .f 0 :: xC 15 []) [(53, .bool false), (8, .int .u8 (n.p.ty : Int)), (7, .int .i64 (-1)), (6, .bool false), (5, .bool false), (4, .string ⟨#[]⟩), (3, pQ X 0), (0, pQ m 0)] ?_; clear F a9; intro a9 F; refine wp_cond_false (F.ev 53 rfl) ?_; refine wp_skip ?_; exact ⟨((((((((FrL.nil F.size F.defers).add 0 _ (F.at' 0 _ rfl)).add 3 _ (F.at' 3 _ rfl)).add 4 _ (F.at' 4 _ rfl)).add 5 _ (F.at' 5 _ rfl)).add 6 _ (F.at' 6 _ rfl)).add 7 _ (F.at' 7 _ rfl)).add 8 _ (F.at' 8 _ rfl)), fun k x e => by omega, rfl⟩
    ·
     obtain ⟨k, x, rfl, hk, hkl, hxc, hab⟩ := hc; have HXK := Lib.hid hk; have hxm := List.mem_of_getElem? hk; have hal := HROW.out k x hk; obtain ⟨q, hq⟩ : ∃ q, o0 + k * 4 = q := ⟨_, rfl⟩
     have HQ := Lib.hid hq; have HAL := Lib.hid hal; clear hk hq hal; by_cases hx0 : x.conn = 0; rotate_left
     ·
      refine xG F ⟨[⟨X, 0, (ntV n an cn).toList⟩, ⟨m, 0, [.slice a L.length ca, pQ K 0]⟩, ⟨b, q, rsC x⟩], [(.bool (decide (((n.conn) : Int) < 1)), .bool false), (.bool (decide (((((k : Nat) : Int)) : Int) ≥ 0)), .bool true), (.bool (((x.conn) : Int) != 0), .bool true)], [⟨a, L.length, ca, .i64, ((k : Nat) : Int), 4, ⟨b, q, none⟩⟩], ⟨(HK.at 0 rfl).range, HR.box.range, rs_at HR.own HXK.out HAL.out HQ.out, trivial⟩, ⟨dcF (by omega), dcT (by omega), neI (by omega), trivial⟩, ⟨⟨b, o0, k, HAL.out, rfl, hkl, by rw [HQ.out]⟩, trivial⟩⟩ (.c :: .l 0 2 :: .f 0 :: .c :: .c :: .f 1 :: xC 4 ([.l 1 0, .c, .i 0, .c, .l 2 1, .f 2, .c, .c])) [(53, .bool true), (8, .int .u8 (n.p.ty : Int)), (7, .int .i64 ((k : Nat) : Int)), (6, .bool false), (5, .bool false), (4, .string ⟨#[]⟩), (3, pQ X 0), (0, pQ m 0)] ?_; clear F a9; intro a9 F; have hx1 : n.conn < 1 ∨ ∃ s, absR L n.client = some s ∧ 0 < s.conn := Or.inr ⟨_, hab, by have := HCN.out x hxm; show 0 < x.conn; omega⟩; refine wp_cond_true (F.ev 53 rfl) ?_; refine xG F k0 (xC 3 []) [(6, .bool false), (5, .bool false), (4, .string ⟨#[]⟩)] ?_; clear F a9; intro a9 F; refine wp_ret ?_; exact fr_ret3t F rfl _ _ _ rfl rfl rfl (FIN.out _ _ _ _ _ L Q _ (by unfold applyS; rw [if_neg k5, if_neg (fun h => h k2), if_pos t1, if_pos (hx1)]; rfl) (by unfold applyS; rw [if_neg k5, if_neg (fun h => h k2), if_pos t1, if_pos (hx1)]) HR (by omega) (by omega) (HK.sub (List.nil_sublist _) (fun r hr => hr)) HON)
     skip
     ·
      refine xG F ⟨[⟨X, 0, (ntV n an cn).toList⟩, ⟨m, 0, [.slice a L.length ca, pQ K 0]⟩, ⟨b, q, rsC x⟩], [(.bool (decide (((n.conn) : Int) < 1)), .bool false), (.bool (decide (((((k : Nat) : Int)) : Int) ≥ 0)), .bool true), (.bool (((x.conn) : Int) != 0), .bool false)], [⟨a, L.length, ca, .i64, ((k : Nat) : Int), 4, ⟨b, q, none⟩⟩], ⟨(HK.at 0 rfl).range, HR.box.range, rs_at HR.own HXK.out HAL.out HQ.out, trivial⟩, ⟨dcF (by omega), dcT (by omega), neI' (by omega), trivial⟩, ⟨⟨b, o0, k, HAL.out, rfl, hkl, by rw [HQ.out]⟩, trivial⟩⟩ (.c :: .l 0 2 :: .f 0 :: .c :: .c :: .f 1 :: xC 4 ([.l 1 0, .c, .i 0, .c, .l 2 1, .f 2, .c, .c])) [(53, .bool false), (8, .int .u8 (n.p.ty : Int)), (7, .int .i64 ((k : Nat) : Int)), (6, .bool false), (5, .bool false), (4, .string ⟨#[]⟩), (3, pQ X 0), (0, pQ m 0)] ?_; clear F a9; intro a9 F; refine wp_cond_false (F.ev 53 rfl) ?_; refine wp_skip ?_; exact ⟨((((((((FrL.nil F.size F.defers).add 0 _ (F.at' 0 _ rfl)).add 3 _ (F.at' 3 _ rfl)).add 4 _ (F.at' 4 _ rfl)).add 5 _ (F.at' 5 _ rfl)).add 6 _ (F.at' 6 _ rfl)).add 7 _ (F.at' 7 _ rfl)).add 8 _ (F.at' 8 _ rfl)), fun k2 x2 e2 h2 => by
          obtain rfl : k = k2 := by omega
          rw [HXK.out] at h2; injection h2 with h2
          rw [← h2]; exact hx0, rfl⟩
   clear F a9; rintro a9 w8 ⟨F, hcn0, rfl⟩; have HC0 := Lib.hid hcn0; clear hcn0; rename World => w9
   show Code.wp _ _ _ _ _; refine wp_seq_meet (fun a' w' => ∃ pr, FrL 216 [(9, .bool pr), (7, .int .i64 i), (6, .bool false), (5, .bool false), (4, .string ⟨#[]⟩), (3, pQ X 0), (0, pQ m 0)] a' ∧ (pr = true ↔ ∃ (k : Nat) (x : Rs), i = (k : Int) ∧ L[k]? = some x ∧ x.clean = false ∧ n.p.clean = false) ∧ w' = w9) ?_ ?_
   ·
    have hc := HC25.out; rcases hc with ⟨rfl, hnone, hab⟩ | hc
    ·
     refine wp_region_lit ?_; refine xP F k0 (xC 20 []) [(9, .bool false), (7, .int .i64 (-1)), (6, .bool false), (5, .bool false), (4, .string ⟨#[]⟩), (3, pQ X 0), (0, pQ m 0)] ?_; clear F a9; intro a9 F; refine wpList_nil ?_; exact ⟨_, F, ⟨(fun h => by cases h), (fun ⟨k, x, e, _⟩ => by omega)⟩, rfl⟩
    ·
     obtain ⟨k, x, rfl, hk, hkl, hxc, hab⟩ := hc; have HXK := Lib.hid hk; have hxm := List.mem_of_getElem? hk; have hal := HROW.out k x hk; obtain ⟨q, hq⟩ : ∃ q, o0 + k * 4 = q := ⟨_, rfl⟩
     have HQ := Lib.hid hq; have HAL := Lib.hid hal; clear hk hq hal; cases hcl : x.clean; rotate_left
     ·
      refine wp_region_lit ?_; refine xP F ⟨[⟨m, 0, [.slice a L.length ca, pQ K 0]⟩, ⟨b, q, rsC x⟩], [(.bool (decide (((((k : Nat) : Int)) : Int) ≥ 0)), .bool true), (.bool (!x.clean), .bool false)], [⟨a, L.length, ca, .i64, ((k : Nat) : Int), 4, ⟨b, q, none⟩⟩], ⟨HR.box.range, rs_at HR.own HXK.out HAL.out HQ.out, trivial⟩, ⟨dcT (by omega), tF (by rw [hcl]; rfl), trivial⟩, ⟨⟨b, o0, k, HAL.out, rfl, hkl, by rw [HQ.out]⟩, trivial⟩⟩ (.c :: .f 0 :: xC 4 (.l 0 0 :: .c :: .i 0 :: .c :: .l 1 2 :: .f 1 :: xC 8 [])) [(9, .bool false), (7, .int .i64 ((k : Nat) : Int)), (6, .bool false), (5, .bool false), (4, .string ⟨#[]⟩), (3, pQ X 0), (0, pQ m 0)] ?_; clear F a9; intro a9 F; refine wpList_nil ?_; exact ⟨_, F, ⟨(fun h => by cases h), (fun ⟨k2, x2, e2, h2, h3, _⟩ => by
          obtain rfl : k = k2 := by omega
          rw [HXK.out] at h2; injection h2 with h2
          subst h2; rw [hcl] at h3; cases h3)⟩, rfl⟩
     cases hnc : n.p.clean
     ·
      refine wp_region_lit ?_; refine xP F ⟨[⟨m, 0, [.slice a L.length ca, pQ K 0]⟩, ⟨b, q, rsC x⟩, ⟨X, 0, (ntV n an cn).toList⟩], [(.bool (decide (((((k : Nat) : Int)) : Int) ≥ 0)), .bool true), (.bool (!x.clean), .bool true), (.bool (!n.p.clean), .bool true)], [⟨a, L.length, ca, .i64, ((k : Nat) : Int), 4, ⟨b, q, none⟩⟩], ⟨HR.box.range, rs_at HR.own HXK.out HAL.out HQ.out, (HK.at 0 rfl).range, trivial⟩, ⟨dcT (by omega), tT (by rw [hcl]; rfl), tT (by rw [hnc]; rfl), trivial⟩, ⟨⟨b, o0, k, HAL.out, rfl, hkl, by rw [HQ.out]⟩, trivial⟩⟩ (.c :: .f 0 :: xC 4 (.l 0 0 :: .c :: .i 0 :: .c :: .l 1 2 :: .f 1 :: xC 4 ([.l 2 12, .f 2, .c, .c]))) [(9, .bool true), (7, .int .i64 ((k : Nat) : Int)), (6, .bool false), (5, .bool false), (4, .string ⟨#[]⟩), (3, pQ X 0), (0, pQ m 0)] ?_; clear F a9; intro a9 F; refine wpList_nil ?_; exact ⟨_, F, ⟨(fun _ => ⟨k, x, rfl, HXK.out, hcl, rfl⟩), (fun _ => rfl)⟩, rfl⟩
     ·
      refine wp_region_lit ?_; refine xP F ⟨[⟨m, 0, [.slice a L.length ca, pQ K 0]⟩, ⟨b, q, rsC x⟩, ⟨X, 0, (ntV n an cn).toList⟩], [(.bool (decide (((((k : Nat) : Int)) : Int) ≥ 0)), .bool true), (.bool (!x.clean), .bool true), (.bool (!n.p.clean), .bool false)], [⟨a, L.length, ca, .i64, ((k : Nat) : Int), 4, ⟨b, q, none⟩⟩], ⟨HR.box.range, rs_at HR.own HXK.out HAL.out HQ.out, (HK.at 0 rfl).range, trivial⟩, ⟨dcT (by omega), tT (by rw [hcl]; rfl), tF (by rw [hnc]; rfl), trivial⟩, ⟨⟨b, o0, k, HAL.out, rfl, hkl, by rw [HQ.out]⟩, trivial⟩⟩ (.c :: .f 0 :: xC 4 (.l 0 0 :: .c :: .i 0 :: .c :: .l 1 2 :: .f 1 :: xC 4 ([.l 2 12, .f 2, .c, .c]))) [(9, .bool false), (7, .int .i64 ((k : Nat) : Int)), (6, .bool false), (5, .bool false), (4, .string ⟨#[]⟩), (3, pQ X 0), (0, pQ m 0)] ?_; clear F a9; intro a9 F; refine wpList_nil ?_; exact ⟨_, F, ⟨(fun h => by cases h), (fun ⟨k2, x2, e2, h2, _, h4⟩ => by cases h4)⟩, rfl⟩
   clear F a9; rintro a9 w8 ⟨pr, F, hpr, rfl⟩; have HPR := Lib.hid hpr; clear hpr; rename World => w9
   refine xR ?_; refine xP F (kO [⟨X, 0, (ntV n an cn).toList⟩] ⟨(HK.at 0 rfl).range, trivial⟩) [.c, .l 0 3, .c, .l 0 2, .c, .c, .l 0 12, .c] [(80, .agg #[.slice none 0 0]), (79, .bool n.p.clean), (76, .int .i64 n.conn), (74, .string n.client), (9, .bool pr), (7, .int .i64 i), (6, .bool false), (5, .bool false), (4, .string ⟨#[]⟩), (3, pQ X 0), (0, pQ m 0)] ?_; clear F a9; intro a9 F; refine fr_box F HK 81 (by decide) rfl 114 _ rfl rfl #[.slice none 0 0] (fun a' F' => F'.ev 80 rfl) ?_; rintro G a10 w10 hX F' HK' hb; have hGz : ∀ z ∈ L, z.g ≠ G := fun z hz e => by have := (far_lt (HR.st z hz)).1; omega
   replace HR := HR.below hb; replace HON := HON.then hb
   clear HK F hb hX; clear a9 w9; rename World => w9
   rename Act => a9
   have HK := HK'; have F := F'; clear HK' F'; replace HK : Keep w0 [(G, #[.slice none 0 0], 114), (X, (ntV n an cn), 53)] [] w9 := HK; refine xP F k0 [.c] [(82, .agg (rsV (⟨n.client, n.conn, n.p.clean, G, .slice none 0 0, []⟩ : Rs))), (9, .bool pr), (7, .int .i64 i), (6, .bool false), (5, .bool false), (4, .string ⟨#[]⟩), (3, pQ X 0), (0, pQ m 0)] ?_; clear F a9; intro a9 F; obtain ⟨i0, hi, hz0, hz1, hz2⟩ := info_parts infoRs; refine fr_new F HK 10 (by decide) rfl 112 rfl rfl rfl (.tmp 82) rfl rfl i0 _ hi hz0 (cells := (rsV (⟨n.client, n.conn, n.p.clean, G, .slice none 0 0, []⟩ : Rs))) hz1 rfl (rs_one _) (fun a' Y F' => F'.ev 82 rfl) ?_; rintro Y a10 w10 hX F' HK' hb; have hvY : ∀ r, (Value.slice a L.length ca).ownBlock = some r → r ≠ Y := fun r hr e => by have := (own_lt HR.own hr).1; omega
   replace HR := HR.below hb; replace HON := HON.then hb
   clear HK F hb hX hi hz0 hz1 hz2 i0; clear a9 w9; rename World => w9
   rename Act => a9
   have HK := HK'; have F := F'; clear HK' F'; replace HK : Keep w0 [(Y, (rsV (⟨n.client, n.conn, n.p.clean, G, .slice none 0 0, []⟩ : Rs)), 112), (G, #[.slice none 0 0], 114), (X, (ntV n an cn), 53)] [] w9 := HK; replace F := F.cut [(10, pQ Y 0), (9, .bool pr), (7, .int .i64 i), (6, .bool false), (5, .bool false), (4, .string ⟨#[]⟩), (3, pQ X 0), (0, pQ m 0)] (by kernel_rfl); refine xW ?_; refine wp_seq_meet (fun a' w' => ∃ gy vy Sy, FrL 216 [(10, pQ Y 0), (9, .bool pr), (7, .int .i64 i), (6, .bool false), (5, .bool false), (4, .string ⟨#[]⟩), (3, pQ X 0), (0, pQ m 0)] a' ∧ ((pr = true → ∃ (k : Nat) (x : Rs), i = (k : Int) ∧ L[k]? = some x ∧ gy = x.g ∧ vy = x.v ∧ Sy = x.S) ∧ (pr = false → gy = G ∧ vy = .slice none 0 0 ∧ Sy = [])) ∧ RmAt w' w0.heap.size m K (.slice a L.length ca) vk L Q ∧ OnlyT E25 w w' ∧ Keep w0 [(Y, rsV (⟨n.client, n.conn, n.p.clean, gy, vy, Sy⟩ : Rs), 112), (G, #[.slice none 0 0], 114), (X, (ntV n an cn), 53)] [] w') ?_ ?_
   ·
    cases pr
    ·
     refine xG F k0 [.c] [(83, .bool false), (10, pQ Y 0), (9, .bool false), (7, .int .i64 i), (6, .bool false), (5, .bool false), (4, .string ⟨#[]⟩), (3, pQ X 0), (0, pQ m 0)] ?_; clear F a9; intro a9 F; refine wp_cond_false (F.ev 83 rfl) ?_; refine wp_skip ?_; exact ⟨G, .slice none 0 0, [], (((((((((FrL.nil F.size F.defers).add 0 _ (F.at' 0 _ rfl)).add 3 _ (F.at' 3 _ rfl)).add 4 _ (F.at' 4 _ rfl)).add 5 _ (F.at' 5 _ rfl)).add 6 _ (F.at' 6 _ rfl)).add 7 _ (F.at' 7 _ rfl)).add 9 _ (F.at' 9 _ rfl)).add 10 _ (F.at' 10 _ rfl)), ⟨(fun h => by cases h), (fun _ => ⟨rfl, rfl, rfl⟩)⟩, HR, HON, HK⟩
    ·
     refine xG F k0 [.c] [(83, .bool true), (10, pQ Y 0), (9, .bool true), (7, .int .i64 i), (6, .bool false), (5, .bool false), (4, .string ⟨#[]⟩), (3, pQ X 0), (0, pQ m 0)] ?_; clear F a9; intro a9 F; refine wp_cond_true (F.ev 83 rfl) ?_; obtain ⟨k, x, rfl, hk, _, _⟩ := HPR.out.1 rfl; have hkl : k < L.length := (List.getElem?_eq_some_iff.1 hk).1; have HXK := Lib.hid hk; have hal := HROW.out k x hk; obtain ⟨q, hq⟩ : ∃ q, o0 + k * 4 = q := ⟨_, rfl⟩
     have HQ := Lib.hid hq; have HAL := Lib.hid hal; clear hk hq hal; refine wp_region_lit ?_; refine xP F ⟨[⟨m, 0, [.slice a L.length ca, pQ K 0]⟩, ⟨b, q, rsC x⟩], [], [⟨a, L.length, ca, .i64, ((k : Nat) : Int), 4, ⟨b, q, none⟩⟩], ⟨HR.box.range, rs_at HR.own HXK.out HAL.out HQ.out, trivial⟩, trivial, ⟨⟨b, o0, k, HAL.out, rfl, hkl, by rw [HQ.out]⟩, trivial⟩⟩ (xC 3 ([.l 0 0, .c, .i 0, .c, .l 1 3, .c])) [(92, pQ Y 3), (91, pQ x.g 0), (10, pQ Y 0), (9, .bool true), (7, .int .i64 ((k : Nat) : Int)), (6, .bool false), (5, .bool false), (4, .string ⟨#[]⟩), (3, pQ X 0), (0, pQ m 0)] ?_; clear F a9; intro a9 F; refine fr_putO F HK 0 rfl rfl rfl 110 _ _ rfl 3 (pQ x.g 0) (fun a' F' => F'.ev 92 rfl) (fun a' F' => F'.ev 91 rfl) (by kernel_rfl) (Nat.le_of_ble_eq_true (by kernel_rfl)) (by kernel_rfl) ?_; intro a10 w10 F' HK' HO; have hys := HK.at 0 rfl; replace HON := HON.trans (onlyT_one HO (hys.hasT) (by unfold E25; decide)); have hrm := HR; have HR2 := hrm.onlyBox HO hvY hys; clear HK HR hrm F HO hys; have HR := HR2; clear HR2; clear a9 w9; rename World => w9
     rename Act => a9
     have HK := HK'; have F := F'; clear HK' F'; replace HK : Keep w0 [(Y, (rsV (⟨n.client, n.conn, n.p.clean, x.g, x.v, x.S⟩ : Rs)), 112), (G, #[.slice none 0 0], 114), (X, (ntV n an cn), 53)] [] w9 := HK; refine wpList_nil ?_; exact ⟨x.g, x.v, x.S, (((((((((FrL.nil F.size F.defers).add 0 _ (F.at' 0 _ rfl)).add 3 _ (F.at' 3 _ rfl)).add 4 _ (F.at' 4 _ rfl)).add 5 _ (F.at' 5 _ rfl)).add 6 _ (F.at' 6 _ rfl)).add 7 _ (F.at' 7 _ rfl)).add 9 _ (F.at' 9 _ rfl)).add 10 _ (F.at' 10 _ rfl)), ⟨(fun _ => ⟨k, x, rfl, HXK.out, rfl, rfl, rfl⟩), (fun h => by cases h)⟩, HR, HON, HK⟩
   clear F a9 HK HR HON; rintro a9 w8 ⟨gy, vy, Sy, F, hwh, HR, HON, HK⟩; clear w9; have HWH := Lib.hid hwh; clear hwh; rename World => w9
   have hys : RsAt w9 w0.heap.size (⟨n.client, n.conn, n.p.clean, gy, vy, Sy⟩ : Rs) ∧ ∀ (k : Nat) (x : Rs), (pr = true → i = (k : Int) ∧ L[k]? = some x) → True := by
     refine ⟨?_, fun _ _ _ => trivial⟩; cases pr
     · obtain ⟨rfl, rfl, rfl⟩ := HWH.out.2 rfl
       exact ⟨⟨HK.at 1 rfl, ⟨rfl, Or.inl ⟨rfl, rfl⟩⟩, HK.up _ (List.mem_cons_of_mem _ (List.mem_cons_self ..))⟩, fine_nil, by show 0 ≤ n.conn; omega⟩
     · obtain ⟨k, x, _, hk, rfl, rfl, rfl⟩ := HWH.out.1 rfl
       have h := HR.st x (List.mem_of_getElem? hk); exact ⟨h.list, h.fine, by show 0 ≤ n.conn; omega⟩
   have HY := hys.1; clear hys; refine wp_seq_meet (fun a' w' => ∃ vl1 L1, FrL 216 [(10, pQ Y 0), (9, .bool pr), (6, .bool false), (5, .bool false), (4, .string ⟨#[]⟩), (0, pQ m 0)] a' ∧ (∀ s, updS (absR L1) n.client s = updS (absR L) n.client s) ∧ L1.length ≤ L.length ∧ (∀ z ∈ L1, z.client ≠ n.client) ∧ (∀ r, vl1.ownBlock = some r → r ≠ Y) ∧ (∀ z ∈ L1, FarR (⟨n.client, n.conn, n.p.clean, gy, vy, Sy⟩ : Rs) z) ∧ RmAt w' w0.heap.size m K vl1 vk L1 Q ∧ RsAt w' w0.heap.size (⟨n.client, n.conn, n.p.clean, gy, vy, Sy⟩ : Rs) ∧ OnlyT E25 w w' ∧ Keep w0 [(Y, rsV (⟨n.client, n.conn, n.p.clean, gy, vy, Sy⟩ : Rs), 112)] [] w') ?_ ?_
   ·
    have hc := HC25.out; rcases hc with ⟨rfl, hnone, hab⟩ | hc
    ·
     refine xG F k0 [.c, .c] [(94, .bool false), (10, pQ Y 0), (9, .bool pr), (6, .bool false), (5, .bool false), (4, .string ⟨#[]⟩), (0, pQ m 0)] ?_; clear F a9; intro a9 F; refine wp_cond_false (F.ev 94 rfl) ?_; refine wp_skip ?_; have hpf : pr = false := by
       cases pr
       · rfl
       · obtain ⟨k, x, e, _⟩ := HPR.out.1 rfl
         omega
     obtain ⟨rfl, rfl, rfl⟩ := HWH.out.2 hpf; exact ⟨_, L, (((((((FrL.nil F.size F.defers).add 0 _ (F.at' 0 _ rfl)).add 4 _ (F.at' 4 _ rfl)).add 5 _ (F.at' 5 _ rfl)).add 6 _ (F.at' 6 _ rfl)).add 9 _ (F.at' 9 _ rfl)).add 10 _ (F.at' 10 _ rfl)), fun s => rfl, Nat.le_refl _, hnone, hvY, fun z hz => ⟨fun e => hGz z hz e.symm, fun r hr => by cases hr⟩, HR, HY, HON, HK.sub (List.cons_sublist_cons.2 (List.nil_sublist _)) (fun r hr => hr)⟩
    ·
     obtain ⟨k, x, rfl, hk, hkl, hxc, hab⟩ := hc; have HXK := Lib.hid hk; have hxm := List.mem_of_getElem? hk; have hal := HROW.out k x hk; obtain ⟨q, hq⟩ : ∃ q, o0 + k * 4 = q := ⟨_, rfl⟩
     have HQ := Lib.hid hq; have HAL := Lib.hid hal; clear hk hq hal; refine xG F (kF [(.bool (decide (((((k : Nat) : Int)) : Int) ≥ 0)), .bool true)] ⟨dcT (by omega), trivial⟩) [.c, .f 0] [(94, .bool true), (10, pQ Y 0), (9, .bool pr), (7, .int .i64 ((k : Nat) : Int)), (6, .bool false), (5, .bool false), (4, .string ⟨#[]⟩), (0, pQ m 0)] ?_; clear F a9; intro a9 F; refine wp_cond_true (F.ev 94 rfl) ?_; refine wp_region_lit ?_; refine xP F k0 [.c, .c] [(96, .int .i64 ((k : Nat) : Int)), (95, pQ m 0), (10, pQ Y 0), (9, .bool pr), (6, .bool false), (5, .bool false), (4, .string ⟨#[]⟩), (0, pQ m 0)] ?_; clear F a9; intro a9 F; refine fr_call F (wanted_free rfl) 97 rfl (by decide) 57 #[pQ m 0, .int .i64 ((k : Nat) : Int)] (by intro a' F'; have h95 := F'.at' 95 _ rfl; have h96 := F'.at' 96 _ rfl; go_simp) (ref25_gone (HK.sub (List.nil_sublist _) (fun r hr => hr)) HR.box hml HR.own hkl (by omega)) ?_; rintro e9 w8 ⟨vl1, rfl, hbx, how, HK2, hon⟩; have hyb := (HK.at 0 rfl).only hon ((HK.at 0 rfl).hasT.ne HR.box.hasT (by decide)); have HK3 := (HK.sub (L' := [(Y, rsV (⟨n.client, n.conn, n.p.clean, gy, vy, Sy⟩ : Rs), 112)]) (List.cons_sublist_cons.2 (List.nil_sublist _)) (fun r hr => hr)).more HK2 (fun x hx => by rw [List.mem_singleton.1 hx]; exact hyb); have hY9 := (HK.at 0 rfl).lt; have hv1 : ∀ r, vl1.ownBlock = some r → r ≠ Y := fun r hr e => by have := (own_lt how hr).2; omega
     have HY2 := HY.only hon (HY.list.blk.hasT.ne HR.box.hasT (by decide)) (fun r hr => (HY.list.own.hasT hr).ne HR.box.hasT (by decide)); have hsub : (L.take k ++ L.drop (k + 1)).Sublist L := by
       conv => rhs; rw [split_at HXK.out]
       exact List.Sublist.append (List.Sublist.refl _) (List.sublist_cons_self _ _)
     have HR2 := HR.setM (L' := L.take k ++ L.drop (k + 1)) hon (fun j _ hj => Or.inl (by rw [hj]; exact HR.box.hasT)) hbx (own_weak how HK.size) (fun x hx => Or.inl (HR.st x (hsub.subset hx))) ((hsub.map _).nodup HND.out) (List.Pairwise.sublist hsub HFR.out); have HON2 := HON.trans (onlyT_one hon (HR.box.hasT) (by unfold E25; decide)); clear HK HR HON HY hon hyb HK2 hbx how hY9; have HK := HK3; have HR := HR2; have HON := HON2; have HY := HY2; clear HK3 HR2 HON2 HY2; clear w9; rename World => w9
     refine ⟨_, rfl, ?_⟩; clear F a9; intro a9 F; refine wpList_nil ?_; obtain ⟨ha1, ha2⟩ := ahead_ne HXK.out HND.out; rw [hxc] at ha1 ha2; refine ⟨vl1, _, (((((((FrL.nil F.size F.defers).add 0 _ (F.at' 0 _ rfl)).add 4 _ (F.at' 4 _ rfl)).add 5 _ (F.at' 5 _ rfl)).add 6 _ (F.at' 6 _ rfl)).add 9 _ (F.at' 9 _ rfl)).add 10 _ (F.at' 10 _ rfl)), fun s => by rw [absR_del HXK.out HND.out, hxc, updS_upd], hsub.length_le, fun z hz => (List.mem_append.1 hz).elim (ha1 z) (ha2 z), hv1, fun z hz => ?_, HR, HY, HON, HK⟩; cases hpp : pr
     · obtain ⟨rfl, rfl, rfl⟩ := HWH.out.2 hpp
       exact ⟨fun e => hGz z (hsub.subset hz) e.symm, fun r hr => by cases hr⟩
     · obtain ⟨k2, x2, e2, h2, rfl, rfl, rfl⟩ := HWH.out.1 hpp
       obtain rfl : k = k2 := by omega
       rw [HXK.out] at h2; injection h2 with h2
       subst h2; have hf := HFR.out; rw [split_at HXK.out, List.pairwise_append, List.pairwise_cons] at hf; rcases List.mem_append.1 hz with h | h
       · exact (hf.2.2 z h x (List.mem_cons_self ..)).symm
       · exact hf.2.1.1 z h
   clear F a9 HK HR HON HY; rintro a9 w8 ⟨vl1, L1, F, hup, hl1, hcn, hvy, hfy, HR, HY, HON, HK⟩; clear w9; clear hGz hvY; rename World => w9
   refine wp_seq ?_; refine wp_region_noPanic ?_; have hb8 : Below w9.heap.size w9 w9.drew := below_draws (n := 1) rfl; replace HK := HK.below hb8; replace HR := HR.below hb8; replace HON := HON.then hb8
   replace HY := HY.only (Only.of_below hb8 (fun _ => False)) (fun h => h) (fun _ _ h => h); clear hb8; refine AnyT.begin (S := fun w' => MemOk w' [⟨m, 0, [vl1, pQ K 0]⟩, ⟨Y, 0, (rsV (⟨n.client, n.conn, n.p.clean, gy, vy, Sy⟩ : Rs)).toList⟩]) (z := 10) (by kernel_rfl) ⟨HR.box.range, (HK.at 0 rfl).range, trivial⟩ (fun hS0 => ?_); clear hS0; generalize w9.drew = w8 at *; clear w9; rename World => w9
   refine xPT F [⟨m, 0, [vl1, pQ K 0]⟩, ⟨Y, 0, (rsV (⟨n.client, n.conn, n.p.clean, gy, vy, Sy⟩ : Rs)).toList⟩] [] [] (xN 0 (xC 4 ([.l 0 0, .l 1 0]))) [(103, .agg (rsV (⟨n.client, n.conn, n.p.clean, gy, vy, Sy⟩ : Rs))), (102, vl1), (98, pQ m 0), (9, .bool pr), (6, .bool false), (5, .bool false), (4, .string ⟨#[]⟩)] ⟨HR.box.range, (HK.at 0 rfl).range, trivial⟩ (fun _ h => h) trivial trivial ?_; clear F a9; intro a9 F; obtain ⟨i0, hi0, hz0, hz1, hz2⟩ := info_parts infoRs; have hb8 : Below w9.heap.size w9 (w9.alloc (.cells (rsV (⟨n.client, n.conn, n.p.clean, gy, vy, Sy⟩ : Rs)) 112)) := (Below.refl _ _).alloc (Nat.le_refl _) _; have hnr : CellsA (w9.alloc (.cells (rsV (⟨n.client, n.conn, n.p.clean, gy, vy, Sy⟩ : Rs)) 112)) (some ⟨w9.heap.size, 0, none⟩) (rsCells [(⟨n.client, n.conn, n.p.clean, gy, vy, Sy⟩ : Rs)]) := cells_new; replace HK := HK.below hb8; replace HR := HR.below hb8; replace HON := HON.then hb8
   replace HY := HY.only (Only.of_below hb8 (fun _ => False)) (fun h => h) (fun _ _ h => h); refine fr_step (i := 6) (o := ⟨some 104, _, _, _, _, _⟩) F rfl rfl 104 rfl (by decide) (.slice (some ⟨w9.heap.size, 0, none⟩) 1 1) (w9.alloc (.cells (rsV (⟨n.client, n.conn, n.p.clean, gy, vy, Sy⟩ : Rs)) 112)) (fun a' F' => run_slice1 104 112 _ rfl (rsV (⟨n.client, n.conn, n.p.clean, gy, vy, Sy⟩ : Rs)) (F'.ev 103 rfl) i0 _ Tryd.underlying104 hi0 hz0 (by rw [hz1]; decide) (by rw [hz1]; decide) (by rw [hz1]; kernel_rfl)) ⟨HR.box.range, (HK.at 0 rfl).range, trivial⟩ ?_; clear F a9; intro a9 F; clear hi0 hz0 hz1 hz2 i0; obtain ⟨Z, hZ⟩ : ∃ Z, w9.heap.size = Z := ⟨_, rfl⟩
   rw [hZ] at hnr F; clear hb8 hZ; generalize w9.alloc (.cells (rsV (⟨n.client, n.conn, n.p.clean, gy, vy, Sy⟩ : Rs)) 112) = w8 at *; clear w9; rename World => w9
   obtain ⟨i0, hi0, hz0, hz1, hz2⟩ := info_parts infoRs; obtain ⟨v8, w8, hrun, hown, hgr⟩ := op_append (P := Tryd.prog) (w := w9) (o := ⟨_, .call { callee := .builtin .append, args := #[.tmp 102, .tmp 104], argTypes := #[104, 104] }, _, _, _, _⟩) (.tmp 102) (.tmp 104) 104 rfl w0.heap.size 112 i0 _ 4 40 Tryd.underlying104 hi0 hz0 hz1 hz2 rfl (by decide) vl1 L1.length (rsCells L1) HR.own (some ⟨Z, 0, none⟩) 1 1 (fun h => by cases h) (rsCells [(⟨n.client, n.conn, n.p.clean, gy, vy, Sy⟩ : Rs)]) rfl hnr (rs_ones _) (by unfold maxLen; omega) (by omega) HK.size; have hog := only_grown hgr; have hmb := HR.box.only hog (fun e => (own_hasT HR.own e).ne HR.box.hasT (by decide) rfl); have HK2 := HK.grown hgr (fun g hg => (own_lt HR.own hg).2) (fun g hg z hz => by rw [List.mem_singleton.1 hz]; exact hvy g hg) (fun r hr => by cases hr); have HY2 := HY.only hog (fun e => (own_hasT HR.own e).ne HY.list.blk.hasT (by decide) rfl) (fun r hr e => (own_hasT HR.own e).ne (HY.list.own.hasT hr) (by decide) rfl); refine fr_step (i := 7) (o := ⟨some 105, _, _, _, _, _⟩) F rfl rfl 105 rfl (by decide) v8 w8 (fun a' F' => hrun _ (F'.ev 102 rfl) (F'.ev 104 rfl)) ⟨hmb.range, (HK2.at 0 rfl).range, trivial⟩ ?_; clear F a9; intro a9 F; have HRo := Lib.hid HR; have HOG := Lib.hid hog; have HONo := Lib.hid HON; clear hi0 hz0 hz1 hz2 i0 hnr HK HR HON HY hgr hrun hog; obtain ⟨wo, hwo⟩ : ∃ wo, wo = w9 := ⟨_, rfl⟩
   rw [← hwo] at HRo HOG HONo; clear hwo w9; obtain ⟨w9, hw8⟩ : ∃ z, z = w8 := ⟨_, rfl⟩
   subst hw8; have HK := HK2; have HY := HY2; clear HK2 HY2; rw [rsCells_app] at hown; refine fr_step (i := 8) (o := ⟨some 106, _, _, _, _, _⟩) F rfl rfl 106 rfl (by decide) (pQ m 0) w9 (fun a' F' => by have h98 := F'.at' 98 _ rfl; go_simp) ⟨hmb.range, (HK.at 0 rfl).range, trivial⟩ ?_; clear F a9; intro a9 F; refine xPT F [⟨m, 0, [vl1, pQ K 0]⟩, ⟨Y, 0, (rsV (⟨n.client, n.conn, n.p.clean, gy, vy, Sy⟩ : Rs)).toList⟩] [] [] (xN 9 [.c]) [(107, pQ m 0), (105, v8), (9, .bool pr), (6, .bool false), (5, .bool false), (4, .string ⟨#[]⟩)] ⟨hmb.range, (HK.at 0 rfl).range, trivial⟩ (fun _ h => h) trivial trivial ?_; clear F a9; intro a9 F; have HKm := (HK.sub (L' := []) (List.nil_sublist _) (fun r hr => hr)).withBox ⟨m, #[vl1, .pointer (some ⟨K, 0, none⟩)], 106⟩ hmb hml (fun z hz => by cases hz); have HK3 := keep_setCells v8.cells.toList 0 _ _ _ HKm (i := 0) rfl; rw [show setMany #[vl1, .pointer (some ⟨K, 0, none⟩)] 0 v8.cells.toList = #[v8, .pointer (some ⟨K, 0, none⟩)] from own_set2 hown _ _] at HK3; have hos : Only (fun j => j = m) w9 (w9.setCells m 0 v8.cells.toList) := only_setCells _ _ _ _ (Only.refl _ _); refine fr_last (o := ⟨none, _, _, _, _, _⟩) F rfl rfl rfl (w9.setCells m 0 v8.cells.toList) (fun a' F' => run_store HKm 0 rfl 104 (.tmp 107) (.tmp 105) rfl 0 v8 (F'.ev 107 rfl) (F'.ev 105 rfl) (by rw [own_size1 hown]; kernel_rfl) (by rw [own_size1 hown]; exact Nat.succ_le_succ (Nat.zero_le _)) (own_one1 hown)) ?_; clear F a9; intro a9 F; generalize w9.setCells m 0 v8.cells.toList = w10 at HK3 hos ⊢; refine AnyT.done (by kernel_rfl) ?_ _; refine NoPanic.normal ?_; have hon2 : Only (fun j => j = m ∨ vl1.ownBlock = some j) wo w10 := Only.trans (HOG.out.weaken (fun j h => Or.inr h)) hos (fun j _ h => Or.inl h); have hl2 : L1.length + 1 = (L1 ++ [(⟨n.client, n.conn, n.p.clean, gy, vy, Sy⟩ : Rs)]).length := by rw [List.length_append]; rfl
   rw [hl2] at hown; have HRf := HRo.out.setM (L' := L1 ++ [(⟨n.client, n.conn, n.p.clean, gy, vy, Sy⟩ : Rs)]) hon2 (fun j _ hj => hj.elim (fun e => Or.inl (by rw [e]; exact HRo.out.box.hasT)) (fun e => Or.inr (own_hasT HRo.out.own e))) (HK3.at 0 rfl) (own_only hown hos (fun g hg e => (own_hasT hown hg).ne hmb.hasT (by decide) e))
     (fun x hx => (List.mem_append.1 hx).elim (fun h => Or.inl (HRo.out.st x h)) (fun h => Or.inr (by rw [List.mem_singleton.1 h]; exact HY.only hos (HY.list.blk.hasT.ne hmb.hasT (by decide)) (fun r hr => (HY.list.own.hasT hr).ne hmb.hasT (by decide)))))
     (by rw [List.map_append, List.nodup_append]; exact ⟨HRo.out.nd, by simp, fun z hz y hy e => by
       obtain ⟨zz, hzz, rfl⟩ := List.mem_map.1 hz; have hy2 : y = n.client := by simpa using hy
       exact hcn zz hzz (e.trans hy2)⟩)
     (by rw [List.pairwise_append]; exact ⟨HRo.out.far, List.pairwise_singleton _ _, fun z hz y hy => by rw [List.mem_singleton.1 hy]; exact (hfy z hz).symm⟩)
   have HON := HONo.out.trans (onlyT_of hon2 (fun j hj => hj.elim (fun e => ⟨106, by rw [e]; exact HRo.out.box.hasT, by unfold E25; decide⟩) (fun e => ⟨112, own_hasT HRo.out.own e, by unfold E25; decide⟩))); have HKe := HK3.sub (L' := []) (List.nil_sublist _) (fun r hr => hr); clear HK HK3 HKm HRo HONo HOG hos hon2 hmb HY hown; show Code.wp _ _ _ _ _; have hap : applyS (absR L) n = ((e0, pr, true), updS (absR L) n.client (some ⟨n.conn, n.p.clean, Sy⟩)) := by
     unfold applyS; have hng : ¬ (n.conn < 1 ∨ ∃ s, absR L n.client = some s ∧ 0 < s.conn) := by
       rintro (h | ⟨s, h, hs⟩)
       · exact hc1 h
       · rcases HC25.out with ⟨_, _, hab⟩ | ⟨k, x, e, hk, _, _, hab⟩
         · rw [hab] at h; cases h
         · rw [hab] at h
           injection h with h
           have := HC0.out k x e hk; rw [← h] at hs; simp only at hs
           omega
     rw [if_neg k5, if_neg (fun h => h k2), if_pos t1, if_neg hng]; rcases HC25.out with ⟨e, _, hab⟩ | ⟨k, x, e, hk, _, _, hab⟩
     · rw [hab]
       have hpf : pr = false := by
         cases hp : pr
         · rfl
         · obtain ⟨k, x, e2, _⟩ := HPR.out.1 hp
           omega
       obtain ⟨_, _, hS⟩ := HWH.out.2 hpf; rw [hpf, hS]
     · rw [hab]
       simp only
       cases hp : pr
       · obtain ⟨_, _, hS⟩ := HWH.out.2 hp
         rw [if_neg (fun h => by
           have := HPR.out.2 ⟨k, x, e, hk, h.1, h.2⟩; rw [hp] at this; cases this), hS]
       · obtain ⟨k2, x2, e2, h2, h3, h4⟩ := HPR.out.1 hp
         obtain ⟨k3, x3, e3, h5, _, _, hS⟩ := HWH.out.1 hp; obtain rfl : k = k2 := by omega
         obtain rfl : k = k3 := by omega
         rw [hk] at h2 h5; injection h2 with h2
         injection h5 with h5
         subst h2 h5; rw [if_pos ⟨h3, h4⟩, hS]
   refine xG F k0 (xC 4 []) [(6, .bool true), (5, .bool pr), (4, .string ⟨#[]⟩)] ?_; clear F a9; intro a9 F; refine wp_ret ?_; exact fr_ret3t F rfl _ _ _ rfl rfl rfl (FIN.out e0 pr true _ _ _ Q _ (by rw [hap]) (by rw [hap, ← hup]; exact absR_snoc hcn) HRf (by rw [← hl2]; omega) (by omega) HKe HON)
  refine xGF F (kF [(.bool ((((n.p.ty : Int)) : Int) == 1), .bool false)] ⟨eqI' (by omega), trivial⟩) [.c, .f 0] 35 [(35, .bool false), (8, .int .u8 (n.p.ty : Int)), (7, .int .i64 i), (6, .bool false), (5, .bool false), (4, .string ⟨#[]⟩), (3, pQ X 0), (0, pQ m 0)] ?_; clear F a9; intro a9 F; replace F := F.cut [(8, .int .u8 (n.p.ty : Int)), (7, .int .i64 i), (6, .bool false), (5, .bool false), (4, .string ⟨#[]⟩), (3, pQ X 0), (0, pQ m 0)] (by kernel_rfl); refine wp_seq ?_; rcases hic with ⟨rfl, hnone, hab⟩ | hc
  ·
   refine dR (fun w' => MemOk w' [⟨m, 0, [.slice a L.length ca, pQ K 0]⟩, ⟨X, 0, (ntV n an cn).toList⟩]) (by kernel_rfl) fun w8 hb8 => ?_
   replace HK := HK.below hb8; replace HR := HR.below hb8; replace HON := HON.then hb8
   clear hb8 w9; rename World => w9
   refine ⟨⟨HR.box.range, (HK.at 0 rfl).range, trivial⟩, ?_⟩; refine xD F [⟨m, 0, [.slice a L.length ca, pQ K 0]⟩, ⟨X, 0, (ntV n an cn).toList⟩] [] [] (xN 0 (xC 36 [])) [(144, .bool true), (8, .int .u8 (n.p.ty : Int)), (7, .int .i64 (-1)), (6, .bool false), (5, .bool false), (4, .string ⟨#[]⟩), (3, pQ X 0), (0, pQ m 0)] ⟨HR.box.range, (HK.at 0 rfl).range, trivial⟩ (fun _ h => h) trivial trivial ?_; clear F a9; intro a9 F; refine wp_cond_true (F.ev 144 rfl) ?_; refine xG F k0 (xC 3 []) [(6, .bool false), (5, .bool false), (4, .string ⟨#[]⟩)] ?_; clear F a9; intro a9 F; refine wp_ret ?_; exact fr_ret3t F rfl _ _ _ rfl rfl rfl (FIN.out _ _ _ _ _ L Q _ (by unfold applyS; rw [if_neg k5, if_neg (fun h => h k2), if_neg t1, hab]; simp only; rfl) (by unfold applyS; rw [if_neg k5, if_neg (fun h => h k2), if_neg t1, hab]) HR (by omega) (by omega) (HK.sub (List.nil_sublist _) (fun r hr => hr)) HON)
  obtain ⟨k, x, rfl, hk, hkl, hxc, hab⟩ := hc; have HXK := Lib.hid hk; have hxm := List.mem_of_getElem? hk; have hal := HROW.out k x hk; obtain ⟨q, hq⟩ : ∃ q, o0 + k * 4 = q := ⟨_, rfl⟩
  have HQ := Lib.hid hq; have HAL := Lib.hid hal; clear hk hq hal; by_cases hc1 : n.conn < 1
  ·
   refine dR (fun w' => MemOk w' [⟨m, 0, [.slice a L.length ca, pQ K 0]⟩, ⟨X, 0, (ntV n an cn).toList⟩, ⟨b, q, rsC x⟩]) (by kernel_rfl) fun w8 hb8 => ?_
   replace HK := HK.below hb8; replace HR := HR.below hb8; replace HON := HON.then hb8
   clear hb8 w9; rename World => w9
   refine ⟨⟨HR.box.range, (HK.at 0 rfl).range, rs_at HR.own HXK.out HAL.out HQ.out, trivial⟩, ?_⟩; refine xD F [⟨m, 0, [.slice a L.length ca, pQ K 0]⟩, ⟨X, 0, (ntV n an cn).toList⟩, ⟨b, q, rsC x⟩] [(.bool (decide (((((k : Nat) : Int)) : Int) < 0)), .bool false), (.bool (decide (((n.conn) : Int) < 1)), .bool true)] [] (xN 0 (.c :: .f 0 :: .c :: .c :: .l 1 2 :: .f 1 :: xC 30 [])) [(144, .bool true), (8, .int .u8 (n.p.ty : Int)), (7, .int .i64 ((k : Nat) : Int)), (6, .bool false), (5, .bool false), (4, .string ⟨#[]⟩), (3, pQ X 0), (0, pQ m 0)] ⟨HR.box.range, (HK.at 0 rfl).range, rs_at HR.own HXK.out HAL.out HQ.out, trivial⟩ (fun _ h => h) ⟨dcF (by omega), dcT (by omega), trivial⟩ trivial ?_; clear F a9; intro a9 F; refine wp_cond_true (F.ev 144 rfl) ?_; refine xG F k0 (xC 3 []) [(6, .bool false), (5, .bool false), (4, .string ⟨#[]⟩)] ?_; clear F a9; intro a9 F; refine wp_ret ?_; exact fr_ret3t F rfl _ _ _ rfl rfl rfl (FIN.out _ _ _ _ _ L Q _ (by unfold applyS; rw [if_neg k5, if_neg (fun h => h k2), if_neg t1, hab]; simp only; rw [if_pos (Or.inl hc1)]; rfl) (by unfold applyS; rw [if_neg k5, if_neg (fun h => h k2), if_neg t1, hab]; simp only; rw [if_pos (Or.inl hc1)]) HR (by omega) (by omega) (HK.sub (List.nil_sublist _) (fun r hr => hr)) HON)
  by_cases hcc : x.conn = n.conn; rotate_left
  ·
   refine dR (fun w' => MemOk w' [⟨m, 0, [.slice a L.length ca, pQ K 0]⟩, ⟨X, 0, (ntV n an cn).toList⟩, ⟨b, q, rsC x⟩]) (by kernel_rfl) fun w8 hb8 => ?_
   replace HK := HK.below hb8; replace HR := HR.below hb8; replace HON := HON.then hb8
   clear hb8 w9; rename World => w9
   refine ⟨⟨HR.box.range, (HK.at 0 rfl).range, rs_at HR.own HXK.out HAL.out HQ.out, trivial⟩, ?_⟩; refine xD F [⟨m, 0, [.slice a L.length ca, pQ K 0]⟩, ⟨X, 0, (ntV n an cn).toList⟩, ⟨b, q, rsC x⟩] [(.bool (decide (((((k : Nat) : Int)) : Int) < 0)), .bool false), (.bool (decide (((n.conn) : Int) < 1)), .bool false), (.bool (((x.conn) : Int) != n.conn), .bool true)] [⟨a, L.length, ca, .i64, ((k : Nat) : Int), 4, ⟨b, q, none⟩⟩] (xN 0 (.c :: .f 0 :: .c :: .c :: .l 1 2 :: .f 1 :: xC 5 (.l 0 0 :: .c :: .i 0 :: .c :: .l 2 1 :: .c :: .l 1 2 :: .f 2 :: xC 17 []))) [(144, .bool true), (8, .int .u8 (n.p.ty : Int)), (7, .int .i64 ((k : Nat) : Int)), (6, .bool false), (5, .bool false), (4, .string ⟨#[]⟩), (3, pQ X 0), (0, pQ m 0)] ⟨HR.box.range, (HK.at 0 rfl).range, rs_at HR.own HXK.out HAL.out HQ.out, trivial⟩ (fun _ h => h) ⟨dcF (by omega), dcF (by omega), neI (by omega), trivial⟩ ⟨⟨b, o0, k, HAL.out, rfl, hkl, by rw [HQ.out]⟩, trivial⟩ ?_; clear F a9; intro a9 F; refine wp_cond_true (F.ev 144 rfl) ?_; refine xG F k0 (xC 3 []) [(6, .bool false), (5, .bool false), (4, .string ⟨#[]⟩)] ?_; clear F a9; intro a9 F; refine wp_ret ?_; exact fr_ret3t F rfl _ _ _ rfl rfl rfl (FIN.out _ _ _ _ _ L Q _ (by unfold applyS; rw [if_neg k5, if_neg (fun h => h k2), if_neg t1, hab]; simp only; rw [if_pos (Or.inr hcc)]; rfl) (by unfold applyS; rw [if_neg k5, if_neg (fun h => h k2), if_neg t1, hab]; simp only; rw [if_pos (Or.inr hcc)]) HR (by omega) (by omega) (HK.sub (List.nil_sublist _) (fun r hr => hr)) HON)
  have hok : ¬ (n.conn < 1 ∨ x.conn ≠ n.conn) := fun h => h.elim hc1 (fun h => h hcc)
  by_cases hty : n.p.ty = 8 ∨ n.p.ty = 10 ∨ n.p.ty = 14 ∨ n.p.ty = 0; rotate_left
  ·
   have y8 : n.p.ty ≠ 8 := fun h => hty (Or.inl h)
   have y10 : n.p.ty ≠ 10 := fun h => hty (Or.inr (Or.inl h))
   have y14 : n.p.ty ≠ 14 := fun h => hty (Or.inr (Or.inr (Or.inl h)))
   have y0 : n.p.ty ≠ 0 := fun h => hty (Or.inr (Or.inr (Or.inr h)))
   refine dR (fun w' => MemOk w' [⟨m, 0, [.slice a L.length ca, pQ K 0]⟩, ⟨X, 0, (ntV n an cn).toList⟩, ⟨b, q, rsC x⟩]) (by kernel_rfl) fun w8 hb8 => ?_
   replace HK := HK.below hb8; replace HR := HR.below hb8; replace HON := HON.then hb8
   clear hb8 w9; rename World => w9
   refine ⟨⟨HR.box.range, (HK.at 0 rfl).range, rs_at HR.own HXK.out HAL.out HQ.out, trivial⟩, ?_⟩; refine xD F [⟨m, 0, [.slice a L.length ca, pQ K 0]⟩, ⟨X, 0, (ntV n an cn).toList⟩, ⟨b, q, rsC x⟩] [(.bool (decide (((((k : Nat) : Int)) : Int) < 0)), .bool false), (.bool (decide (((n.conn) : Int) < 1)), .bool false), (.bool (((x.conn) : Int) != n.conn), .bool false), (.bool ((((n.p.ty : Int)) : Int) != 8), .bool true), (.bool ((((n.p.ty : Int)) : Int) != 10), .bool true), (.bool ((((n.p.ty : Int)) : Int) != 14), .bool true), (.bool ((((n.p.ty : Int)) : Int) != 0), .bool true)] [⟨a, L.length, ca, .i64, ((k : Nat) : Int), 4, ⟨b, q, none⟩⟩] (xN 0 (.c :: .f 0 :: .c :: .c :: .l 1 2 :: .f 1 :: xC 5 (.l 0 0 :: .c :: .i 0 :: .c :: .l 2 1 :: .c :: .l 1 2 :: .f 2 :: xC 3 (.f 3 :: .c :: .c :: .f 4 :: xC 3 (.f 5 :: xC 3 ([.f 6, .c, .c])))))) [(144, .bool true), (8, .int .u8 (n.p.ty : Int)), (7, .int .i64 ((k : Nat) : Int)), (6, .bool false), (5, .bool false), (4, .string ⟨#[]⟩), (3, pQ X 0), (0, pQ m 0)] ⟨HR.box.range, (HK.at 0 rfl).range, rs_at HR.own HXK.out HAL.out HQ.out, trivial⟩ (fun _ h => h) ⟨dcF (by omega), dcF (by omega), neI' (by omega), neI (by omega), neI (by omega), neI (by omega), neI (by omega), trivial⟩ ⟨⟨b, o0, k, HAL.out, rfl, hkl, by rw [HQ.out]⟩, trivial⟩ ?_; clear F a9; intro a9 F; refine wp_cond_true (F.ev 144 rfl) ?_; refine xG F k0 (xC 3 []) [(6, .bool false), (5, .bool false), (4, .string ⟨#[]⟩)] ?_; clear F a9; intro a9 F; refine wp_ret ?_; exact fr_ret3t F rfl _ _ _ rfl rfl rfl (FIN.out _ _ _ _ _ L Q _ (by unfold applyS; rw [if_neg k5, if_neg (fun h => h k2), if_neg t1, hab]; simp only; rw [if_neg hok, if_neg y8, if_neg y10, if_neg (fun h => h.elim y14 y0)]; rfl) (by unfold applyS; rw [if_neg k5, if_neg (fun h => h k2), if_neg t1, hab]; simp only; rw [if_neg hok, if_neg y8, if_neg y10, if_neg (fun h => h.elim y14 y0)]) HR (by omega) (by omega) (HK.sub (List.nil_sublist _) (fun r hr => hr)) HON)
  refine wp_meet (fun a' w' => FrL 216 [(8, .int .u8 (n.p.ty : Int)), (7, .int .i64 ((k : Nat) : Int)), (6, .bool false), (5, .bool false), (4, .string ⟨#[]⟩), (3, pQ X 0), (0, pQ m 0)] a' ∧ RmAt w' w0.heap.size m K (.slice a L.length ca) vk (L) Q ∧ OnlyT E25 w w' ∧ Keep w0 [(X, (ntV n an cn), 53)] [] w') ?_ ?_
  ·
   by_cases y8 : n.p.ty = 8
   ·
    refine dR (fun w' => MemOk w' [⟨m, 0, [.slice a L.length ca, pQ K 0]⟩, ⟨X, 0, (ntV n an cn).toList⟩, ⟨b, q, rsC x⟩]) (by kernel_rfl) fun w8 hb8 => ?_
    replace HK := HK.below hb8; replace HR := HR.below hb8; replace HON := HON.then hb8
    clear hb8 w9; rename World => w9
    refine ⟨⟨HR.box.range, (HK.at 0 rfl).range, rs_at HR.own HXK.out HAL.out HQ.out, trivial⟩, ?_⟩; refine xD F [⟨m, 0, [.slice a L.length ca, pQ K 0]⟩, ⟨X, 0, (ntV n an cn).toList⟩, ⟨b, q, rsC x⟩] [(.bool (decide (((((k : Nat) : Int)) : Int) < 0)), .bool false), (.bool (decide (((n.conn) : Int) < 1)), .bool false), (.bool (((x.conn) : Int) != n.conn), .bool false), (.bool ((((n.p.ty : Int)) : Int) != 8), .bool false)] [⟨a, L.length, ca, .i64, ((k : Nat) : Int), 4, ⟨b, q, none⟩⟩] (xN 0 (.c :: .f 0 :: .c :: .c :: .l 1 2 :: .f 1 :: xC 5 (.l 0 0 :: .c :: .i 0 :: .c :: .l 2 1 :: .c :: .l 1 2 :: .f 2 :: xC 3 (.f 3 :: xC 13 [])))) [(144, .bool false), (8, .int .u8 (n.p.ty : Int)), (7, .int .i64 ((k : Nat) : Int)), (6, .bool false), (5, .bool false), (4, .string ⟨#[]⟩), (3, pQ X 0), (0, pQ m 0)] ⟨HR.box.range, (HK.at 0 rfl).range, rs_at HR.own HXK.out HAL.out HQ.out, trivial⟩ (fun _ h => h) ⟨dcF (by omega), dcF (by omega), neI' (by omega), neI' (by omega), trivial⟩ ⟨⟨b, o0, k, HAL.out, rfl, hkl, by rw [HQ.out]⟩, trivial⟩ ?_; clear F a9; intro a9 F; refine wp_cond_false (F.ev 144 rfl) ?_; refine wp_skip ?_; exact ⟨((((((((FrL.nil F.size F.defers).add 0 _ (F.at' 0 _ rfl)).add 3 _ (F.at' 3 _ rfl)).add 4 _ (F.at' 4 _ rfl)).add 5 _ (F.at' 5 _ rfl)).add 6 _ (F.at' 6 _ rfl)).add 7 _ (F.at' 7 _ rfl)).add 8 _ (F.at' 8 _ rfl)), HR, HON, HK⟩
   by_cases y10 : n.p.ty = 10
   ·
    refine dR (fun w' => MemOk w' [⟨m, 0, [.slice a L.length ca, pQ K 0]⟩, ⟨X, 0, (ntV n an cn).toList⟩, ⟨b, q, rsC x⟩]) (by kernel_rfl) fun w8 hb8 => ?_
    replace HK := HK.below hb8; replace HR := HR.below hb8; replace HON := HON.then hb8
    clear hb8 w9; rename World => w9
    refine ⟨⟨HR.box.range, (HK.at 0 rfl).range, rs_at HR.own HXK.out HAL.out HQ.out, trivial⟩, ?_⟩; refine xD F [⟨m, 0, [.slice a L.length ca, pQ K 0]⟩, ⟨X, 0, (ntV n an cn).toList⟩, ⟨b, q, rsC x⟩] [(.bool (decide (((((k : Nat) : Int)) : Int) < 0)), .bool false), (.bool (decide (((n.conn) : Int) < 1)), .bool false), (.bool (((x.conn) : Int) != n.conn), .bool false), (.bool ((((n.p.ty : Int)) : Int) != 8), .bool true), (.bool ((((n.p.ty : Int)) : Int) != 10), .bool false)] [⟨a, L.length, ca, .i64, ((k : Nat) : Int), 4, ⟨b, q, none⟩⟩] (xN 0 (.c :: .f 0 :: .c :: .c :: .l 1 2 :: .f 1 :: xC 5 (.l 0 0 :: .c :: .i 0 :: .c :: .l 2 1 :: .c :: .l 1 2 :: .f 2 :: xC 3 (.f 3 :: .c :: .c :: .f 4 :: xC 10 [])))) [(144, .bool false), (8, .int .u8 (n.p.ty : Int)), (7, .int .i64 ((k : Nat) : Int)), (6, .bool false), (5, .bool false), (4, .string ⟨#[]⟩), (3, pQ X 0), (0, pQ m 0)] ⟨HR.box.range, (HK.at 0 rfl).range, rs_at HR.own HXK.out HAL.out HQ.out, trivial⟩ (fun _ h => h) ⟨dcF (by omega), dcF (by omega), neI' (by omega), neI (by omega), neI' (by omega), trivial⟩ ⟨⟨b, o0, k, HAL.out, rfl, hkl, by rw [HQ.out]⟩, trivial⟩ ?_; clear F a9; intro a9 F; refine wp_cond_false (F.ev 144 rfl) ?_; refine wp_skip ?_; exact ⟨((((((((FrL.nil F.size F.defers).add 0 _ (F.at' 0 _ rfl)).add 3 _ (F.at' 3 _ rfl)).add 4 _ (F.at' 4 _ rfl)).add 5 _ (F.at' 5 _ rfl)).add 6 _ (F.at' 6 _ rfl)).add 7 _ (F.at' 7 _ rfl)).add 8 _ (F.at' 8 _ rfl)), HR, HON, HK⟩
   by_cases y14 : n.p.ty = 14
   ·
    refine dR (fun w' => MemOk w' [⟨m, 0, [.slice a L.length ca, pQ K 0]⟩, ⟨X, 0, (ntV n an cn).toList⟩, ⟨b, q, rsC x⟩]) (by kernel_rfl) fun w8 hb8 => ?_
    replace HK := HK.below hb8; replace HR := HR.below hb8; replace HON := HON.then hb8
    clear hb8 w9; rename World => w9
    refine ⟨⟨HR.box.range, (HK.at 0 rfl).range, rs_at HR.own HXK.out HAL.out HQ.out, trivial⟩, ?_⟩; refine xD F [⟨m, 0, [.slice a L.length ca, pQ K 0]⟩, ⟨X, 0, (ntV n an cn).toList⟩, ⟨b, q, rsC x⟩] [(.bool (decide (((((k : Nat) : Int)) : Int) < 0)), .bool false), (.bool (decide (((n.conn) : Int) < 1)), .bool false), (.bool (((x.conn) : Int) != n.conn), .bool false), (.bool ((((n.p.ty : Int)) : Int) != 8), .bool true), (.bool ((((n.p.ty : Int)) : Int) != 10), .bool true), (.bool ((((n.p.ty : Int)) : Int) != 14), .bool false)] [⟨a, L.length, ca, .i64, ((k : Nat) : Int), 4, ⟨b, q, none⟩⟩] (xN 0 (.c :: .f 0 :: .c :: .c :: .l 1 2 :: .f 1 :: xC 5 (.l 0 0 :: .c :: .i 0 :: .c :: .l 2 1 :: .c :: .l 1 2 :: .f 2 :: xC 3 (.f 3 :: .c :: .c :: .f 4 :: xC 3 (.f 5 :: xC 6 []))))) [(144, .bool false), (8, .int .u8 (n.p.ty : Int)), (7, .int .i64 ((k : Nat) : Int)), (6, .bool false), (5, .bool false), (4, .string ⟨#[]⟩), (3, pQ X 0), (0, pQ m 0)] ⟨HR.box.range, (HK.at 0 rfl).range, rs_at HR.own HXK.out HAL.out HQ.out, trivial⟩ (fun _ h => h) ⟨dcF (by omega), dcF (by omega), neI' (by omega), neI (by omega), neI (by omega), neI' (by omega), trivial⟩ ⟨⟨b, o0, k, HAL.out, rfl, hkl, by rw [HQ.out]⟩, trivial⟩ ?_; clear F a9; intro a9 F; refine wp_cond_false (F.ev 144 rfl) ?_; refine wp_skip ?_; exact ⟨((((((((FrL.nil F.size F.defers).add 0 _ (F.at' 0 _ rfl)).add 3 _ (F.at' 3 _ rfl)).add 4 _ (F.at' 4 _ rfl)).add 5 _ (F.at' 5 _ rfl)).add 6 _ (F.at' 6 _ rfl)).add 7 _ (F.at' 7 _ rfl)).add 8 _ (F.at' 8 _ rfl)), HR, HON, HK⟩
   refine dR (fun w' => MemOk w' [⟨m, 0, [.slice a L.length ca, pQ K 0]⟩, ⟨X, 0, (ntV n an cn).toList⟩, ⟨b, q, rsC x⟩]) (by kernel_rfl) fun w8 hb8 => ?_
   replace HK := HK.below hb8; replace HR := HR.below hb8; replace HON := HON.then hb8
   clear hb8 w9; rename World => w9
   refine ⟨⟨HR.box.range, (HK.at 0 rfl).range, rs_at HR.own HXK.out HAL.out HQ.out, trivial⟩, ?_⟩; refine xD F [⟨m, 0, [.slice a L.length ca, pQ K 0]⟩, ⟨X, 0, (ntV n an cn).toList⟩, ⟨b, q, rsC x⟩] [(.bool (decide (((((k : Nat) : Int)) : Int) < 0)), .bool false), (.bool (decide (((n.conn) : Int) < 1)), .bool false), (.bool (((x.conn) : Int) != n.conn), .bool false), (.bool ((((n.p.ty : Int)) : Int) != 8), .bool true), (.bool ((((n.p.ty : Int)) : Int) != 10), .bool true), (.bool ((((n.p.ty : Int)) : Int) != 14), .bool true), (.bool ((((n.p.ty : Int)) : Int) != 0), .bool false)] [⟨a, L.length, ca, .i64, ((k : Nat) : Int), 4, ⟨b, q, none⟩⟩] (xN 0 (.c :: .f 0 :: .c :: .c :: .l 1 2 :: .f 1 :: xC 5 (.l 0 0 :: .c :: .i 0 :: .c :: .l 2 1 :: .c :: .l 1 2 :: .f 2 :: xC 3 (.f 3 :: .c :: .c :: .f 4 :: xC 3 (.f 5 :: xC 3 ([.f 6, .c, .c])))))) [(144, .bool false), (8, .int .u8 (n.p.ty : Int)), (7, .int .i64 ((k : Nat) : Int)), (6, .bool false), (5, .bool false), (4, .string ⟨#[]⟩), (3, pQ X 0), (0, pQ m 0)] ⟨HR.box.range, (HK.at 0 rfl).range, rs_at HR.own HXK.out HAL.out HQ.out, trivial⟩ (fun _ h => h) ⟨dcF (by omega), dcF (by omega), neI' (by omega), neI (by omega), neI (by omega), neI (by omega), neI' (by omega), trivial⟩ ⟨⟨b, o0, k, HAL.out, rfl, hkl, by rw [HQ.out]⟩, trivial⟩ ?_; clear F a9; intro a9 F; refine wp_cond_false (F.ev 144 rfl) ?_; refine wp_skip ?_; exact ⟨((((((((FrL.nil F.size F.defers).add 0 _ (F.at' 0 _ rfl)).add 3 _ (F.at' 3 _ rfl)).add 4 _ (F.at' 4 _ rfl)).add 5 _ (F.at' 5 _ rfl)).add 6 _ (F.at' 6 _ rfl)).add 7 _ (F.at' 7 _ rfl)).add 8 _ (F.at' 8 _ rfl)), HR, HON, HK⟩
  clear F a9 HK HR HON; rintro a9 w8 ⟨F, HR, HON, HK⟩; clear w9; rename World => w9
  show Code.wp _ _ _ _ _; refine xG F k0 [.c] [(11, .string ⟨#[]⟩), (8, .int .u8 (n.p.ty : Int)), (7, .int .i64 ((k : Nat) : Int)), (3, pQ X 0), (0, pQ m 0)] ?_; clear F a9; intro a9 F; have hset0 : L.set k { x with v := x.v, S := (subsQ n.p.ty x.S (n.p.subs.take (0))).2 } = L := by
    rw [set_is HXK.out, List.take_zero, subsR_nil]; exact (split_at HXK.out).symm
  have hcd0 : codesS (subsQ n.p.ty x.S (n.p.subs.take (0))).1 = ⟨#[]⟩ := by rw [List.take_zero, subsR_nil]; rfl
  have hjn : n.p.subs.length ≤ 20 := HN.out.ok.few; have HR2 : RmAt w9 w0.heap.size m K (.slice a L.length ca) vk (L.set k { x with v := x.v, S := (subsQ n.p.ty x.S (n.p.subs.take (0))).2 }) Q := by rw [hset0]; exact HR
  clear HR; have HR := HR2; clear HR2; rw [← hcd0] at F; clear hset0 hcd0; refine wp_seq ?_; refine xG F k0 [.c] [(12, .int .i64 0), (11, .string (codesS (subsQ n.p.ty x.S (n.p.subs.take (0))).1)), (8, .int .u8 (n.p.ty : Int)), (7, .int .i64 ((k : Nat) : Int)), (3, pQ X 0), (0, pQ m 0)] ?_; clear F a9; intro a9 F; refine wp_block_end (fun a' w' => ∃ vj cj, (∃ jj : Nat, FrL 216 [(12, .int .i64 (jj : Int)), (11, .string (codesS cj)), (8, .int .u8 (n.p.ty : Int)), (7, .int .i64 ((k : Nat) : Int)), (3, pQ X 0), (0, pQ m 0)] a') ∧ cj = (subsQ n.p.ty x.S (n.p.subs.take (n.p.subs.length))).1 ∧ RmAt w' w0.heap.size m K (.slice a L.length ca) vk (L.set k { x with v := vj, S := (subsQ n.p.ty x.S (n.p.subs.take (n.p.subs.length))).2 }) Q ∧ OnlyT E25 w w' ∧ Keep w0 [(X, (ntV n an cn), 53)] [] w') ?_ ?_
  ·
   refine wp_loop (fun a' w' => ∃ j : Nat, j ≤ n.p.subs.length ∧ ∃ vj cj, FrL 216 [(12, .int .i64 (j : Int)), (11, .string (codesS cj)), (8, .int .u8 (n.p.ty : Int)), (7, .int .i64 ((k : Nat) : Int)), (3, pQ X 0), (0, pQ m 0)] a' ∧ cj = (subsQ n.p.ty x.S (n.p.subs.take (j))).1 ∧ RmAt w' w0.heap.size m K (.slice a L.length ca) vk (L.set k { x with v := vj, S := (subsQ n.p.ty x.S (n.p.subs.take (j))).2 }) Q ∧ OnlyT E25 w w' ∧ Keep w0 [(X, (ntV n an cn), 53)] [] w') (fun a' _ => muI (n.p.subs.length) 12 a') ⟨0, Nat.zero_le _, x.v, (subsQ n.p.ty x.S (n.p.subs.take (0))).1, F, rfl, HR, HON, HK⟩ ?_; clear F a9 HK HR HON w9; rintro a9 w9 ⟨j, hk_j, vj, cj, F, hcj, HR, HON, HK⟩; rw [muI_at F 12 j rfl]; refine wp_seq ?_; by_cases hlt_j : j < n.p.subs.length
   ·
    refine xG F (kOF [⟨X, 0, (ntV n an cn).toList⟩] ⟨(HK.at 0 rfl).range, trivial⟩ [(.bool (decide ((((j : Int)) : Int) < (n.p.subs.length : Int))), .bool true)] ⟨dcT (by omega), trivial⟩) (xC 3 ([.l 0 26, .c, .f 0])) [(150, .bool true), (12, .int .i64 (j : Int)), (11, .string (codesS cj)), (8, .int .u8 (n.p.ty : Int)), (7, .int .i64 ((k : Nat) : Int)), (3, pQ X 0), (0, pQ m 0)] ?_; clear F a9; intro a9 F; refine wp_cond_true (F.ev 150 rfl) ?_; refine xK ?_; replace F := F.cut [(12, .int .i64 (j : Int)), (11, .string (codesS cj)), (8, .int .u8 (n.p.ty : Int)), (7, .int .i64 ((k : Nat) : Int)), (3, pQ X 0), (0, pQ m 0)] (by kernel_rfl); subst hcj; obtain ⟨y, hy⟩ : ∃ y, n.p.subs[j]? = some y := ⟨_, List.getElem?_eq_getElem hlt_j⟩
    obtain ⟨bs, qs0, hys, hyr⟩ := sub_range HN.out.ok.row hy; obtain ⟨qs, hqs⟩ : ∃ qs, qs0 + j * 2 = qs := ⟨_, rfl⟩
    rw [hqs] at hyr; have htk : n.p.subs.take (j + 1) = n.p.subs.take j ++ [y] := by rw [List.take_add_one, hy]; rfl
    have HTK := Lib.hid htk; have HYS := Lib.hid hys; have HQS := Lib.hid hqs; have HYR := Lib.hid (fun w9 (h : Below w0.heap.size w0 w9) => range_below hyr h); have hysm := HN.out.ok.small _ (List.mem_of_getElem? hy); have HXJ := Lib.hid (show (L.set k { x with v := vj, S := (subsQ n.p.ty x.S (n.p.subs.take (j))).2 })[k]? = some { x with v := vj, S := (subsQ n.p.ty x.S (n.p.subs.take (j))).2 } from by rw [List.getElem?_set_self hkl]); clear hys hqs hyr hy htk; refine wp_seq ?_; refine wp_block_end (fun a' w' => ∃ vj cj, FrL 216 [(12, .int .i64 (j : Int)), (11, .string (codesS cj)), (8, .int .u8 (n.p.ty : Int)), (7, .int .i64 ((k : Nat) : Int)), (3, pQ X 0), (0, pQ m 0)] a' ∧ cj = (subsQ n.p.ty x.S (n.p.subs.take (j + 1))).1 ∧ RmAt w' w0.heap.size m K (.slice a L.length ca) vk (L.set k { x with v := vj, S := (subsQ n.p.ty x.S (n.p.subs.take (j + 1))).2 }) Q ∧ OnlyT E25 w w' ∧ Keep w0 [(X, (ntV n an cn), 53)] [] w') ?_ ?_
    ·
     refine xR ?_; refine xP F ⟨[⟨X, 0, (ntV n an cn).toList⟩, ⟨bs, qs, [.string y.1, .int .u8 (y.2 : Int)]⟩], [], [⟨an, n.p.subs.length, cn, .i64, (j : Int), 2, ⟨bs, qs, none⟩⟩], ⟨(HK.at 0 rfl).range, HYR.out _ HK.low, trivial⟩, trivial, ⟨⟨bs, qs0, j, HYS.out, rfl, hlt_j, by rw [HQS.out]⟩, trivial⟩⟩ [.c, .c, .l 0 26, .c, .i 0, .l 1 0] [(158, .agg #[.string y.1, .int .u8 (y.2 : Int)]), (12, .int .i64 (j : Int)), (11, .string (codesS (subsQ n.p.ty x.S (n.p.subs.take (j))).1)), (8, .int .u8 (n.p.ty : Int)), (7, .int .i64 ((k : Nat) : Int)), (3, pQ X 0), (0, pQ m 0)] ?_; clear F a9; intro a9 F; obtain ⟨i0, hi, hz0, hz1, hz2⟩ := info_parts infoSub; refine fr_new F HK 13 (by decide) rfl 46 rfl rfl rfl (.tmp 158) rfl rfl i0 _ hi hz0 (cells := #[.string y.1, .int .u8 (y.2 : Int)]) hz1 rfl (sb_one y) (fun a' Y F' => F'.ev 158 rfl) ?_; rintro V a10 w10 hX F' HK' hb; have hVv : ∀ r, vj.ownBlock = some r → r ≠ V := fun r hr e => by have := (far_lt (HR.st _ (List.mem_of_getElem? HXJ.out))).2 r hr; omega
     replace HR := HR.below hb; replace HON := HON.then hb
     clear HK F hb hX hi hz0 hz1 hz2 i0; clear a9 w9; rename World => w9
     rename Act => a9
     have HK := HK'; have F := F'; clear HK' F'; replace HK : Keep w0 [(V, #[.string y.1, .int .u8 (y.2 : Int)], 46), (X, (ntV n an cn), 53)] [] w9 := HK; replace F := F.cut [(13, pQ V 0), (12, .int .i64 (j : Int)), (11, .string (codesS (subsQ n.p.ty x.S (n.p.subs.take (j))).1)), (8, .int .u8 (n.p.ty : Int)), (7, .int .i64 ((k : Nat) : Int)), (3, pQ X 0), (0, pQ m 0)] (by kernel_rfl); refine xW ?_; by_cases y8 : n.p.ty = 8
     ·
      have hS : ∀ T, subsQ n.p.ty x.S T = setAll x.S T := fun T => by unfold subsQ; rw [if_pos y8]
      have hSn : subsQ n.p.ty x.S (n.p.subs.take (j + 1)) = ((subsQ n.p.ty x.S (n.p.subs.take (j))).1 ++ [(setS (subsQ n.p.ty x.S (n.p.subs.take (j))).2 y.1 y.2).1], (setS (subsQ n.p.ty x.S (n.p.subs.take (j))).2 y.1 y.2).2) := by rw [hS, hS, HTK.out, setAll_snoc]
      refine xGT F (kF [(.bool ((((n.p.ty : Int)) : Int) == 8), .bool true)] ⟨eqI (by omega), trivial⟩) [.c, .f 0] 160 [(160, .bool true), (13, pQ V 0), (12, .int .i64 (j : Int)), (11, .string (codesS (subsQ n.p.ty x.S (n.p.subs.take (j))).1)), (8, .int .u8 (n.p.ty : Int)), (7, .int .i64 ((k : Nat) : Int)), (3, pQ X 0), (0, pQ m 0)] ?_; clear F a9; intro a9 F; refine wp_region_noPanic ?_; have hb8 : Below w9.heap.size w9 w9.drew := below_draws (n := 1) rfl; replace HK := HK.below hb8; replace HR := HR.below hb8; replace HON := HON.then hb8
      clear hb8; refine AnyT.begin (S := fun w' => MemOk w' [⟨m, 0, [.slice a L.length ca, pQ K 0]⟩, ⟨b, q, rsC x⟩, ⟨V, 0, (#[.string y.1, .int .u8 (y.2 : Int)] : Array Value).toList⟩]) (z := 1000) (by kernel_rfl) ⟨HR.box.range, rs_at (x := { x with v := vj, S := (subsQ n.p.ty x.S (n.p.subs.take (j))).2 }) HR.own HXJ.out HAL.out HQ.out, (HK.at 0 rfl).range, trivial⟩ (fun hS0 => ?_); clear hS0; generalize w9.drew = w8 at *; clear w9; rename World => w9
      refine xPT F [⟨m, 0, [.slice a L.length ca, pQ K 0]⟩, ⟨b, q, rsC x⟩, ⟨V, 0, (#[.string y.1, .int .u8 (y.2 : Int)] : Array Value).toList⟩] [] [⟨a, L.length, ca, .i64, ((k : Nat) : Int), 4, ⟨b, q, none⟩⟩] (xN 0 (xC 4 ([.l 0 0, .c, .i 0, .c, .l 1 3, .c, .l 2 0, .c, .l 2 1]))) [(173, .int .u8 (y.2 : Int)), (171, .string y.1), (169, pQ x.g 0), (161, .string (codesS (subsQ n.p.ty x.S (n.p.subs.take (j))).1)), (13, pQ V 0), (12, .int .i64 (j : Int)), (11, .string (codesS (subsQ n.p.ty x.S (n.p.subs.take (j))).1)), (8, .int .u8 (n.p.ty : Int)), (7, .int .i64 ((k : Nat) : Int)), (3, pQ X 0), (0, pQ m 0)] ⟨HR.box.range, rs_at (x := { x with v := vj, S := (subsQ n.p.ty x.S (n.p.subs.take (j))).2 }) HR.own HXJ.out HAL.out HQ.out, (HK.at 0 rfl).range, trivial⟩ (fun _ h => h) trivial ⟨⟨b, o0, k, HAL.out, rfl, hkl, by rw [HQ.out]⟩, trivial⟩ ?_; clear F a9; intro a9 F; refine fr_stepC (i := 13) (o := ⟨some 174, _, _, _, _, _⟩) F rfl (wanted_free rfl) 174 rfl (by decide) 58 #[pQ x.g 0, .string y.1, .int .u8 (y.2 : Int)] (by intro a' F'; have h169 := F'.at' 169 _ rfl; have h171 := F'.at' 171 _ rfl; have h173 := F'.at' 173 _ rfl; go_simp) (ref15_Set w0.heap.size x.g vj (subsQ n.p.ty x.S (n.p.subs.take (j))).2 y.1 y.2 w9 (HR.st _ (List.mem_of_getElem? HXJ.out)).list (HR.st _ (List.mem_of_getElem? HXJ.out)).fine HK.size hysm.1 hysm.2) ?_; rintro e9 w8 ⟨v2, rfl, h1, h2, h3⟩; obtain ⟨hrat, hon, hv⟩ : RAt w8 w0.heap.size x.g v2 ((setS (subsQ n.p.ty x.S (n.p.subs.take (j))).2 y.1 y.2).2) ∧ Only (Foot x.g vj) w9 w8 ∧ (∀ r, v2.ownBlock = some r → vj.ownBlock = some r ∨ w9.heap.size ≤ r) := ⟨h1, h2, h3⟩
      have hxj := HR.st _ (List.mem_of_getElem? HXJ.out); have hft : ∀ {T : TypeId} {i : Nat}, HasT w9 i T → T ≠ 114 → T ≠ 46 → ¬ Foot x.g vj i := fun {T i} ht n1 n2 hf => by
        rcases hf with rfl | hf
        · exact ht.ne hxj.list.blk.hasT n1 rfl
        · exact ht.ne (hxj.list.own.hasT hf) n2 rfl
      have hV : ¬ Foot x.g vj V := fun hf => by
        rcases hf with e | hf
        · exact (HK.at 0 rfl).hasT.ne hxj.list.blk.hasT (by decide) e
        · exact hVv _ hf rfl
      have hlow : ∀ i, Foot x.g vj i → w0.heap.size ≤ i := fun i hf => by
        rcases hf with rfl | hf
        · exact hxj.list.lo
        · exact (hxj.list.own.lt hf).2
      have HK3 := HK.onlyF hon hlow (fun z hz => by
        rcases List.mem_cons.1 hz with rfl | hz
        · exact hV
        · rw [List.mem_singleton.1 hz]; exact hft (HK.at 1 rfl).hasT (by decide) (by decide))
      have HR2 := HR.setL HXJ.out hon hrat (setS_fine hxj.fine y.1 y.2 hysm.1) hv; rw [List.set_set] at HR2; have HON2 := HON.trans (onlyT_of hon (fun i hi => hi.elim (fun e => ⟨114, by rw [e]; exact hxj.list.blk.hasT, by unfold E25; decide⟩) (fun e => ⟨46, hxj.list.own.hasT e, by unfold E25; decide⟩))); clear HK HR HON hxj hft hlow hV hon hrat hv h1 h2 h3; have HK := HK3; have HR := HR2; have HON := HON2; clear HK3 HR2 HON2; clear w9; rename World => w9
      have HXJ2 := Lib.hid (show (L.set k { x with v := v2, S := (setS (subsQ n.p.ty x.S (n.p.subs.take (j))).2 y.1 y.2).2 })[k]? = some { x with v := v2, S := (setS (subsQ n.p.ty x.S (n.p.subs.take (j))).2 y.1 y.2).2 } from by rw [List.getElem?_set_self hkl]); refine ⟨_, rfl, ⟨HR.box.range, rs_at (x := { x with v := v2, S := (setS (subsQ n.p.ty x.S (n.p.subs.take (j))).2 y.1 y.2).2 }) HR.own HXJ2.out HAL.out HQ.out, (HK.at 0 rfl).range, trivial⟩, ?_⟩; clear F a9; intro a9 F; obtain ⟨i0, hi, hz0, hz1, hz2⟩ := info_parts infoB8; have hb8 : Below w9.heap.size w9 (w9.alloc (.cells (natV [(setS (subsQ n.p.ty x.S (n.p.subs.take (j))).2 y.1 y.2).1]).toArray 5)) := (Below.refl _ _).alloc (Nat.le_refl _) _; have hnr : CellsA (w9.alloc (.cells (natV [(setS (subsQ n.p.ty x.S (n.p.subs.take (j))).2 y.1 y.2).1]).toArray 5)) (some ⟨w9.heap.size, 0, none⟩) (natV [(setS (subsQ n.p.ty x.S (n.p.subs.take (j))).2 y.1 y.2).1]) := cells_new; replace HK := HK.below hb8; replace HR := HR.below hb8; replace HON := HON.then hb8
      refine fr_step (i := 14) (o := ⟨some 175, _, _, _, _, _⟩) F rfl rfl 175 rfl (by decide) (.slice (some ⟨w9.heap.size, 0, none⟩) 1 1) (w9.alloc (.cells (natV [(setS (subsQ n.p.ty x.S (n.p.subs.take (j))).2 y.1 y.2).1]).toArray 5)) (fun a' F' => run_bytes1 28 5 _ rfl (setS (subsQ n.p.ty x.S (n.p.subs.take (j))).2 y.1 y.2).1 (F'.ev 174 rfl) i0 _ Tryd.underlying28 hi hz0 (by rw [hz1]; decide) (by rw [hz1]; decide) (by rw [hz1]; kernel_rfl)) ⟨HR.box.range, rs_at (x := { x with v := v2, S := (setS (subsQ n.p.ty x.S (n.p.subs.take (j))).2 y.1 y.2).2 }) HR.own HXJ2.out HAL.out HQ.out, (HK.at 0 rfl).range, trivial⟩ ?_; clear F a9; intro a9 F; clear hi hz0 hz1 hz2 i0; obtain ⟨Z, hZ⟩ : ∃ Z, w9.heap.size = Z := ⟨_, rfl⟩
      rw [hZ] at hnr F; clear hb8 hZ; generalize w9.alloc (.cells (natV [(setS (subsQ n.p.ty x.S (n.p.subs.take (j))).2 y.1 y.2).1]).toArray 5) = w8 at *; clear w9; rename World => w9
      refine fr_step (i := 15) (o := ⟨some 176, _, _, _, _, _⟩) F rfl rfl 176 rfl (by decide) (.string (strN [(setS (subsQ n.p.ty x.S (n.p.subs.take (j))).2 y.1 y.2).1])) w9 (fun a' F' => run_conv 28 9 (.tmp 175) rfl _ _ (F'.ev 175 rfl) (conv_nats w9 28 5 Tryd.underlying28 Tryd.underlying5 _ _ [(setS (subsQ n.p.ty x.S (n.p.subs.take (j))).2 y.1 y.2).1] 1 rfl hnr 9 Tryd.underlying9)) ⟨HR.box.range, rs_at (x := { x with v := v2, S := (setS (subsQ n.p.ty x.S (n.p.subs.take (j))).2 y.1 y.2).2 }) HR.own HXJ2.out HAL.out HQ.out, (HK.at 0 rfl).range, trivial⟩ ?_; clear F a9; intro a9 F; clear hnr; refine fr_step (i := 16) (o := ⟨some 177, _, _, _, _, _⟩) F rfl rfl 177 rfl (by decide) (.string (codesS (subsQ n.p.ty x.S (n.p.subs.take (j))).1 ++ strN [(setS (subsQ n.p.ty x.S (n.p.subs.take (j))).2 y.1 y.2).1])) w9 (fun a' F' => cat_ok (by rw [codes_size]; have h1 := subsR_len n.p.ty x.S (n.p.subs.take j); have h2 := List.length_take_le j n.p.subs; have h3 : (strN [(setS (subsQ n.p.ty x.S (n.p.subs.take (j))).2 y.1 y.2).1]).size = 1 := rfl; omega) rfl (F'.ev 161 rfl) (F'.ev 176 rfl)) ⟨HR.box.range, rs_at (x := { x with v := v2, S := (setS (subsQ n.p.ty x.S (n.p.subs.take (j))).2 y.1 y.2).2 }) HR.own HXJ2.out HAL.out HQ.out, (HK.at 0 rfl).range, trivial⟩ ?_; clear F a9; intro a9 F; refine xD F [⟨m, 0, [.slice a L.length ca, pQ K 0]⟩, ⟨b, q, rsC x⟩, ⟨V, 0, (#[.string y.1, .int .u8 (y.2 : Int)] : Array Value).toList⟩] [] [] (xN 17 [.c]) [(13, pQ V 0), (12, .int .i64 (j : Int)), (11, .string (codesS (subsQ n.p.ty x.S (n.p.subs.take (j))).1 ++ strN [(setS (subsQ n.p.ty x.S (n.p.subs.take (j))).2 y.1 y.2).1])), (8, .int .u8 (n.p.ty : Int)), (7, .int .i64 ((k : Nat) : Int)), (3, pQ X 0), (0, pQ m 0)] ⟨HR.box.range, rs_at (x := { x with v := v2, S := (setS (subsQ n.p.ty x.S (n.p.subs.take (j))).2 y.1 y.2).2 }) HR.own HXJ2.out HAL.out HQ.out, (HK.at 0 rfl).range, trivial⟩ (fun _ h => h) trivial trivial ?_; clear F a9; refine xS (kF [(.bool ((((n.p.ty : Int)) : Int) == 10), .bool false)] ⟨eqI' (by omega), trivial⟩) [.c, .f 0] [(179, .bool false), (12, .int .i64 (j : Int)), (11, .string (codesS (subsQ n.p.ty x.S (n.p.subs.take (j))).1 ++ strN [(setS (subsQ n.p.ty x.S (n.p.subs.take (j))).2 y.1 y.2).1])), (8, .int .u8 (n.p.ty : Int)), (7, .int .i64 ((k : Nat) : Int)), (3, pQ X 0), (0, pQ m 0)] ?_; intro a9 F; refine wp_cond_false (F.ev 179 rfl) ?_; refine wp_skip ?_; rw [codes_cat] at F; rw [show (subsQ n.p.ty x.S (n.p.subs.take (j))).1 ++ [(setS (subsQ n.p.ty x.S (n.p.subs.take (j))).2 y.1 y.2).1] = (subsQ n.p.ty x.S (n.p.subs.take (j + 1))).1 from (congrArg Prod.fst hSn).symm] at F; rw [show (setS (subsQ n.p.ty x.S (n.p.subs.take (j))).2 y.1 y.2).2 = (subsQ n.p.ty x.S (n.p.subs.take (j + 1))).2 from (congrArg Prod.snd hSn).symm] at HR; exact ⟨v2, (subsQ n.p.ty x.S (n.p.subs.take (j + 1))).1, (((((((FrL.nil F.size F.defers).add 0 _ (F.at' 0 _ rfl)).add 3 _ (F.at' 3 _ rfl)).add 7 _ (F.at' 7 _ rfl)).add 8 _ (F.at' 8 _ rfl)).add 11 _ (F.at' 11 _ rfl)).add 12 _ (F.at' 12 _ rfl)), rfl, HR, HON, HK.sub (L' := [(X, (ntV n an cn), 53)]) (List.sublist_cons_self _ _) (fun r hr => hr)⟩
     ·
      refine xGF F (kF [(.bool ((((n.p.ty : Int)) : Int) == 8), .bool false)] ⟨eqI' (by omega), trivial⟩) [.c, .f 0] 160 [(160, .bool false), (13, pQ V 0), (12, .int .i64 (j : Int)), (11, .string (codesS (subsQ n.p.ty x.S (n.p.subs.take (j))).1)), (8, .int .u8 (n.p.ty : Int)), (7, .int .i64 ((k : Nat) : Int)), (3, pQ X 0), (0, pQ m 0)] ?_; clear F a9; intro a9 F; refine wp_seq ?_; by_cases y10 : n.p.ty = 10
      ·
       have hS : ∀ T, subsQ n.p.ty x.S T = ([], dropAll x.S T) := fun T => by unfold subsQ; rw [if_neg y8, if_pos y10]
       have hSn : subsQ n.p.ty x.S (n.p.subs.take (j + 1)) = ((subsQ n.p.ty x.S (n.p.subs.take (j))).1, delS (subsQ n.p.ty x.S (n.p.subs.take (j))).2 (bl y.1)) := by rw [hS, hS, HTK.out, dropAll_snoc]
       refine wp_region_lit ?_; refine eT F (kF [(.bool ((((n.p.ty : Int)) : Int) == 10), .bool true)] ⟨eqI (by omega), trivial⟩) [.c, .f 0] 179 [(179, .bool true), (13, pQ V 0), (12, .int .i64 (j : Int)), (11, .string (codesS (subsQ n.p.ty x.S (n.p.subs.take (j))).1)), (8, .int .u8 (n.p.ty : Int)), (7, .int .i64 ((k : Nat) : Int)), (3, pQ X 0), (0, pQ m 0)] ?_; clear F a9; intro a9 F; refine wp_region_noPanic ?_; have hb8 : Below w9.heap.size w9 w9.drew := below_draws (n := 1) rfl; replace HK := HK.below hb8; replace HR := HR.below hb8; replace HON := HON.then hb8
       clear hb8; refine AnyT.begin (S := fun w' => MemOk w' [⟨m, 0, [.slice a L.length ca, pQ K 0]⟩, ⟨b, q, rsC x⟩, ⟨V, 0, (#[.string y.1, .int .u8 (y.2 : Int)] : Array Value).toList⟩]) (z := 1000) (by kernel_rfl) ⟨HR.box.range, rs_at (x := { x with v := vj, S := (subsQ n.p.ty x.S (n.p.subs.take (j))).2 }) HR.own HXJ.out HAL.out HQ.out, (HK.at 0 rfl).range, trivial⟩ (fun hS0 => ?_); clear hS0; generalize w9.drew = w8 at *; clear w9; rename World => w9
       refine xPT F [⟨m, 0, [.slice a L.length ca, pQ K 0]⟩, ⟨b, q, rsC x⟩, ⟨V, 0, (#[.string y.1, .int .u8 (y.2 : Int)] : Array Value).toList⟩] [] [⟨a, L.length, ca, .i64, ((k : Nat) : Int), 4, ⟨b, q, none⟩⟩] (xN 0 (xC 3 ([.l 0 0, .c, .i 0, .c, .l 1 3, .c, .l 2 0]))) [(189, .string y.1), (187, pQ x.g 0), (12, .int .i64 (j : Int)), (11, .string (codesS (subsQ n.p.ty x.S (n.p.subs.take (j))).1)), (8, .int .u8 (n.p.ty : Int)), (7, .int .i64 ((k : Nat) : Int)), (3, pQ X 0), (0, pQ m 0)] ⟨HR.box.range, rs_at (x := { x with v := vj, S := (subsQ n.p.ty x.S (n.p.subs.take (j))).2 }) HR.own HXJ.out HAL.out HQ.out, (HK.at 0 rfl).range, trivial⟩ (fun _ h => h) trivial ⟨⟨b, o0, k, HAL.out, rfl, hkl, by rw [HQ.out]⟩, trivial⟩ ?_; clear F a9; intro a9 F; refine fr_stepC (i := 10) (o := ⟨some 190, _, _, _, _, _⟩) F rfl (wanted_free rfl) 190 rfl (by decide) 59 #[pQ x.g 0, .string y.1] (by intro a' F'; have h187 := F'.at' 187 _ rfl; have h189 := F'.at' 189 _ rfl; go_simp) (ref15_Drop w0.heap.size x.g vj (subsQ n.p.ty x.S (n.p.subs.take (j))).2 y.1 w9 (HR.st _ (List.mem_of_getElem? HXJ.out)).list HK.size (by have := (HR.st _ (List.mem_of_getElem? HXJ.out)).fine.few; simp only at this; omega)) ?_; rintro e9 w8 ⟨rfl, v2, h1, h2, h30⟩; have hfd : (subsQ n.p.ty x.S (n.p.subs.take (j))).2.filter (notB (bl y.1)) = delS (subsQ n.p.ty x.S (n.p.subs.take (j))).2 (bl y.1) := del_filter _ _ (HR.st _ (List.mem_of_getElem? HXJ.out)).fine.sort; rw [hfd] at h1; clear hfd; have h3 : ∀ r, v2.ownBlock = some r → vj.ownBlock = some r ∨ w9.heap.size ≤ r := fun r hr => Or.inr (h30 r hr)
       obtain ⟨hrat, hon, hv⟩ : RAt w8 w0.heap.size x.g v2 (delS (subsQ n.p.ty x.S (n.p.subs.take (j))).2 (bl y.1)) ∧ Only (Foot x.g vj) w9 w8 ∧ (∀ r, v2.ownBlock = some r → vj.ownBlock = some r ∨ w9.heap.size ≤ r) := ⟨h1, h2, h3⟩
       have hxj := HR.st _ (List.mem_of_getElem? HXJ.out); have hft : ∀ {T : TypeId} {i : Nat}, HasT w9 i T → T ≠ 114 → T ≠ 46 → ¬ Foot x.g vj i := fun {T i} ht n1 n2 hf => by
         rcases hf with rfl | hf
         · exact ht.ne hxj.list.blk.hasT n1 rfl
         · exact ht.ne (hxj.list.own.hasT hf) n2 rfl
       have hV : ¬ Foot x.g vj V := fun hf => by
         rcases hf with e | hf
         · exact (HK.at 0 rfl).hasT.ne hxj.list.blk.hasT (by decide) e
         · exact hVv _ hf rfl
       have hlow : ∀ i, Foot x.g vj i → w0.heap.size ≤ i := fun i hf => by
         rcases hf with rfl | hf
         · exact hxj.list.lo
         · exact (hxj.list.own.lt hf).2
       have HK3 := HK.onlyF hon hlow (fun z hz => by
         rcases List.mem_cons.1 hz with rfl | hz
         · exact hV
         · rw [List.mem_singleton.1 hz]; exact hft (HK.at 1 rfl).hasT (by decide) (by decide))
       have HR2 := HR.setL HXJ.out hon hrat (delS_fine hxj.fine _) hv; rw [List.set_set] at HR2; have HON2 := HON.trans (onlyT_of hon (fun i hi => hi.elim (fun e => ⟨114, by rw [e]; exact hxj.list.blk.hasT, by unfold E25; decide⟩) (fun e => ⟨46, hxj.list.own.hasT e, by unfold E25; decide⟩))); clear HK HR HON hxj hft hlow hV hon hrat hv h1 h2 h3 h30; have HK := HK3; have HR := HR2; have HON := HON2; clear HK3 HR2 HON2; clear w9; rename World => w9
       have HXJ2 := Lib.hid (show (L.set k { x with v := v2, S := delS (subsQ n.p.ty x.S (n.p.subs.take (j))).2 (bl y.1) })[k]? = some { x with v := v2, S := delS (subsQ n.p.ty x.S (n.p.subs.take (j))).2 (bl y.1) } from by rw [List.getElem?_set_self hkl]); refine ⟨_, rfl, ⟨HR.box.range, rs_at (x := { x with v := v2, S := delS (subsQ n.p.ty x.S (n.p.subs.take (j))).2 (bl y.1) }) HR.own HXJ2.out HAL.out HQ.out, (HK.at 0 rfl).range, trivial⟩, ?_⟩; clear F a9; intro a9 F; refine AnyT.done (by kernel_rfl) ?_ _; refine NoPanic.normal ?_; rw [show (subsQ n.p.ty x.S (n.p.subs.take (j))).1 = (subsQ n.p.ty x.S (n.p.subs.take (j + 1))).1 from (congrArg Prod.fst hSn).symm] at F; rw [show delS (subsQ n.p.ty x.S (n.p.subs.take (j))).2 (bl y.1) = (subsQ n.p.ty x.S (n.p.subs.take (j + 1))).2 from (congrArg Prod.snd hSn).symm] at HR; exact ⟨v2, (subsQ n.p.ty x.S (n.p.subs.take (j + 1))).1, (((((((FrL.nil F.size F.defers).add 0 _ (F.at' 0 _ rfl)).add 3 _ (F.at' 3 _ rfl)).add 7 _ (F.at' 7 _ rfl)).add 8 _ (F.at' 8 _ rfl)).add 11 _ (F.at' 11 _ rfl)).add 12 _ (F.at' 12 _ rfl)), rfl, HR, HON, HK.sub (L' := [(X, (ntV n an cn), 53)]) (List.sublist_cons_self _ _) (fun r hr => hr)⟩
      ·
       have hS : ∀ T, subsQ n.p.ty x.S T = ([], x.S) := fun T => by unfold subsQ; rw [if_neg y8, if_neg y10]
       have hSn : subsQ n.p.ty x.S (n.p.subs.take (j + 1)) = subsQ n.p.ty x.S (n.p.subs.take j) := by rw [hS, hS]
       refine wp_region_lit ?_; refine xE F (kF [(.bool ((((n.p.ty : Int)) : Int) == 10), .bool false)] ⟨eqI' (by omega), trivial⟩) [.c, .f 0] [(179, .bool false), (13, pQ V 0), (12, .int .i64 (j : Int)), (11, .string (codesS (subsQ n.p.ty x.S (n.p.subs.take (j))).1)), (8, .int .u8 (n.p.ty : Int)), (7, .int .i64 ((k : Nat) : Int)), (3, pQ X 0), (0, pQ m 0)] ?_; clear F a9; intro a9 F; refine wp_cond_false (F.ev 179 rfl) ?_; refine wp_skip ?_; rw [← hSn] at F HR; exact ⟨vj, _, (((((((FrL.nil F.size F.defers).add 0 _ (F.at' 0 _ rfl)).add 3 _ (F.at' 3 _ rfl)).add 7 _ (F.at' 7 _ rfl)).add 8 _ (F.at' 8 _ rfl)).add 11 _ (F.at' 11 _ rfl)).add 12 _ (F.at' 12 _ rfl)), rfl, HR, HON, HK.sub (L' := [(X, (ntV n an cn), 53)]) (List.sublist_cons_self _ _) (fun r hr => hr)⟩
    · clear F a9 HK HR HON
      rintro a9 w8 ⟨vj, cj, F, hcj, HR, HON, HK⟩; clear w9; rename World => w9
      show Code.wp _ _ _ _ _; refine wp_region_lit ?_; refine xP F (kF [(.int .i64 (IntKind.i64.wrap ((j : Int) + 1)), .int .i64 ((j + 1 : Nat) : Int))] ⟨addI (by omega), trivial⟩) [.c, .f 0, .c] [(12, .int .i64 ((j + 1 : Nat) : Int)), (11, .string (codesS cj)), (8, .int .u8 (n.p.ty : Int)), (7, .int .i64 ((k : Nat) : Int)), (3, pQ X 0), (0, pQ m 0)] ?_; clear F a9; intro a9 F; refine wpList_nil ?_; replace F : FrL 216 [(12, .int .i64 ((j + 1 : Nat) : Int)), (11, .string (codesS cj)), (8, .int .u8 (n.p.ty : Int)), (7, .int .i64 ((k : Nat) : Int)), (3, pQ X 0), (0, pQ m 0)] a9 := F; refine ⟨⟨j + 1, by omega, vj, cj, F, hcj, HR, HON, HK⟩, ?_⟩; rw [muI_at F 12 (j + 1) rfl]; omega
   · have hk2_j : j = n.p.subs.length := by omega
     subst hk2_j; refine xG F (kOF [⟨X, 0, (ntV n an cn).toList⟩] ⟨(HK.at 0 rfl).range, trivial⟩ [(.bool (decide ((((n.p.subs.length : Int)) : Int) < (n.p.subs.length : Int))), .bool false)] ⟨dcF (by omega), trivial⟩) (xC 3 ([.l 0 26, .c, .f 0])) [(150, .bool false), (12, .int .i64 (n.p.subs.length : Int)), (11, .string (codesS cj)), (8, .int .u8 (n.p.ty : Int)), (7, .int .i64 ((k : Nat) : Int)), (3, pQ X 0), (0, pQ m 0)] ?_; clear F a9; intro a9 F; refine wp_cond_false (F.ev 150 rfl) ?_; refine wp_exit ?_; exact then_exit (then_exit (exit_in ⟨vj, cj, ⟨n.p.subs.length, (((((((FrL.nil F.size F.defers).add 0 _ (F.at' 0 _ rfl)).add 3 _ (F.at' 3 _ rfl)).add 7 _ (F.at' 7 _ rfl)).add 8 _ (F.at' 8 _ rfl)).add 11 _ (F.at' 11 _ rfl)).add 12 _ (F.at' 12 _ rfl))⟩, hcj, HR, HON, HK⟩))
  · clear F a9 HK HR HON
    rintro a9 w8 ⟨vj, cj, ⟨jj, F⟩, hcj, HR, HON, HK⟩; clear w9; rename World => w9
    show Code.wp _ _ _ _ _; rw [List.take_length] at hcj HR; subst hcj; obtain ⟨L2, hL2⟩ : ∃ L2, L.set k { x with v := vj, S := (subsQ n.p.ty x.S n.p.subs).2 } = L2 := ⟨_, rfl⟩
    have h2k : L2[k]? = some { x with v := vj, S := (subsQ n.p.ty x.S n.p.subs).2 } := by rw [← hL2, List.getElem?_set_self hkl]
    have hl2 : L2.length = L.length := by rw [← hL2, List.length_set]
    have hab2 : absR L2 = updS (absR L) n.client (some ⟨x.conn, x.clean, (subsQ n.p.ty x.S n.p.subs).2⟩) := by rw [← hL2, absR_set (y := { x with v := vj, S := (subsQ n.p.ty x.S n.p.subs).2 }) HXK.out HND.out rfl, hxc]
    rw [hL2] at HR; clear hL2; by_cases hty2 : n.p.ty = 14 ∨ n.p.ty = 0
    ·
     have y8 : n.p.ty ≠ 8 := by omega
     have y10 : n.p.ty ≠ 10 := by omega
     have hs2 : subsQ n.p.ty x.S n.p.subs = ([], x.S) := by unfold subsQ; rw [if_neg y8, if_neg y10]
     rw [show (subsQ n.p.ty x.S n.p.subs).1 = [] from by rw [hs2]] at F; rw [show (subsQ n.p.ty x.S n.p.subs).2 = x.S from by rw [hs2]] at h2k hab2; have hap : applyS (absR L) n = ((codesS [], false, true), updS (absR L) n.client (if x.clean then none else some ⟨0, x.clean, x.S⟩)) := by
       unfold applyS; rw [if_neg k5, if_neg (fun h => h k2), if_neg t1, hab]; simp only; rw [if_neg hok, if_neg y8, if_neg y10, if_pos hty2]; try rfl
     clear hs2; refine wp_seq ?_; refine wp_seq ?_; refine wp_meet (fun a' w' => FrL 216 [(196, .bool true), (11, .string (codesS [])), (7, .int .i64 ((k : Nat) : Int)), (3, pQ X 0), (0, pQ m 0)] a' ∧ RmAt w' w0.heap.size m K (.slice a L.length ca) vk (L2) Q ∧ OnlyT E25 w w' ∧ Keep w0 [(X, (ntV n an cn), 53)] [] w') ?_ ?_
     ·
      by_cases y14 : n.p.ty = 14
      ·
       refine wp_region_lit ?_; refine xP F (kF [(.bool ((((n.p.ty : Int)) : Int) == 14), .bool true)] ⟨eqI (by omega), trivial⟩) (.c :: .f 0 :: xC 4 []) [(196, .bool true), (11, .string (codesS [])), (7, .int .i64 ((k : Nat) : Int)), (3, pQ X 0), (0, pQ m 0)] ?_; clear F a9; intro a9 F; refine wpList_nil ?_; exact ⟨((((((FrL.nil F.size F.defers).add 0 _ (F.at' 0 _ rfl)).add 3 _ (F.at' 3 _ rfl)).add 7 _ (F.at' 7 _ rfl)).add 11 _ (F.at' 11 _ rfl)).add 196 _ (F.at' 196 _ rfl)), HR, HON, HK⟩
      ·
       refine wp_region_lit ?_; refine xP F (kF [(.bool ((((n.p.ty : Int)) : Int) == 14), .bool false), (.bool ((((n.p.ty : Int)) : Int) == 0), .bool true)] ⟨eqI' (by omega), eqI (by omega), trivial⟩) [.c, .f 0, .c, .c, .f 1, .c] [(196, .bool true), (11, .string (codesS [])), (7, .int .i64 ((k : Nat) : Int)), (3, pQ X 0), (0, pQ m 0)] ?_; clear F a9; intro a9 F; refine wpList_nil ?_; exact ⟨((((((FrL.nil F.size F.defers).add 0 _ (F.at' 0 _ rfl)).add 3 _ (F.at' 3 _ rfl)).add 7 _ (F.at' 7 _ rfl)).add 11 _ (F.at' 11 _ rfl)).add 196 _ (F.at' 196 _ rfl)), HR, HON, HK⟩
     clear F a9 HK HR HON; rintro a9 w8 ⟨F, HR, HON, HK⟩; clear w9; rename World => w9
     show Code.wp _ _ _ _ _; refine wp_cond_true (F.ev 196 rfl) ?_; obtain ⟨cur, rfl, hcb, hbl, hcz⟩ := own_at HR.own HAL.out; have hqk : k * 4 = q := by have := HQ.out; omega
     rw [rsCells_len, hl2] at hcz; refine xR ?_; refine xP F ⟨[⟨m, 0, [.slice a L.length ca, pQ K 0]⟩], [], [⟨a, L.length, ca, .i64, ((k : Nat) : Int), 4, ⟨b, q, none⟩⟩], ⟨HR.box.range, trivial⟩, trivial, ⟨⟨b, 0, k, HAL.out, rfl, hkl, by rw [HQ.out]⟩, trivial⟩⟩ (xC 3 ([.l 0 0, .c, .i 0, .c])) [(203, pQ b (q + 1)), (11, .string (codesS [])), (7, .int .i64 ((k : Nat) : Int)), (3, pQ X 0), (0, pQ m 0)] ?_; clear F a9; intro a9 F; have hXb : X ≠ b := (HK.at 0 rfl).hasT.ne hcb.hasT (by decide); have HKb := HK.withBox (b, cur, 112) hcb hbl (fun z hz => by rw [List.mem_singleton.1 hz]; exact hXb); refine fr_putO F HKb 0 rfl rfl rfl 3 _ _ rfl (q + 1) (.int .i64 0) (fun a' F' => F'.ev 203 rfl) (fun a' F' => rfl) z_intM (by show q + 1 + 1 ≤ cur.size; omega) (by kernel_rfl) ?_; clear F a9; intro a9 w8 F HK2 hon; have HR2 : RmAt w8 w0.heap.size m K (.slice a L.length ca) vk (L2.set k { x with conn := 0, v := vj, S := x.S }) Q := HR.setC (x := { x with v := vj, S := x.S }) HAL.out h2k hcb hon (by rw [hqk]; exact HK2.at 0 rfl) (Int.le_refl 0); have h3 : absR (L2.set k { x with conn := 0, v := vj, S := x.S }) = updS (absR L) n.client (some ⟨0, x.clean, x.S⟩) := (absR_set (y := { x with conn := 0, v := vj, S := x.S }) h2k HR.nd rfl).trans (by rw [hab2]; show updS (updS (absR L) n.client _) x.client (some ⟨0, x.clean, x.S⟩) = _; rw [hxc, updS_upd]); have HON2 := HON.trans (onlyT_one hon hcb.hasT (by unfold E25; decide)); have HK3 := HK2.sub (L' := [(X, (ntV n an cn), 53)]) (List.sublist_cons_self _ _) (fun r hr => hr); have h3k : (L2.set k { x with conn := 0, v := vj, S := x.S })[k]? = some { x with conn := 0, v := vj, S := x.S } := by rw [List.getElem?_set_self (by omega)]
     have hl3 : (L2.set k { x with conn := 0, v := vj, S := x.S }).length = L.length := by rw [List.length_set, hl2]
     generalize L2.set k { x with conn := 0, v := vj, S := x.S } = L3 at *; clear HK HKb HR HON HK2 hcb hcz hon hXb h2k hl2 hab2; have HK := HK3; have HR := HR2; have HON := HON2; clear HK3 HR2 HON2; clear w9; rename World => w9
     replace F := F.cut [(11, .string (codesS [])), (7, .int .i64 ((k : Nat) : Int)), (3, pQ X 0), (0, pQ m 0)] (by kernel_rfl); refine xW ?_; refine xG F ⟨[⟨m, 0, [.slice a L.length ca, pQ K 0]⟩, ⟨b, q, rsC { x with conn := 0 }⟩], [], [⟨a, L.length, ca, .i64, ((k : Nat) : Int), 4, ⟨b, q, none⟩⟩], ⟨HR.box.range, rs_at (x := { x with conn := 0, v := vj, S := x.S }) HR.own h3k HAL.out HQ.out, trivial⟩, trivial, ⟨⟨b, 0, k, HAL.out, rfl, hkl, by rw [HQ.out]⟩, trivial⟩⟩ (xC 3 ([.l 0 0, .c, .i 0, .c, .l 1 2])) [(211, .bool x.clean), (11, .string (codesS [])), (7, .int .i64 ((k : Nat) : Int)), (3, pQ X 0), (0, pQ m 0)] ?_; clear F a9; intro a9 F; rcases Bool.eq_false_or_eq_true x.clean with hcl | hcl
     ·
      rw [hcl] at F; refine wp_cond_true (F.ev 211 rfl) ?_; refine wp_region_lit ?_; refine xP F k0 [.c, .c] [(213, .int .i64 ((k : Nat) : Int)), (212, pQ m 0), (11, .string (codesS [])), (7, .int .i64 ((k : Nat) : Int)), (3, pQ X 0), (0, pQ m 0)] ?_; clear F a9; intro a9 F; refine fr_call F (wanted_free rfl) 214 rfl (by decide) 57 #[pQ m 0, .int .i64 ((k : Nat) : Int)] (by intro a' F'; have h212 := F'.at' 212 _ rfl; have h213 := F'.at' 213 _ rfl; go_simp) (ref25_gone (HK.sub (List.nil_sublist _) (fun r hr => hr)) HR.box hml HR.own (by omega) (by omega)) ?_; rintro e9 w8 ⟨vl1, rfl, hbx, how, HK2, hon⟩; have HK3 := HK.more HK2 (fun x hx => by rw [List.mem_singleton.1 hx]; exact (HK.at 0 rfl).only hon ((HK.at 0 rfl).hasT.ne HR.box.hasT (by decide))); have hsub : (L3.take k ++ L3.drop (k + 1)).Sublist L3 := by
        conv => rhs; rw [split_at h3k]
        exact List.Sublist.append (List.Sublist.refl _) (List.sublist_cons_self _ _)
      have HR2 := HR.setM (L' := L3.take k ++ L3.drop (k + 1)) hon (fun j _ hj => Or.inl (by rw [hj]; exact HR.box.hasT)) hbx (own_weak how HK.size) (fun x hx => Or.inl (HR.st x (hsub.subset hx))) ((hsub.map _).nodup HR.nd) (List.Pairwise.sublist hsub HR.far); have HON2 := HON.trans (onlyT_one hon (HR.box.hasT) (by unfold E25; decide)); have h4 : absR (L3.take k ++ L3.drop (k + 1)) = updS (absR L) n.client none := (absR_del h3k HR.nd).trans (by rw [h3]; show updS (updS (absR L) n.client _) x.client none = _; rw [hxc, updS_upd]); have hl4 := hsub.length_le; clear HK HR HON hon HK2 hbx how; have HK := HK3; have HR := HR2; have HON := HON2; clear HK3 HR2 HON2; clear w9; rename World => w9
      refine ⟨_, rfl, ?_⟩; clear F a9; intro a9 F; replace F := F.cut [(11, .string (codesS [])), (7, .int .i64 ((k : Nat) : Int)), (3, pQ X 0), (0, pQ m 0)] (by kernel_rfl); refine xW ?_; refine xG F k0 (xC 4 []) [(6, .bool true), (5, .bool false), (4, .string (codesS []))] ?_; clear F a9; intro a9 F; refine wp_ret ?_; exact fr_ret3t F rfl _ _ _ rfl rfl rfl (FIN.out _ _ _ _ _ _ Q _ (by rw [hap]) (by rw [hap, h4, hcl]; rfl) HR (by omega) (by omega) (HK.sub (List.nil_sublist _) (fun r hr => hr)) HON)
     ·
      rw [hcl] at F; refine wp_cond_false (F.ev 211 rfl) ?_; refine xK ?_; refine xG F k0 (xC 4 []) [(6, .bool true), (5, .bool false), (4, .string (codesS []))] ?_; clear F a9; intro a9 F; refine wp_ret ?_; exact fr_ret3t F rfl _ _ _ rfl rfl rfl (FIN.out _ _ _ _ _ _ Q _ (by rw [hap]) (by rw [hap, h3, hcl]; rfl) HR (by omega) (by omega) (HK.sub (List.nil_sublist _) (fun r hr => hr)) HON)
    ·
     have hap : applyS (absR L) n = ((codesS (subsQ n.p.ty x.S n.p.subs).1, false, true), updS (absR L) n.client (some ⟨x.conn, x.clean, (subsQ n.p.ty x.S n.p.subs).2⟩)) := by
       rcases hty with h8 | h10 | h14 | h0
       · have hs : subsQ n.p.ty x.S n.p.subs = setAll x.S n.p.subs := by unfold subsQ; rw [if_pos h8]
         rw [hs]; unfold applyS; rw [if_neg k5, if_neg (fun h => h k2), if_neg t1, hab]; simp only; rw [if_neg hok, if_pos h8]; try rfl
       · have hs : subsQ n.p.ty x.S n.p.subs = ([], dropAll x.S n.p.subs) := by unfold subsQ; rw [if_neg (by omega), if_pos h10]
         rw [hs]; unfold applyS; rw [if_neg k5, if_neg (fun h => h k2), if_neg t1, hab]; simp only; rw [if_neg hok, if_neg (by omega), if_pos h10]; try rfl
       · exact absurd (Or.inl h14) hty2
       · exact absurd (Or.inr h0) hty2
     have y14 : n.p.ty ≠ 14 := fun h => hty2 (Or.inl h)
     have y0 : n.p.ty ≠ 0 := fun h => hty2 (Or.inr h)
     refine xGF F (kF [(.bool ((((n.p.ty : Int)) : Int) == 14), .bool false), (.bool ((((n.p.ty : Int)) : Int) == 0), .bool false)] ⟨eqI' (by omega), eqI' (by omega), trivial⟩) [.c, .f 0, .c, .c, .f 1, .c] 196 [(196, .bool false), (11, .string (codesS (subsQ n.p.ty x.S n.p.subs).1)), (7, .int .i64 ((k : Nat) : Int)), (3, pQ X 0), (0, pQ m 0)] ?_; clear F a9; refine xS k0 (xC 4 []) [(6, .bool true), (5, .bool false), (4, .string (codesS (subsQ n.p.ty x.S n.p.subs).1))] ?_; intro a9 F; refine wp_ret ?_; exact fr_ret3t F rfl _ _ _ rfl rfl rfl (FIN.out _ _ _ _ _ _ Q _ (by rw [hap]) (by rw [hap, hab2]) HR (by omega) (by omega) (HK.sub (List.nil_sublist _) (fun r hr => hr)) HON)
end Go.Proofs.YtnnpokndajpkiaaDoor
