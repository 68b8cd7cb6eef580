import Derived.Test.YtnnpokndajpkiaaGreatDoorEng3
import Derived.Test.YtnnpokndajpkiaaGreatDoorJoinF
namespace Go.Proofs.YtnnpokndajpkiaaGreatDoor
open Go.RowKit
section
variable {P : Program} {wb w0 w w' : World} {G : Nat → Prop} {B : List Bx} {l : List Chk}
theorem Kp.newC (h : Kp wb w0 G B (many l) w) (k : Below w.heap.size w w') (c : Chk) (hc : c.is w') (hf : ∀ j, c.fp j → w.heap.size ≤ j) : Kp wb w0 G B (many (c :: l)) w' := by
  have h2 := h.below k; have hlt : ∀ j, Fp B (many l) j → j < w.heap.size := fun j hj => h.hp.lt hj
  refine ⟨⟨h2.hp.env0, h2.hp.low, h2.hp.box, h2.hp.nod, ?_, ⟨?_, List.pairwise_cons.2 ⟨?_, h2.hp.is.2⟩⟩, ?_⟩, h2.only, ?_⟩
  · rintro j (hj | ⟨d, hd, hj⟩)
    · exact h2.hp.up j (Or.inl hj)
    · rcases List.mem_cons.1 hd with rfl | hd
      · exact Nat.le_trans h.hp.low.size (hf j hj)
      · exact h2.hp.up j (Or.inr ⟨d, hd, hj⟩)
  · intro d hd
    rcases List.mem_cons.1 hd with rfl | hd
    · exact hc
    · exact h2.hp.is.1 d hd
  · intro d hd j hj hk
    have h3 := hlt j (Or.inr ⟨d, hd, hk⟩); have h4 := hf j hj; omega
  · rintro x hx ⟨d, hd, hj⟩
    rcases List.mem_cons.1 hd with rfl | hd
    · have h3 := hlt _ (Or.inl ⟨x, hx, rfl⟩)
      have h4 := hf _ hj; omega
    · exact h2.hp.far x hx ⟨d, hd, hj⟩
  · rintro j (hj | ⟨d, hd, hj⟩)
    · exact h2.new j (Or.inl hj)
    · rcases List.mem_cons.1 hd with rfl | hd
      · exact Or.inr (Nat.le_trans h.only.size (hf j hj))
      · exact h2.new j (Or.inr ⟨d, hd, hj⟩)
theorem Kp.turn {c c' : Chk} (h : Kp wb w0 G B (many (c :: l)) w) (o : Only c.fp w w') (hc : c'.is w') (hf : ∀ j, c'.fp j → c.fp j ∨ w.heap.size ≤ j) : Kp wb w0 G B (many (c' :: l)) w' := by
  have hfp : ∀ j, c.fp j → Fp B (many (c :: l)) j := fun j hj => Or.inr ⟨c, List.mem_cons_self .., hj⟩
  have hp := List.pairwise_cons.1 h.hp.is.2; have hlt : ∀ j, Fp B (many (c :: l)) j → j < w.heap.size := fun j hj => h.hp.lt hj
  have hs := h.only.size; have hold : ∀ j, (∃ x ∈ B, x.blk = j) ∨ (many l).fp j → ¬ c.fp j ∧ j < w.heap.size := by
    rintro j (⟨x, hx, rfl⟩ | ⟨d, hd, hj⟩)
    · exact ⟨fun hc => h.hp.far x hx ⟨c, List.mem_cons_self .., hc⟩, hlt _ (Or.inl ⟨x, hx, rfl⟩)⟩
    · exact ⟨fun hc => hp.1 d hd j hc hj, hlt _ (Or.inr ⟨d, List.mem_cons_of_mem _ hd, hj⟩)⟩
  have hnew : ∀ j, (∃ x ∈ B, x.blk = j) ∨ (many l).fp j → ¬ c'.fp j := fun j hj hc => by
    obtain ⟨h1, h2⟩ := hold j hj; rcases hf j hc with h3 | h3
    · exact h1 h3
    · omega
  refine ⟨⟨h.hp.env0, h.hp.low.trans (o.below h.hp.low.size (fun j hj => h.hp.up j (hfp j hj))), fun x hx => (h.hp.box x hx).only o (hold _ (Or.inl ⟨x, hx, rfl⟩)).1, h.hp.nod, ?_, ⟨?_, List.pairwise_cons.2 ⟨?_, hp.2⟩⟩, ?_⟩, h.only.trans o (fun j hj hc => ?_), ?_⟩
  · rintro j (hj | ⟨d, hd, hj⟩)
    · exact h.hp.up j (Or.inl hj)
    · rcases List.mem_cons.1 hd with rfl | hd
      · rcases hf j hj with h3 | h3
        · exact h.hp.up j (hfp j h3)
        · exact Nat.le_trans h.hp.low.size h3
      · exact h.hp.up j (Or.inr ⟨d, List.mem_cons_of_mem _ hd, hj⟩)
  · intro d hd
    rcases List.mem_cons.1 hd with rfl | hd
    · exact hc
    · exact d.st w w' _ (h.hp.is.1 d (List.mem_cons_of_mem _ hd)) o (fun j hj => (hold j (Or.inr ⟨d, hd, hj⟩)).1)
  · intro d hd j hj hk
    exact hnew j (Or.inr ⟨d, hd, hk⟩) hj
  · rintro x hx ⟨d, hd, hj⟩
    rcases List.mem_cons.1 hd with rfl | hd
    · exact hnew _ (Or.inl ⟨x, hx, rfl⟩) hj
    · exact h.hp.far x hx ⟨d, List.mem_cons_of_mem _ hd, hj⟩
  · rcases h.new j (hfp j hc) with h1 | h1
    · exact h1
    · omega
  · rintro j (hj | ⟨d, hd, hj⟩)
    · exact h.new j (Or.inl hj)
    · rcases List.mem_cons.1 hd with rfl | hd
      · rcases hf j hj with h3 | h3
        · exact h.new j (hfp j h3)
        · exact Or.inr (Nat.le_trans hs h3)
      · exact h.new j (Or.inr ⟨d, List.mem_cons_of_mem _ hd, hj⟩)
end
abbrev rowO (e : TypeId) (size : Nat) (v : Value) (n : Nat) (xs : List Value) : Chk := rowC 0 e size v n xs
def opT (vs : List Value) (op : Op) (ty : TypeId) : Sem Next := execOp (known (numL 0 vs)) ⟨none, op, ty, "", #[], none⟩
def apT (t ty : TypeId) (v x : Value) : Sem Next := opT [v, x] (.call { callee := .builtin .append, args := #[.tmp 0, .tmp 1], argTypes := #[t, t] }) ty
def apsT (t u ty : TypeId) (v x : Value) : Sem Next := opT [v, x] (.call { callee := .builtin .append, args := #[.tmp 0, .tmp 1], argTypes := #[t, u] }) ty
def lkT (T : TypeId) (m k : Value) (ty : TypeId) : Sem Next := opT [m, k] (.lookup T (.tmp 0) (.tmp 1) false) ty
def upT (T : TypeId) (m k v : Value) (ty : TypeId) : Sem Next := opT [m, k, v] (.mapUpdate T (.tmp 0) (.tmp 1) (.tmp 2)) ty
def bsT (t : TypeId) (x : Value) (ty : TypeId) : Sem Next := opT [x] (.buildSlice t 1 #[(0, .tmp 0)]) ty
section
variable {P : Program}
theorem grown_fp {w w' : World} {v : Value} (k : w.grownBy w' v.ownBlock) : Only (fun j => v.ownBlock = some j) w w' := ⟨k.os, k.tape, k.output, k.size, fun i hi hF => k.block i hi (fun e => hF e.symm)⟩
theorem run_append_blk {w : World} (t ty e : TypeId) (i : TypeInfo) (z : Value) (ht : P.underlying t = some (.slice e)) (hi : P.info? e = some i) (hz : i.zero = some z) (hzs : z.cells.size = i.size) (hsz : 0 < i.size)
    (v : Value) (n : Nat) (xs : List Value) (hown : w.ownsRow 0 e i.size v n xs) (A : Option Addr) (m c : Nat) (hAc : A = none → c = 0) (news : List Value) (hl : news.length = m * i.size) (hnews : CellsA w A news) (h1 : ∀ u ∈ news, u.oneCell' = true)
    (h63 : n + m ≤ maxLen) (hbytes : (n + m) * i.bytes ≤ 140737488355328) :
    ∃ v' w', (Builtin.append_ #[t, t] ty #[v, .slice A m c]).run P w = .ok v' w' ∧ w'.ownsRow 0 e i.size v' (n + m) (xs ++ news) ∧ w.grownBy w' v.ownBlock ∧ (∀ j, v'.ownBlock = some j → v.ownBlock = some j ∨ w.heap.size ≤ j) := by
  have hsmall : n + m ≤ 9223372036854775807 := by simp only [maxLen] at h63; omega
  have hlen : (xs ++ news).length = (n + m) * i.size := by rw [List.length_append, hown.1, hl, Nat.add_mul]
  cases A with
  | none =>
    obtain ⟨v', w', hr, h2, h3⟩ := run_append_cells (P := P) w 0 t ty e i z i.size i.bytes ht hi hz rfl rfl hzs hsz v n xs hown none m c hAc news hl hnews h1 h63 hbytes (Nat.zero_le _); have hn0 : news = [] := by
      cases news with
      | nil => rfl
      | cons x r =>
        obtain ⟨b, o, hb, _⟩ := hnews 0 x rfl; cases hb
    subst hn0; have hm : m = 0 := by
      rcases Nat.eq_zero_or_pos m with h | h
      · exact h
      · have := Nat.mul_pos h hsz
        simp at hl; omega
    subst hm; obtain rfl := hAc rfl; exact ⟨v, w, run_append_owned_none (P := P) (w := w) 0 t ty e i i.size ht hi v n xs hown, by simpa using hown, World.grownBy.refl w _, fun j hj => Or.inl hj⟩
  | some a =>
    have hnews : ∀ j u, news[j]? = some u → w.cell? (a.add j) = some u := fun j u hu => by
      obtain ⟨b, o, hb, hc⟩ := hnews j u hu; injection hb with hb
      subst hb; rw [Addr.add_lit]; exact hc
    have grown : ∀ (old : Nat), old < n + m → ∀ (row : Option Nat),
        (w.drew.alloc (.cells (xs.toArray ++ news.toArray ++ Builtin.zeroCells z.cells (grownCap w (n + m) old e - (n + m))) e)).ownsRow 0 e i.size
          (.slice (some ⟨w.heap.size, 0, none⟩) (n + m) (grownCap w (n + m) old e)) (n + m) (xs ++ news) ∧
        w.grownBy (w.drew.alloc (.cells (xs.toArray ++ news.toArray ++ Builtin.zeroCells z.cells (grownCap w (n + m) old e - (n + m))) e)) row := by
      intro old ho row; have hge := grownCap_ge w (n + m) old e; have hcm : grownCap w (n + m) old e ≤ maxLen := grownCap_le_maxLen w (n + m) old e h63; refine ⟨⟨hlen, .inr ⟨w.heap.size, _, _, rfl, Nat.zero_le _, heap_alloc_new w.drew _, hge, hcm, ?_, ?_⟩⟩, ⟨rfl, rfl, rfl, by simp, fun k hk _ => (Below.heap_alloc w.drew _ k hk : _)⟩⟩
      · simp only [Array.size_append, List.size_toArray, size_zeroCells, hzs, hown.1, hl, ← Nat.add_mul]
        congr 1; omega
      · simp only [Array.toList_append, List.append_assoc]
        rw [← List.append_assoc, ← hlen]; exact List.take_left
    have hown2 := hown.2; rcases hown2 with ⟨rfl, rfl⟩ | ⟨g, cap, cur, rfl, hbg, hg, hnc, hcm, hcs, htake⟩
    · have hx : xs = [] := List.eq_nil_of_length_eq_zero (by simpa using hown.1)
      subst hx; by_cases hm : m = 0
      · subst hm
        have hn : news = [] := List.eq_nil_of_length_eq_zero (by simpa using hl); subst hn; refine ⟨.slice none 0 0, w, ?_, World.ownsRow_nil w 0 e i.size, ⟨rfl, rfl, rfl, Nat.le_refl _, fun _ _ _ => rfl⟩, fun j hj => Or.inl hj⟩; simp [Builtin.append_, run_underlying ht, sizeOf, typeInfo, hi, Builtin.lenOf, Builtin.firstCells, loadCells, loadCellsFrom]
      · have hr := run_append_nil (P := P) w t ty e i z ht hi hz a m c news hl hnews (by omega) (by omega) (by have hb := hbytes; simp only [Nat.zero_add] at hb; omega)
        have hgr := grown 0 (by omega) (Value.ownBlock (.slice none 0 0)); simp only [Nat.zero_add, List.nil_append, Array.empty_append] at hgr ⊢; exact ⟨_, _, hr, hgr.1, hgr.2, fun j hj => Or.inr (by simp [Value.ownBlock] at hj; omega)⟩
    · by_cases hroom : n + m ≤ cap
      · have hfit : n * i.size + news.length ≤ cur.size := by rw [hl, hcs, ← Nat.add_mul]; exact Nat.mul_le_mul_right _ hroom
        have hr := run_append_room (P := P) w t ty e i ht hi g n cap cur hg a m c news hl hnews h1 hroom hfit; refine ⟨_, _, hr, ⟨hlen, .inr ⟨g, cap, _, rfl, hbg, setRow_heap w g cur _ e _ hg, hroom, hcm, ?_, ?_⟩⟩, ⟨rfl, rfl, rfl, by simp, fun k _ hk => setRow_other w g k _ (fun e => hk (by simp [Value.ownBlock, e]))⟩, fun j hj => Or.inl hj⟩
        · simp only [List.size_toArray, List.length_append, List.length_take, List.length_drop, Array.length_toList]
          omega
        · rw [htake, ← hlen]
          exact List.take_left
      · have holds : ∀ j u, xs[j]? = some u → w.cell? ((⟨g, 0, none⟩ : Addr).add j) = some u := hown.cells (g := g) rfl
        have hr := run_append_grow (P := P) w t ty e i z ht hi hz ⟨g, 0, none⟩ n cap xs hown.1 holds a m c news hl hnews (by omega) (by omega) (growslice_fits (by omega) hbytes); have hgr := grown cap (by omega) (Value.ownBlock (.slice (some ⟨g, 0, none⟩) n cap)); exact ⟨_, _, hr, hgr.1, hgr.2, fun j hj => Or.inr (by simp [Value.ownBlock] at hj; omega)⟩
theorem apT_run {w w' : World} {t ty : TypeId} {v x v' : Value} (h : (Builtin.append_ #[t, t] ty #[v, x]).run P w = .ok v' w') : (apT t ty v x).run P w = .ok (.value v') w' := by
  unfold apT opT execOp; simp only [resolve, invoke, builtin, Sem.run_bind, Sem.run_pure, Result.andThen_ok, List.map_toArray, List.map_cons, List.map_nil]; show ((Builtin.append_ #[t, t] ty #[v, x]).run P w).andThen _ = _; rw [h]; rfl
theorem ops_app (t ty e : TypeId) (i : TypeInfo) (z : Value) (ht : P.underlying t = some (.slice e)) (hi : P.info? e = some i) (hz : i.zero = some z) (hzs : z.cells.size = i.size) (hsz : 0 < i.size) {size : Nat} (hs : size = i.size)
    {v x : Value} {n m : Nat} {xs news : List Value} (h1 : ∀ u ∈ news, u.oneCell' = true) (h63 : n + m ≤ maxLen) (hbytes : (n + m) * i.bytes ≤ 140737488355328) :
    OpS P (apT t ty v x) [] [rowO e size v n xs, rowO e size x m news] (fun v' => v') (fun _ => []) (fun v' => [rowO e size v' (n + m) (xs ++ news), rowO e size x m news]) := by
  intro wb w H; subst hs; have hv : w.ownsRow 0 e i.size v n xs := is_at H.is 0 (c := rowO e i.size v n xs) rfl; have hx : w.ownsRow 0 e i.size x m news := is_at H.is 1 (c := rowO e i.size x m news) rfl; obtain ⟨A, c, rfl, hmc, hcells⟩ := own_form hx; obtain ⟨v', w', hr, h2, h3, h4⟩ := run_append_blk (P := P) t ty e i z ht hi hz hzs hsz v n xs hv A m c (fun hA => by
    rcases hx.2 with ⟨h, _⟩ | ⟨g, cap, cur, h, _⟩
    · injection h with _ _ h
    · injection h with h; rw [hA] at h; cases h) news hx.1 hcells h1 h63 hbytes
  exact ⟨v', w', _, apT_run hr, Or.inl rfl, (Kp.begin H).turn (grown_fp h3) h2 h4⟩
theorem run_append_str {w : World} (t u ty e : TypeId) (i : TypeInfo) (ht : P.underlying t = some (.slice e)) (hu : P.underlying u = some .string) (hi : P.info? e = some i) (hz : i.zero = some (.int .u8 0)) (hsize : i.size = 1) (hby : i.bytes = 1)
    (v : Value) (n : Nat) (xs : List Value) (hown : w.ownsRow 0 e 1 v n xs) (s : ByteArray) (h63 : n + s.size ≤ maxLen) (hbytes : n + s.size ≤ 140737488355328) :
    ∃ v' w', (Builtin.append_ #[t, u] ty #[v, .string s]).run P w = .ok v' w' ∧ w'.ownsRow 0 e 1 v' (n + s.size) (xs ++ Lib.strCells s) ∧ w.grownBy w' v.ownBlock ∧ (∀ j, v'.ownBlock = some j → v.ownBlock = some j ∨ w.heap.size ≤ j) := by
  obtain ⟨v', w', hr, h2, h3, _⟩ := Lib.run_append_own_string (P := P) (w := w) 0 t u ty e i ht hu hi hz hsize hby v n xs hown s h63 hbytes (Nat.zero_le _); refine ⟨v', w', hr, h2, h3, ?_⟩; have hsmall : n + s.size ≤ 9223372036854775807 := by simp only [maxLen] at h63; omega
  have hxl : xs.length = n := by simpa using hown.1
  rcases hown.2 with ⟨rfl, rfl⟩ | ⟨g, cap, cur, rfl, hbg, hg, hnc, hcm, hcs, htake⟩
  · have hown2 : w.ownsRow w.heap.size e 1 (.slice none 0 0) 0 xs := ⟨hown.1, Or.inl ⟨rfl, rfl⟩⟩
    obtain ⟨v2, w2, hr2, k2, _, _⟩ := Lib.run_append_own_string (P := P) (w := w) w.heap.size t u ty e i ht hu hi hz hsize hby (.slice none 0 0) 0 xs hown2 s h63 hbytes (Nat.le_refl _); rw [hr] at hr2; injection hr2 with e1 _
    subst e1; exact fun j hj => Or.inr (own_lt k2 hj).2
  · by_cases hroom : n + s.size ≤ cap
    · have hcs' : cur.size = cap := by simpa using hcs
      have hr2 := Lib.run_append_room_string (P := P) w t u ty e i ht hu hi hsize g n cap cur hg s hroom (by omega); rw [hr] at hr2; injection hr2 with e1 _
      subst e1; exact fun j hj => Or.inl hj
    · have holds : ∀ j u, xs[j]? = some u → w.cell? ((⟨g, 0, none⟩ : Addr).add j) = some u := hown.cells (g := g) rfl
      have hr2 := Lib.run_append_grow_string (P := P) w t u ty e i (.int .u8 0) ht hu hi hz ⟨g, 0, none⟩ n cap xs (by rw [hsize]; simpa using hxl) holds s (by omega) (by omega) (by rw [hby]; exact growslice_fits (by omega) (by omega)); rw [hr] at hr2; injection hr2 with e1 _
      subst e1; exact fun j hj => Or.inr (by simp [Value.ownBlock] at hj; omega)
theorem apsT_run {w w' : World} {t u ty : TypeId} {v x v' : Value} (h : (Builtin.append_ #[t, u] ty #[v, x]).run P w = .ok v' w') : (apsT t u ty v x).run P w = .ok (.value v') w' := by
  unfold apsT opT execOp; simp only [resolve, invoke, builtin, Sem.run_bind, Sem.run_pure, Result.andThen_ok, List.map_toArray, List.map_cons, List.map_nil]; show ((Builtin.append_ #[t, u] ty #[v, x]).run P w).andThen _ = _; rw [h]; rfl
theorem ops_aps (t u ty e : TypeId) (i : TypeInfo) (ht : P.underlying t = some (.slice e)) (hu : P.underlying u = some .string) (hi : P.info? e = some i) (hz : i.zero = some (.int .u8 0)) (hsize : i.size = 1) (hby : i.bytes = 1)
    {v : Value} {n : Nat} {xs : List Value} (s : ByteArray) (h63 : n + s.size ≤ maxLen) (hbytes : n + s.size ≤ 140737488355328) :
    OpS P (apsT t u ty v (.string s)) [] [rowO e 1 v n xs] (fun v' => v') (fun _ => []) (fun v' => [rowO e 1 v' (n + s.size) (xs ++ Lib.strCells s)]) := by
  intro wb w H; obtain ⟨v', w', hr, h2, h3, h4⟩ := run_append_str (P := P) t u ty e i ht hu hi hz hsize hby v n xs (is_at H.is 0 (c := rowO e 1 v n xs) rfl) s h63 hbytes; exact ⟨v', w', _, apsT_run hr, Or.inl rfl, (Kp.begin H).turn (grown_fp h3) h2 h4⟩
theorem ops_sub (t ty e : TypeId) (i : TypeInfo) (z : Value) (ht : P.underlying t = some (.slice e)) (hi : P.info? e = some i) (hz : i.zero = some z) (hzs : z.cells.size = i.size) (hsz : 0 < i.size) {size : Nat} (hs : size = i.size)
    {v : Value} {n : Nat} {xs : List Value} {A : Option Addr} {m c : Nat} {news : List Value} (hAc : A = none → c = 0) (hl : news.length = m * size) (hn : ∀ w : World, w.ownsRow 0 e size v n xs → CellsA w A news) (h1 : ∀ u ∈ news, u.oneCell' = true) (h63 : m ≤ maxLen) (hbytes : m * i.bytes ≤ 140737488355328) :
    OpS P (apT t ty (.slice none 0 0) (.slice A m c)) [] [rowO e size v n xs] (fun v' => v') (fun _ => []) (fun v' => [rowO e size v' m news, rowO e size v n xs]) := by
  intro wb w H; subst hs; have hx : w.ownsRow 0 e i.size v n xs := is_at H.is 0 (c := rowO e i.size v n xs) rfl; obtain ⟨v', w', hr, h2, h3, h4⟩ := run_append_blk (P := P) t ty e i z ht hi hz hzs hsz (.slice none 0 0) 0 [] (World.ownsRow_nil _ _ _ _) A m c hAc news hl (hn w hx) h1 (by omega) (by rw [Nat.zero_add]; exact hbytes); rw [Nat.zero_add, List.nil_append] at h2; refine ⟨v', w', _, apT_run hr, Or.inl rfl, (Kp.begin H).newC (below_none h3) _ h2 (fun j hj => (h4 j hj).resolve_left (by simp [Value.ownBlock]))⟩
theorem ops_one (t e ty : TypeId) (x : Value) (cells : Array Value) (hx : x = .agg cells) (ie : TypeInfo) (zz : Value) {size : Nat} (hsz : size = ie.size) (hu : P.underlying t = some (.slice e)) (hie : P.info? e = some ie) (hz : ie.zero = some zz) (hsmall : ¬ 1 * ie.size > 2 ^ 24) (hpos : ¬ 1 * ie.size = 0)
    (h : Instr.fill (fun i => some (i * ie.size, ie.size)) ((Array.range (1 * ie.size)).map (zz.cells[· % zz.cells.size]!)) [(0, .agg cells)] = some cells) (hs : cells.size = 1 * ie.size) :
    OpS P (bsT t x ty) [] [] (fun b => .slice (some ⟨b, 0, none⟩) 1 1) (fun _ => []) (fun b => [rowO e size (.slice (some ⟨b, 0, none⟩) 1 1) 1 cells.toList]) := by
  intro wb w H; subst hx hsz; have hb : Below w.heap.size w (w.alloc (.cells cells e)) := (Below.refl _ _).alloc (Nat.le_refl _) _; refine ⟨w.heap.size, w.alloc (.cells cells e), _, (by unfold bsT opT; exact run_slice1 t e (.tmp 0) rfl cells rfl ie zz hu hie hz hsmall hpos h), Or.inl rfl, (Kp.begin H).newC hb _ ?_ ?_⟩
  · refine own_mk (xs := cells.toList) ?_ (by simpa using hs) (by decide) (Nat.zero_le _)
    simpa using heap_alloc_new w (.cells cells e)
  · intro j hj
    have hj : (Value.slice (some ⟨w.heap.size, 0, none⟩) 1 1).ownBlock = some j := hj; simp [Value.ownBlock] at hj
    omega
theorem ops_emp (t e ty : TypeId) (ie : TypeInfo) (hu : P.underlying t = some (.slice e)) (hie : P.info? e = some ie) (size : Nat) :
    OpS P (opT [] (.buildSlice t 0 #[]) ty) [] [] (fun b => .slice (some ⟨b, 0, none⟩) 0 0) (fun _ => []) (fun b => [rowO e size (.slice (some ⟨b, 0, none⟩) 0 0) 0 []]) := by
  intro wb w H; have hb : Below w.heap.size w (w.alloc (.cells #[] e)) := (Below.refl _ _).alloc (Nat.le_refl _) _; refine ⟨w.heap.size, w.alloc (.cells #[] e), _, ?_, Or.inl rfl, (Kp.begin H).newC hb _ ?_ ?_⟩
  · unfold opT execOp
    simp [Instr.buildSlice, run_underlying hu, sizeOf, typeInfo, hie, newRow, Instr.fill]
    congr 2; exact Array.eq_empty_of_size_eq_zero (by simp)
  · exact own_mk (xs := []) (heap_alloc_new w (.cells #[] e)) (by simp) (by decide) (Nat.zero_le _)
  · intro j hj
    have hj : (Value.slice (some ⟨w.heap.size, 0, none⟩) 0 0).ownBlock = some j := hj; simp [Value.ownBlock] at hj
    omega
theorem ops_map {α : Type} (f : α → Value) (T ty : TypeId) (hr : ∀ w : World, (opT [] (.makeMap T none) ty).run P w = .ok (.value (.map (some w.heap.size))) (w.alloc (.map #[] 0))) :
    OpS P (opT [] (.makeMap T none) ty) [] [] (fun b => .map (some b)) (fun _ => []) (fun b => [mapC b f []]) := by
  intro wb w H; have hb : Below w.heap.size w (w.alloc (.map #[] 0)) := (Below.refl _ _).alloc (Nat.le_refl _) _; refine ⟨w.heap.size, _, _, hr w, Or.inl rfl, (Kp.begin H).newC hb _ ⟨#[], 0, heap_alloc_new w _, rfl⟩ ?_⟩; intro j hj; have hj : j = w.heap.size := hj; omega
variable {α : Type} [DecidableEq α] {f : α → Value} {kt : TypeId} {d : TypeDesc}
theorem ops_update (K : KeyF P kt f d) {T et : TypeId} (hT : P.underlying T = some (.map kt et)) (ty : TypeId) {b : Nat} {es : List (α × Value)} (k : α) (v : Value) :
    OpS P (upT T (.map (some b)) (f k) v ty) [] [mapC b f es] (fun _ : Unit => undef) (fun _ => []) (fun _ => [mapC b f (putE es k v)]) := by
  intro wb w H; obtain ⟨w', h1, h2, h3⟩ := op_update K hT (is_at H.is 0 (c := mapC b f es) rfl) k v; exact ⟨(), w', _, (by unfold upT opT; exact h3 (Or.inl rfl) rfl rfl rfl), Or.inr ⟨rfl, rfl⟩, (Kp.begin H).turn h2 h1 (fun j hj => Or.inl hj)⟩
theorem rd_lookup (K : KeyF P kt f d) {T et : TypeId} (hT : P.underlying T = some (.map kt et)) {w : World} {b : Nat} {es : List (α × Value)} (h : MapAt w b f es) (k : α) {zv : Value} (hz : (zeroValue et).run P w = .ok zv w) (ty : TypeId) : (lkT T (.map (some b)) (f k) ty).run P w = .ok (.value ((getE es k).getD zv)) w :=
  by unfold lkT opT; exact op_lookup K hT h k hz rfl rfl rfl
end
end Go.Proofs.YtnnpokndajpkiaaGreatDoor
