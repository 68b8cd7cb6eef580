import Derived.Test.YtnnpokndajpkiaaGreatDoorEng2
import Derived.Test.YtnnpokndajpkiaaGreatDoorJoinM
namespace Go.Proofs.YtnnpokndajpkiaaGreatDoor
open Go.RowKit
def Far (a b : Chk) : Prop := ∀ j, a.fp j → ¬ b.fp j
theorem Far.symm {a b : Chk} (h : Far a b) : Far b a := fun j h1 h2 => h j h2 h1
def many (l : List Chk) : Chk := ⟨fun w => (∀ c ∈ l, c.is w) ∧ l.Pairwise Far, fun j => ∃ c ∈ l, c.fp j,
  fun w j h ⟨c, hc, hj⟩ => c.lt w j (h.1 c hc) hj,
  fun w w' G h k hG => ⟨fun c hc => c.st w w' G (h.1 c hc) k (fun j hj => hG j ⟨c, hc, hj⟩), h.2⟩⟩
def boxC (x : Bx) : Chk := ⟨fun w => BoxAt w x.blk x.cells.toArray x.ty, fun j => j = x.blk, fun _ _ h e => e ▸ h.lt, fun _ _ _ h k hG => h.only k (hG _ rfl)⟩
def rowC (base : Nat) (e : TypeId) (size : Nat) (v : Value) (n : Nat) (xs : List Value) : Chk := ⟨fun w => w.ownsRow base e size v n xs, fun j => v.ownBlock = some j, fun _ _ h e => (own_lt h e).1, fun _ _ _ h k hG => own_only h k (fun g hg => hG g hg)⟩
def mapC {α : Type} (b : Nat) (f : α → Value) (es : List (α × Value)) : Chk := ⟨fun w => MapAt w b f es, fun j => j = b, fun _ _ h e => e ▸ h.lt, fun _ _ _ h k hG => h.only k (hG _ rfl)⟩
section
variable {wb w0 w w' : World} {G : Nat → Prop} {B B2 : List Bx} {I J : Chk} {l l2 : List Chk}
theorem Hp.imp (h : Hp wb B I w) (h1 : J.is w) (h2 : ∀ j, J.fp j → I.fp j) : Hp wb B J w := ⟨h.env0, h.low, h.box, h.nod, fun j hj => h.up j (hj.imp id (h2 j)), h1, fun x hx hf => h.far x hx (h2 _ hf)⟩
theorem Kp.imp (h : Kp wb w0 G B I w) (h1 : J.is w) (h2 : ∀ j, J.fp j → I.fp j) : Kp wb w0 G B J w := ⟨h.hp.imp h1 h2, h.only, fun j hj => h.new j (hj.imp id (h2 j))⟩
theorem many_perm (hp : l.Perm l2) (h : (many l).is w) : (many l2).is w := ⟨fun c hc => h.1 c (hp.mem_iff.2 hc), (hp.pairwise_iff (fun h => h.symm)).1 h.2⟩
theorem many_fp (hp : l.Perm l2) {j : Nat} (h : (many l2).fp j) : (many l).fp j := by
  obtain ⟨c, hc, hj⟩ := h; exact ⟨c, hp.mem_iff.2 hc, hj⟩
theorem Hp.perm (h : Hp wb B (many l) w) (hb : B.Perm B2) (hl : l.Perm l2) : Hp wb B2 (many l2) w := by
  refine ⟨h.env0, h.low, fun x hx => h.box x (hb.mem_iff.2 hx), (hb.map _).nodup_iff.1 h.nod, fun j hj => h.up j (hj.imp (fun ⟨x, hx, e⟩ => ⟨x, hb.mem_iff.2 hx, e⟩) (many_fp hl)), many_perm hl h.is, fun x hx hf => h.far x (hb.mem_iff.2 hx) (many_fp hl hf)⟩
theorem Kp.perm (h : Kp wb w0 G B (many l) w) (hb : B.Perm B2) (hl : l.Perm l2) : Kp wb w0 G B2 (many l2) w := ⟨h.hp.perm hb hl, h.only, fun j hj => h.new j (hj.imp (fun ⟨x, hx, e⟩ => ⟨x, hb.mem_iff.2 hx, e⟩) (many_fp hl))⟩
theorem Hp.open (x : Bx) (h : Hp wb B (many (boxC x :: l)) w) : Hp wb (B ++ [x]) (many l) w := by
  have hx : (many (boxC x :: l)).fp x.blk := ⟨_, List.mem_cons_self .., rfl⟩
  have hp := List.pairwise_cons.1 h.is.2; refine ⟨h.env0, h.low, ?_, ?_, ?_, ⟨fun c hc => h.is.1 c (List.mem_cons_of_mem _ hc), hp.2⟩, ?_⟩
  · intro y hy
    rcases List.mem_append.1 hy with hy | hy
    · exact h.box y hy
    · rw [List.mem_singleton.1 hy]; exact h.is.1 _ (List.mem_cons_self ..)
  · rw [List.map_append, List.nodup_append]
    refine ⟨h.nod, by simp, ?_⟩; intro a ha b hb e; obtain ⟨y, hy, rfl⟩ := List.mem_map.1 ha; simp only [List.map_cons, List.map_nil, List.mem_singleton] at hb; exact h.far y hy (by rw [e, hb]; exact hx)
  · rintro j (⟨y, hy, rfl⟩ | ⟨c, hc, hj⟩)
    · rcases List.mem_append.1 hy with hy | hy
      · exact h.up _ (Or.inl ⟨y, hy, rfl⟩)
      · rw [List.mem_singleton.1 hy]; exact h.up _ (Or.inr hx)
    · exact h.up _ (Or.inr ⟨c, List.mem_cons_of_mem _ hc, hj⟩)
  · rintro y hy ⟨c, hc, hj⟩
    rcases List.mem_append.1 hy with hy | hy
    · exact h.far y hy ⟨c, List.mem_cons_of_mem _ hc, hj⟩
    · rw [List.mem_singleton.1 hy] at hj
      exact hp.1 c hc x.blk rfl hj
theorem Hp.shut (x : Bx) (h : Hp wb (B ++ [x]) (many l) w) : Hp wb B (many (boxC x :: l)) w := by
  have hx : x ∈ B ++ [x] := List.mem_append.2 (Or.inr (List.mem_singleton.2 rfl)); have hn := h.nod; rw [List.map_append, List.nodup_append] at hn; refine ⟨h.env0, h.low, fun y hy => h.box y (List.mem_append.2 (Or.inl hy)), hn.1, ?_, ⟨?_, List.pairwise_cons.2 ⟨?_, h.is.2⟩⟩, ?_⟩
  · rintro j (⟨y, hy, rfl⟩ | ⟨c, hc, hj⟩)
    · exact h.up _ (Or.inl ⟨y, List.mem_append.2 (Or.inl hy), rfl⟩)
    · rcases List.mem_cons.1 hc with rfl | hc
      · have hj : j = x.blk := hj
        subst hj; exact h.up _ (Or.inl ⟨x, hx, rfl⟩)
      · exact h.up _ (Or.inr ⟨c, hc, hj⟩)
  · intro c hc
    rcases List.mem_cons.1 hc with rfl | hc
    · exact h.box x hx
    · exact h.is.1 c hc
  · intro c hc j hj hf
    have hj : j = x.blk := hj; subst hj; exact h.far x hx ⟨c, hc, hf⟩
  · rintro y hy ⟨c, hc, hj⟩
    rcases List.mem_cons.1 hc with rfl | hc
    · have hj : y.blk = x.blk := hj
      exact hn.2.2 _ (List.mem_map_of_mem hy) x.blk (by simp) hj
    · exact h.far y (List.mem_append.2 (Or.inl hy)) ⟨c, hc, hj⟩
theorem fp_box (x : Bx) (j : Nat) : Fp (B ++ [x]) (many l) j ↔ Fp B (many (boxC x :: l)) j := by
  constructor
  · rintro (⟨y, hy, rfl⟩ | ⟨c, hc, hj⟩)
    · rcases List.mem_append.1 hy with hy | hy
      · exact Or.inl ⟨y, hy, rfl⟩
      · rw [List.mem_singleton.1 hy]; exact Or.inr ⟨_, List.mem_cons_self .., rfl⟩
    · exact Or.inr ⟨c, List.mem_cons_of_mem _ hc, hj⟩
  · rintro (⟨y, hy, rfl⟩ | ⟨c, hc, hj⟩)
    · exact Or.inl ⟨y, List.mem_append.2 (Or.inl hy), rfl⟩
    · rcases List.mem_cons.1 hc with rfl | hc
      · exact Or.inl ⟨x, List.mem_append.2 (Or.inr (List.mem_singleton.2 rfl)), (show j = x.blk from hj).symm⟩
      · exact Or.inr ⟨c, hc, hj⟩
theorem Kp.open (x : Bx) (h : Kp wb w0 G B (many (boxC x :: l)) w) : Kp wb w0 G (B ++ [x]) (many l) w := ⟨h.hp.open x, h.only, fun j hj => h.new j ((fp_box x j).1 hj)⟩
theorem Kp.shut (x : Bx) (h : Kp wb w0 G (B ++ [x]) (many l) w) : Kp wb w0 G B (many (boxC x :: l)) w := ⟨h.hp.shut x, h.only, fun j hj => h.new j ((fp_box x j).2 hj)⟩
theorem many_flat (l2 : List Chk) (h : (many (many l :: l2)).is w) : (many (l ++ l2)).is w := by
  have hp := List.pairwise_cons.1 h.2; have h0 := h.1 _ (List.mem_cons_self ..); refine ⟨fun c hc => ?_, List.pairwise_append.2 ⟨h0.2, hp.2, fun a ha b hb j hj => hp.1 b hb j ⟨a, ha, hj⟩⟩⟩; rcases List.mem_append.1 hc with hc | hc
  · exact h0.1 c hc
  · exact h.1 c (List.mem_cons_of_mem _ hc)
theorem many_deep (l2 : List Chk) (h : (many (l ++ l2)).is w) : (many (many l :: l2)).is w := by
  obtain ⟨h1, h2, h3⟩ := List.pairwise_append.1 h.2; refine ⟨fun c hc => ?_, List.pairwise_cons.2 ⟨fun b hb j ⟨a, ha, hj⟩ => h3 a ha b hb j hj, h2⟩⟩; rcases List.mem_cons.1 hc with rfl | hc
  · exact ⟨fun c hc => h.1 c (List.mem_append.2 (Or.inl hc)), h1⟩
  · exact h.1 c (List.mem_append.2 (Or.inr hc))
theorem many_flat_fp (l2 : List Chk) (j : Nat) : (many (l ++ l2)).fp j ↔ (many (many l :: l2)).fp j := by
  constructor
  · rintro ⟨c, hc, hj⟩
    rcases List.mem_append.1 hc with hc | hc
    · exact ⟨_, List.mem_cons_self .., c, hc, hj⟩
    · exact ⟨c, List.mem_cons_of_mem _ hc, hj⟩
  · rintro ⟨c, hc, hj⟩
    rcases List.mem_cons.1 hc with rfl | hc
    · obtain ⟨c, hc, hj⟩ := hj
      exact ⟨c, List.mem_append.2 (Or.inl hc), hj⟩
    · exact ⟨c, List.mem_append.2 (Or.inr hc), hj⟩
theorem Kp.flat (l2 : List Chk) (h : Kp wb w0 G B (many (many l :: l2)) w) : Kp wb w0 G B (many (l ++ l2)) w := h.imp (many_flat l2 h.hp.is) (fun j => (many_flat_fp l2 j).1)
theorem Kp.deep (l2 : List Chk) (h : Kp wb w0 G B (many (l ++ l2)) w) : Kp wb w0 G B (many (many l :: l2)) w := h.imp (many_deep l2 h.hp.is) (fun j => (many_flat_fp l2 j).2)
theorem Hp.flat (l2 : List Chk) (h : Hp wb B (many (many l :: l2)) w) : Hp wb B (many (l ++ l2)) w := h.imp (many_flat l2 h.is) (fun j => (many_flat_fp l2 j).1)
theorem Hp.deep (l2 : List Chk) (h : Hp wb B (many (l ++ l2)) w) : Hp wb B (many (many l :: l2)) w := h.imp (many_deep l2 h.is) (fun j => (many_flat_fp l2 j).2)
theorem Hp.left {BR : List Bx} {lR : List Chk} (h : Hp wb (B ++ BR) (many (l ++ lR)) w) : Hp wb B (many l) w := by
  have hn := h.nod; rw [List.map_append, List.nodup_append] at hn; refine ⟨h.env0, h.low, fun x hx => h.box x (List.mem_append.2 (Or.inl hx)), hn.1, ?_, ⟨fun c hc => h.is.1 c (List.mem_append.2 (Or.inl hc)), (List.pairwise_append.1 h.is.2).1⟩, fun x hx ⟨c, hc, hj⟩ => h.far x (List.mem_append.2 (Or.inl hx)) ⟨c, List.mem_append.2 (Or.inl hc), hj⟩⟩; rintro j (⟨x, hx, rfl⟩ | ⟨c, hc, hj⟩)
  · exact h.up _ (Or.inl ⟨x, List.mem_append.2 (Or.inl hx), rfl⟩)
  · exact h.up _ (Or.inr ⟨c, List.mem_append.2 (Or.inl hc), hj⟩)
theorem Hp.frame {BR B' : List Bx} {lR l' : List Chk} (h : Hp wb (B ++ BR) (many (l ++ lR)) w) (k : Kp wb w (Fp B (many l)) B' (many l') w') : Hp wb (B' ++ BR) (many (l' ++ lR)) w' := by
  obtain ⟨k1, k2, k3⟩ := k; have hn := h.nod; rw [List.map_append, List.nodup_append] at hn; have hl := List.pairwise_append.1 h.is.2; have hR : ∀ j, (∃ x ∈ BR, x.blk = j) ∨ (many lR).fp j → ¬ Fp B (many l) j := by
    rintro j (⟨x, hx, rfl⟩ | ⟨c, hc, hj⟩) (⟨y, hy, e⟩ | ⟨d, hd, hk⟩)
    · exact hn.2.2 _ (List.mem_map_of_mem hy) _ (List.mem_map_of_mem hx) e
    · exact h.far x (List.mem_append.2 (Or.inr hx)) ⟨d, List.mem_append.2 (Or.inl hd), hk⟩
    · exact h.far y (List.mem_append.2 (Or.inl hy)) ⟨c, List.mem_append.2 (Or.inr hc), e ▸ hj⟩
    · exact hl.2.2 d hd c hc j hk hj
  have hRlt : ∀ j, (∃ x ∈ BR, x.blk = j) ∨ (many lR).fp j → j < w.heap.size := by
    rintro j (⟨x, hx, rfl⟩ | ⟨c, hc, hj⟩)
    · exact h.lt (Or.inl ⟨x, List.mem_append.2 (Or.inr hx), rfl⟩)
    · exact h.lt (Or.inr ⟨c, List.mem_append.2 (Or.inr hc), hj⟩)
  have hnew : ∀ j, (∃ x ∈ BR, x.blk = j) ∨ (many lR).fp j → ¬ Fp B' (many l') j := fun j hj hf => by
    rcases k3 j hf with h1 | h1
    · exact hR j hj h1
    · have := hRlt j hj; omega
  refine ⟨h.env0, k1.low, ?_, ?_, ?_, ⟨?_, ?_⟩, ?_⟩
  · intro x hx
    rcases List.mem_append.1 hx with hx | hx
    · exact k1.box x hx
    · exact (h.box x (List.mem_append.2 (Or.inr hx))).only k2 (hR _ (Or.inl ⟨x, hx, rfl⟩))
  · rw [List.map_append, List.nodup_append]
    refine ⟨k1.nod, hn.2.1, ?_⟩; intro a ha b hb e; obtain ⟨y, hy, rfl⟩ := List.mem_map.1 ha; obtain ⟨x, hx, rfl⟩ := List.mem_map.1 hb; exact hnew _ (Or.inl ⟨x, hx, rfl⟩) (Or.inl ⟨y, hy, e⟩)
  · rintro j (⟨x, hx, rfl⟩ | ⟨c, hc, hj⟩)
    · rcases List.mem_append.1 hx with hx | hx
      · exact k1.up _ (Or.inl ⟨x, hx, rfl⟩)
      · exact h.up _ (Or.inl ⟨x, List.mem_append.2 (Or.inr hx), rfl⟩)
    · rcases List.mem_append.1 hc with hc | hc
      · exact k1.up _ (Or.inr ⟨c, hc, hj⟩)
      · exact h.up _ (Or.inr ⟨c, List.mem_append.2 (Or.inr hc), hj⟩)
  · intro c hc
    rcases List.mem_append.1 hc with hc | hc
    · exact k1.is.1 c hc
    · exact c.st w w' _ (h.is.1 c (List.mem_append.2 (Or.inr hc))) k2 (fun j hj => hR j (Or.inr ⟨c, hc, hj⟩))
  · refine List.pairwise_append.2 ⟨k1.is.2, hl.2.1, fun a ha b hb j hj hk => hnew j (Or.inr ⟨b, hb, hk⟩) (Or.inr ⟨a, ha, hj⟩)⟩
  · rintro x hx ⟨c, hc, hj⟩
    rcases List.mem_append.1 hx with hx | hx
    · rcases List.mem_append.1 hc with hc | hc
      · exact k1.far x hx ⟨c, hc, hj⟩
      · exact hnew _ (Or.inr ⟨c, hc, hj⟩) (Or.inl ⟨x, hx, rfl⟩)
    · rcases List.mem_append.1 hc with hc | hc
      · exact hnew _ (Or.inl ⟨x, hx, rfl⟩) (Or.inr ⟨c, hc, hj⟩)
      · exact h.far x (List.mem_append.2 (Or.inr hx)) ⟨c, List.mem_append.2 (Or.inr hc), hj⟩
theorem Kp.frame {BR B' : List Bx} {lR l' : List Chk} (h : Kp wb w0 G (B ++ BR) (many (l ++ lR)) w) (k : Kp wb w (Fp B (many l)) B' (many l') w') : Kp wb w0 G (B' ++ BR) (many (l' ++ lR)) w' := by
  have hsub : ∀ j, Fp B (many l) j → G j ∨ w0.heap.size ≤ j := by
    rintro j (⟨x, hx, rfl⟩ | ⟨c, hc, hj⟩)
    · exact h.new _ (Or.inl ⟨x, List.mem_append.2 (Or.inl hx), rfl⟩)
    · exact h.new _ (Or.inr ⟨c, List.mem_append.2 (Or.inl hc), hj⟩)
  have hs := h.only.size; refine ⟨h.hp.frame k, h.only.trans k.only (fun j hj hf => ?_), ?_⟩
  · rcases hsub j hf with h1 | h1
    · exact h1
    · omega
  · have hnew : ∀ j, Fp B' (many l') j → G j ∨ w0.heap.size ≤ j := fun j hj => by
      rcases k.new j hj with h1 | h1
      · exact hsub j h1
      · exact Or.inr (by omega)
    rintro j (⟨x, hx, rfl⟩ | ⟨c, hc, hj⟩)
    · rcases List.mem_append.1 hx with hx | hx
      · exact hnew _ (Or.inl ⟨x, hx, rfl⟩)
      · exact h.new _ (Or.inl ⟨x, List.mem_append.2 (Or.inr hx), rfl⟩)
    · rcases List.mem_append.1 hc with hc | hc
      · exact hnew _ (Or.inr ⟨c, hc, hj⟩)
      · exact h.new _ (Or.inr ⟨c, List.mem_append.2 (Or.inr hc), hj⟩)
end
def Spec (P : Program) (wb : World) (f : FuncId) (args : Array Value) (B : List Bx) (l : List Chk) {α : Type} (v : α → Value) (B' : α → List Bx) (l' : α → List Chk) : Prop :=
  ∀ w, Hp wb B (many l) w → Calls P f args w fun e w' => ∃ x, e = .returned (v x) ∧ Kp wb w (Fp B (many l)) (B' x) (many (l' x)) w'
def takeI {α : Type} : List Nat → List α → Option (List α × List α)
  | [], l => some ([], l)
  | k :: r, l => match l[k]? with
    | some x => match takeI r (l.eraseIdx k) with
      | some (a, b) => some (x :: a, b)
      | none => none
    | none => none
theorem perm_idx {α : Type} : ∀ (l : List α) (k : Nat) (x : α), l[k]? = some x → l.Perm (x :: l.eraseIdx k)
  | [], _, _, h => by simp at h
  | y :: r, 0, x, h => by
    simp only [List.getElem?_cons_zero, Option.some.injEq] at h; subst h; exact List.Perm.refl _
  | y :: r, k + 1, x, h => (List.Perm.cons y (perm_idx r k x (by simpa using h))).trans (List.Perm.swap x y _)
theorem takeI_perm {α : Type} : ∀ (ks : List Nat) (l a b : List α), takeI ks l = some (a, b) → l.Perm (a ++ b)
  | [], l, a, b, h => by
    simp only [takeI] at h; injection h with h
    injection h with h1 h2
    subst h1 h2; exact List.Perm.refl _
  | k :: r, l, a, b, h => by
    simp only [takeI] at h; split at h
    · rename_i x hx
      split at h
      · rename_i a' b' h2
        injection h with h
        injection h with h1 h3
        subst h1 h3; exact (perm_idx l k x hx).trans (List.Perm.cons x (takeI_perm r _ _ _ h2))
      · cases h
    · cases h
def headI {α : Type} (ks : List Nat) (l : List α) : Option (List α) := match takeI ks l with
  | some (a, _) => some a
  | none => none
def restI {α : Type} (ks : List Nat) (l : List α) : List α := match takeI ks l with
  | some (_, b) => b
  | none => []
theorem headI_perm {α : Type} {ks : List Nat} {l a : List α} (h : headI ks l = some a) : l.Perm (a ++ restI ks l) := by
  unfold headI at h; unfold restI; split at h
  · rename_i a' b he
    injection h with h
    subst h; exact takeI_perm ks l _ _ he
  · cases h
def OpS (P : Program) (T : Sem Next) (B : List Bx) (l : List Chk) {α : Type} (v : α → Value) (B' : α → List Bx) (l' : α → List Chk) : Prop :=
  ∀ wb w, Hp wb B (many l) w → ∃ x w' r, T.run P w = .ok r w' ∧ (r = .value (v x) ∨ r = .skip ∧ v x = undef) ∧ Kp wb w (Fp B (many l)) (B' x) (many (l' x)) w'
section
variable {P : Program} {Q : Exit → Act → World → Prop} {n : Nat} {wb w0 w w' : World} {G : Nat → Prop} {s : Sg}
theorem Kp.left {B BR : List Bx} {l lR : List Chk} (h : Kp wb w0 G (B ++ BR) (many (l ++ lR)) w) : Kp wb w0 G B (many l) w := ⟨h.hp.left, h.only, fun j hj => h.new j (by
  rcases hj with ⟨x, hx, rfl⟩ | ⟨c, hc, hj⟩
  · exact Or.inl ⟨x, List.mem_append.2 (Or.inl hx), rfl⟩
  · exact Or.inr ⟨c, List.mem_append.2 (Or.inl hc), hj⟩)⟩
theorem Kp.part {B B1 : List Bx} {l l1 : List Chk} {ks cs : List Nat} (h : Kp wb w0 G B (many l) w) (hk : headI ks B = some B1) (hc : headI cs l = some l1) : Kp wb w0 G B1 (many l1) w := (h.perm (headI_perm hk) (headI_perm hc)).left
theorem en_spec {f : FuncId} {args : Array Value} {B1 : List Bx} {l0 l1 : List Chk} {α : Type} {v : α → Value} {B' : α → List Bx} {l' : α → List Chk} (hS : Spec P wb f args B1 l1 v B' l') (ks cs : List Nat) (js : List (Nat × Nat × Nat))
    (k : ∀ x, Ok P Q n wb w0 G (many (l' x ++ restI cs l0)) (nxE P s js (v x) (B' x ++ restI ks s.B))) (hk : headI ks s.B = some B1 := by kernel_rfl) (hc : headI cs l0 = some l1 := by kernel_rfl) (h : hdC P n s = some (f, args) := by kernel_rfl) (hS2 : ∀ x, need1 P s js (B' x ++ restI ks s.B) = need2 P s := by intro x; kernel_rfl) (hO : needO P s = r0 := by kernel_rfl) : Ok P Q n wb w0 G (many l0) s :=
  en_do f args s.B (fun w HK => by
    have HK' := HK.perm (headI_perm hk) (headI_perm hc); refine Calls.mono (hS w HK'.hp.left) ?_; rintro e w' ⟨x, he, hx⟩; exact ⟨x, he, HK'.frame hx⟩) js k h rfl hS2 hO
theorem en_spec0 {f : FuncId} {args : Array Value} {B1 : List Bx} {l0 l1 : List Chk} {v : Value} {B' : List Bx} {l' : List Chk} (hS : Spec P wb f args B1 l1 (fun _ : Unit => v) (fun _ => B') (fun _ => l')) (ks cs : List Nat) (js : List (Nat × Nat × Nat))
    (k : Ok P Q n wb w0 G (many (l' ++ restI cs l0)) (nxE P s js v (B' ++ restI ks s.B))) (hk : headI ks s.B = some B1 := by kernel_rfl) (hc : headI cs l0 = some l1 := by kernel_rfl) (h : hdC P n s = some (f, args) := by kernel_rfl) (hS2 : need1 P s js (B' ++ restI ks s.B) = need2 P s := by kernel_rfl) (hO : needO P s = r0 := by kernel_rfl) : Ok P Q n wb w0 G (many l0) s :=
  en_spec hS ks cs js (fun _ => k) hk hc h (fun _ => hS2) hO
theorem en_ops {T : Sem Next} {B1 : List Bx} {l0 l1 : List Chk} {α : Type} {v : α → Value} {B' : α → List Bx} {l' : α → List Chk} (hS : OpS P T B1 l1 v B' l') (ks cs : List Nat) (js : List (Nat × Nat × Nat))
    (k : ∀ x, Ok P Q n wb w0 G (many (l' x ++ restI cs l0)) (nxE P s js (v x) (B' x ++ restI ks s.B))) (hk : headI ks s.B = some B1 := by kernel_rfl) (hc : headI cs l0 = some l1 := by kernel_rfl) (h : hdT P n s = some T := by kernel_rfl) (hS2 : ∀ x, need1 P s js (B' x ++ restI ks s.B) = need2 P s := by intro x; kernel_rfl) (hO : needO P s = r0 := by kernel_rfl) : Ok P Q n wb w0 G (many l0) s :=
  en_op T s.B (fun w HK => by
    have HK' := HK.perm (headI_perm hk) (headI_perm hc); obtain ⟨x, w', r, h1, h2, h3⟩ := hS wb w HK'.hp.left; exact ⟨x, w', r, h1, h2, HK'.frame h3⟩) js k h rfl hS2 hO
theorem en_opsM {T : Sem Next} {B1 : List Bx} {l0 l1 : List Chk} {α : Type} {v : α → Value} {B' : α → List Bx} {l' : α → List Chk} (hS : OpS P T B1 l1 v B' l') (ks cs : List Nat) (js : List (Nat × Nat × Nat)) (O : Rd) (hM : ∀ x w, Kp wb w0 G (B' x ++ restI ks s.B) (many (l' x ++ restI cs l0)) w → RdOk P w O)
    (k : ∀ x, Ok P Q n wb w0 G (many (l' x ++ restI cs l0)) (nxE P s js (v x) (B' x ++ restI ks s.B))) (hk : headI ks s.B = some B1 := by kernel_rfl) (hc : headI cs l0 = some l1 := by kernel_rfl) (h : hdT P n s = some T := by kernel_rfl) (hS2 : ∀ x, need1 P s js (B' x ++ restI ks s.B) = need2 P s := by intro x; kernel_rfl) (hO : needO P s = O := by kernel_rfl) : Ok P Q n wb w0 G (many l0) s :=
  en_opM T s.B (fun w HK => by
    have HK' := HK.perm (headI_perm hk) (headI_perm hc); obtain ⟨x, w', r, h1, h2, h3⟩ := hS wb w HK'.hp.left; exact ⟨x, w', r, h1, h2, HK'.frame h3⟩) js O hM k h rfl hS2 hO
theorem en_rets {fn : Func} {α : Type} {v : α → Value} {B' : α → List Bx} {l' : α → List Chk} {l0 : List Chk} (x : α) (ks cs js : List Nat) (hk : headI ks s.B = some (B' x) := by kernel_rfl) (hc : headI cs l0 = some (l' x) := by kernel_rfl) (h : ret1 P fn js s = ret2 P fn js s (v x) := by kernel_rfl) : Ok P (bodyPost P fn fun e w' => ∃ x, e = .returned (v x) ∧ Kp wb w0 G (B' x) (many (l' x)) w') n wb w0 G (many l0) s :=
  en_retK (v x) js (fun _ HK => ⟨x, rfl, HK.part hk hc⟩) h
theorem en_perm (cs : List Nat) {l l1 : List Chk} (k : Ok P Q n wb w0 G (many (l1 ++ restI cs l)) s) (h : headI cs l = some l1 := by kernel_rfl) : Ok P Q n wb w0 G (many l) s := fun a w F HK => k a w F (HK.perm (List.Perm.refl _) (headI_perm h))
theorem en_stopI {J : Act → World → Prop} {L : List (Nat × Value)} {B0 : List Bx} {I I0 : Chk} (k : ∀ a w, FrL n L a → Kp wb w0 G B0 I0 w → J a w) (h : stopJ (ctl s.L 300 s.cfg) = some J := by kernel_rfl) (hL : picks s.L (L.map (·.1)) = some L := by kernel_rfl) (hB : s.B = B0 := by kernel_rfl) (hI : I = I0 := by kernel_rfl) : Ok P Q n wb w0 G I s := by
  subst hI; exact en_stop k h hL hB
theorem en_word (c : Nat) (J J' : Chk) (e : J = J') {l : List Chk} (k : Ok P Q n wb w0 G (many (J' :: restI [c] l)) s) (h : headI [c] l = some [J] := by kernel_rfl) : Ok P Q n wb w0 G (many l) s := by
  subst e; exact en_perm [c] (l1 := [J]) k h
theorem en_open (c : Nat) (x : Bx) {l : List Chk} (k : Ok P Q n wb w0 G (many (restI [c] l)) ⟨s.cfg, s.L, s.B ++ [x]⟩) (h : headI [c] l = some [boxC x] := by kernel_rfl) : Ok P Q n wb w0 G (many l) s := fun a w F HK => k a w F ((HK.perm (List.Perm.refl _) (headI_perm h)).open x)
theorem en_shut (c : Nat) (x : Bx) {l : List Chk} (k : Ok P Q n wb w0 G (many (boxC x :: l)) ⟨s.cfg, s.L, restI [c] s.B⟩) (h : headI [c] s.B = some [x] := by kernel_rfl) : Ok P Q n wb w0 G (many l) s := fun a w F HK => k a w F (by
  have := HK.perm ((headI_perm h).trans List.perm_append_comm) (List.Perm.refl _); exact this.shut x)
theorem en_unpack (c : Nat) (J : Chk) (l1 : List Chk) {l : List Chk} (k : Ok P Q n wb w0 G (many (l1 ++ restI [c] l)) s) (hJ : J = many l1 := by rfl) (h : headI [c] l = some [J] := by kernel_rfl) : Ok P Q n wb w0 G (many l) s := fun a w F HK => k a w F (by
  subst hJ; exact (HK.perm (List.Perm.refl _) (headI_perm h)).flat _)
theorem en_pack (cs : List Nat) (J : Chk) (l1 : List Chk) {l : List Chk} (k : Ok P Q n wb w0 G (many (J :: restI cs l)) s) (hJ : J = many l1 := by rfl) (h : headI cs l = some l1 := by kernel_rfl) : Ok P Q n wb w0 G (many l) s := fun a w F HK => k a w F (by
  subst hJ; exact (HK.perm (List.Perm.refl _) (headI_perm h)).deep _)
theorem Kp.new0 {B : List Bx} {l : List Chk} (h : Kp wb w0 G B (many l) w) (c : Chk) (hc : c.is w) (hf : ∀ j, ¬ c.fp j) : Kp wb w0 G B (many (c :: l)) w := h.imp ⟨fun d hd => (by rcases List.mem_cons.1 hd with rfl | hd; exact hc; exact h.hp.is.1 d hd), List.pairwise_cons.2 ⟨fun d _ j hj => (hf j hj).elim, h.hp.is.2⟩⟩ (fun j ⟨d, hd, hj⟩ => (by rcases List.mem_cons.1 hd with rfl | hd; exact (hf j hj).elim; exact ⟨d, hd, hj⟩))
theorem en_new0 (c : Chk) {l : List Chk} (k : Ok P Q n wb w0 G (many (c :: l)) s) (hc : ∀ w, c.is w) (hf : ∀ j, ¬ c.fp j) : Ok P Q n wb w0 G (many l) s := fun a w F HK => k a w F (HK.new0 c (hc w) hf)
theorem en_row0 (e : TypeId) (size : Nat) {l : List Chk} (k : Ok P Q n wb w0 G (many (rowC 0 e size (.slice none 0 0) 0 [] :: l)) s) : Ok P Q n wb w0 G (many l) s := en_new0 _ k (fun w => World.ownsRow_nil w 0 e size) (fun j h => by cases h)
theorem en_drop (ks cs : List Nat) {l : List Chk} (k : Ok P Q n wb w0 G (many ((headI cs l).getD [])) ⟨s.cfg, s.L, (headI ks s.B).getD []⟩) (hk : (headI ks s.B).isSome = true := by kernel_rfl) (hc : (headI cs l).isSome = true := by kernel_rfl) : Ok P Q n wb w0 G (many l) s := fun a w F HK => by
  obtain ⟨B1, h1⟩ := Option.isSome_iff_exists.1 hk; obtain ⟨l1, h2⟩ := Option.isSome_iff_exists.1 hc; rw [h1, h2] at k; exact k a w F (HK.part h1 h2)
theorem many_one {L R : List Chk} {c : Chk} (h : L.Perm (c :: R)) {l : List Chk} {B : List Bx} (HK : Kp wb w0 G B (many (many L :: l)) w) : Kp wb w0 G B (many (c :: many R :: l)) w := by
  have h1 := HK.flat l; have h2 := h1.perm (List.Perm.refl _) (h.append_right l); have h3 : Kp wb w0 G B (many (R ++ (c :: l))) w := h2.perm (List.Perm.refl _) (List.perm_middle.symm); exact (h3.deep (c :: l)).perm (List.Perm.refl _) (List.Perm.swap _ _ _)
theorem many_in {L R : List Chk} {c : Chk} (h : (c :: R).Perm L) {l : List Chk} {B : List Bx} (HK : Kp wb w0 G B (many (c :: many R :: l)) w) : Kp wb w0 G B (many (many L :: l)) w := by
  have h3 := (HK.perm (List.Perm.refl _) (List.Perm.swap _ _ _)).flat (c :: l); have h2 : Kp wb w0 G B (many ((c :: R) ++ l)) w := h3.perm (List.Perm.refl _) List.perm_middle; exact (h2.perm (List.Perm.refl _) (h.append_right l)).deep l
theorem en_out (c : Nat) (J x : Chk) (L R : List Chk) (h : L.Perm (x :: R)) {l : List Chk} (k : Ok P Q n wb w0 G (many (x :: many R :: restI [c] l)) s) (hJ : J = many L := by rfl) (hc : headI [c] l = some [J] := by kernel_rfl) : Ok P Q n wb w0 G (many l) s := fun a w F HK => k a w F (by
  subst hJ; exact many_one h (HK.perm (List.Perm.refl _) (headI_perm hc)))
theorem en_in (cs : List Nat) (J x : Chk) (L R : List Chk) (h : (x :: R).Perm L) {l : List Chk} (k : Ok P Q n wb w0 G (many (J :: restI cs l)) s) (hJ : J = many L := by rfl) (hc : headI cs l = some [x, many R] := by kernel_rfl) : Ok P Q n wb w0 G (many l) s := fun a w F HK => k a w F (by
  subst hJ; exact many_in h (HK.perm (List.Perm.refl _) (headI_perm hc)))
theorem en_factK {I : Chk} {p : Prop} (h : ∀ w, Kp wb w0 G s.B I w → p) (k : p → Ok P Q n wb w0 G I s) : Ok P Q n wb w0 G I s := fun a w F HK => k (h w HK) a w F HK
theorem en_fact {I : Chk} {p : Prop} (h : ∀ w, I.is w → p) (k : p → Ok P Q n wb w0 G I s) : Ok P Q n wb w0 G I s := fun a w F HK => k (h w HK.hp.is) a w F HK
theorem is_at {l : List Chk} (h : (many l).is w) (k : Nat) {c : Chk} (hk : l[k]? = some c := by kernel_rfl) : c.is w := h.1 c (List.mem_of_getElem? hk)
def Pur (P : Program) (f : FuncId) (args : Array Value) (v : Value) : Prop := ∀ w, Env w → Calls P f args w fun e w' => e = .returned v ∧ Below w.heap.size w w'
theorem fp_none {j : Nat} : ¬ Fp [] (many []) j := by
  rintro (⟨x, hx, _⟩ | ⟨c, hc, _⟩)
  · cases hx
  · cases hc
theorem Hp.start (hE : Env w) : Hp w [] (many []) w := ⟨hE, Below.refl _ _, (fun x hx => (by cases hx)), List.nodup_nil, (fun j hj => (fp_none hj).elim), ⟨(fun c hc => (by cases hc)), List.Pairwise.nil⟩, (fun x hx => (by cases hx))⟩
theorem below_none' (h : Only (Fp [] (many [])) w w') : Below w.heap.size w w' := h.below (Nat.le_refl _) (fun k hk => (fp_none hk).elim)
theorem Kp.bx {I : Chk} {B : List Bx} (HK : Kp wb w0 G B I w) {ks : List Nat} {bx : List Bx} (hb : ks.map (B[·]?) = bx.map some) {x : Bx} (hx : x ∈ bx) : BoxAt w x.blk x.cells.toArray x.ty := by
  have h1 : some x ∈ bx.map some := List.mem_map_of_mem hx; rw [← hb] at h1; obtain ⟨k, _, e⟩ := List.mem_map.1 h1; exact HK.hp.at k e
theorem rdc_of {f : FuncId} {args : Array Value} {v : Value} (hE : Env w) (h : Spec P w f args [] [] (fun _ : Unit => v) (fun _ => []) (fun _ => [])) : Calls P f args w fun e w' => e = .returned v ∧ Below w.heap.size w w' := Calls.mono (h w (Hp.start hE)) (by
  rintro e w' ⟨_, he, hk⟩; exact ⟨he, below_none' hk.only⟩)
theorem Pur.cs {f : FuncId} {args : Array Value} {v : Value} (h : Pur P f args v) {I : Chk} : Cs.ok P wb w0 G I ⟨f, args, v, [], []⟩ := fun _ w HK _ => h w HK.hp.env
end
end Go.Proofs.YtnnpokndajpkiaaGreatDoor
