import Derived.Test.YtnnpokndajpkiaaGreatDoorGtAw
import Derived.Test.YtnnpokndajpkiaaGreatDoorGtGr
namespace Go.Proofs.YtnnpokndajpkiaaGreatDoor
open Go.RowKit
attribute [local irreducible] Ok
def Im.zero : Im := ⟨0, 0, 0, ⟨#[]⟩, ⟨#[]⟩, Pk.zero, none, 0, ⟨⟨#[]⟩, ⟨#[]⟩, 0, false⟩, none, 0, 0, none, 0, 0, none, [], 0, 0, 0⟩
theorem gt_infoIm : (Tryz.prog.info? 38).map (fun i => (i.zero, i.size, i.bytes)) = some (some (.agg (itR Im.zero).toArray), 38, 384) := by kernel_rfl
theorem one_item {wb : World} {d : Nat} {i : Im} {X : Chk} (hX : ∀ w, Below wb.heap.size wb w → X.is w → ItIn w i) : ∀ w, Below wb.heap.size wb w → (many [rowO 38 38 (.slice (some ⟨d, 0, none⟩) 1 1) 1 (itR i).toArray.toList, X]).is w → CellsA w (some ⟨d, 0, none⟩) (itCs [i]) ∧ ∀ q ∈ [i], ItIn w q := fun w h1 h2 => by
  refine ⟨?_, fun q hq => ?_⟩
  · have h3 := own_cells (show w.ownsRow 0 38 38 _ 1 (itR i) from is_at h2 0 (c := rowO 38 38 (.slice (some ⟨d, 0, none⟩) 1 1) 1 (itR i).toArray.toList) rfl)
    unfold itCs; rw [List.flatMap_cons, List.flatMap_nil, List.append_nil]; exact h3
  · rw [List.mem_singleton] at hq
    subst hq; exact hX w h1 (is_at h2 1 (c := X) rfl)
end Go.Proofs.YtnnpokndajpkiaaGreatDoor
namespace Go.Proofs.YtnnpokndajpkiaaGreatDoor
theorem mem_modG {f : Cn → Cn} : ∀ {G : List Cn} {n : Int} {c : Cn}, c ∈ modG f G n → c ∈ G ∨ ∃ d ∈ G, getG G n = some d ∧ c = f d
  | [], _, _, h => by cases h
  | d :: G, n, c, h => by
    unfold modG at h; split at h
    · rename_i e
      rcases List.mem_cons.1 h with rfl | h
      · exact Or.inr ⟨d, List.mem_cons_self, by unfold getG; rw [if_pos e], rfl⟩
      · exact Or.inl (List.mem_cons_of_mem _ h)
    · rename_i e
      rcases List.mem_cons.1 h with rfl | h
      · exact Or.inl List.mem_cons_self
      · rcases mem_modG h with h | ⟨x, hx, h1, h2⟩
        · exact Or.inl (List.mem_cons_of_mem _ h)
        · exact Or.inr ⟨x, List.mem_cons_of_mem _ hx, by unfold getG; rw [if_neg e]; exact h1, h2⟩
theorem getG_mem : ∀ {G : List Cn} {n : Int} {c : Cn}, getG G n = some c → c ∈ G ∧ c.num = n
  | d :: G, n, c, h => by
    unfold getG at h; split at h
    · rename_i e
      injection h with h
      subst h; exact ⟨List.mem_cons_self, e.symm⟩
    · exact ⟨List.mem_cons_of_mem _ (getG_mem h).1, (getG_mem h).2⟩
theorem getG_modG {f : Cn → Cn} (hf : ∀ c, (f c).num = c.num) : ∀ (G : List Cn) (n k : Int), getG (modG f G n) k = if k = n then (getG G n).map f else getG G k
  | [], n, k => by show none = if k = n then none else none; split <;> rfl
  | d :: G, n, k => by
    unfold modG; by_cases e : n = d.num
    · rw [if_pos e]
      unfold getG; rw [hf d, if_pos e]; by_cases h : k = n
      · rw [if_pos h, if_pos (h.trans e)]; rfl
      · rw [if_neg h, if_neg (fun h2 => h (h2.trans e.symm)), if_neg (fun h2 => h (h2.trans e.symm))]
    · rw [if_neg e]
      unfold getG; rw [if_neg e]; by_cases h : k = d.num
      · rw [if_pos h, if_pos h, if_neg (fun h2 => e (h2.symm.trans h))]
      · rw [if_neg h, if_neg h, getG_modG hf G n k]
structure CnGood (B D : Nat) (c : Cn) : Prop where
  len : c.L.length ≤ B
  drain : c.drain.size ≤ D
  sent : c.sent.size ≤ D
  cl : c.cl.size ≤ 64
  last0 : 0 ≤ c.last
  last1 : c.last ≤ 1099511627776
  keep : c.keep ≤ 65535
def GtGood (B D : Nat) (G : List Cn) : Prop := ∀ c ∈ G, CnGood B D c
theorem CnGood.up {B D B' D' : Nat} {c : Cn} (h : CnGood B D c) (h1 : B ≤ B') (h2 : D ≤ D') : CnGood B' D' c := ⟨Nat.le_trans h.len h1, Nat.le_trans h.drain h2, Nat.le_trans h.sent h2, h.cl, h.last0, h.last1, h.keep⟩
theorem GtGood.mod {B D B' D' : Nat} {G : List Cn} (h : GtGood B D G) (h1 : B ≤ B') (h2 : D ≤ D') {f : Cn → Cn} {n : Int} (hf : ∀ c, CnGood B D c → CnGood B' D' (f c)) : GtGood B' D' (modG f G n) := fun c hc => by
  rcases mem_modG hc with hc | ⟨d, hd, _, rfl⟩
  · exact (h c hc).up h1 h2
  · exact hf d (h d hd)
theorem nx_ok (m : Nat) (L : Bs) (e : Nat) (hL : L.length ≤ 90000000) : PkOk (nxT m L e).1 := by
  unfold nxT; split
  · exact pz_ok
  · rcases h : nextR m L with ⟨_ | p, t, e2⟩
    · exact pz_ok
    · obtain ⟨_, _, _, _, h1, h2⟩ := next_some h
      rcases hd : decR (L.take (wholeR m L).1) with ⟨p', n, e3⟩
      rw [hd] at h1 h2; simp only at h1 h2
      subst h1 h2; obtain ⟨_, _, _, _, _, _, _, _, _, _, h3, _⟩ := dec_again _ _ _ hd (by rw [List.length_take]; omega); exact h3
theorem CnGood.ok {B D m : Nat} {c : Cn} (h : CnGood B D c) (hB : B ≤ 90000000) (hD : D ≤ 1000000000000000) : CnOk m c := by
  have h1 := h.len; have h2 := h.drain; have h3 := h.sent; have h4 := h.cl; have h5 := h.keep; have hp := nx_ok m c.L c.e (by omega); exact ⟨by omega, by omega, by omega, by omega, h.last0, h.last1, by omega, hp, hp.few⟩
theorem snd_good {B D : Nat} {c : Cn} (h : CnGood B D c) (ps : List Pk) (hp : ∀ p ∈ ps, PkOk p) (hn : ps.length ≤ 10) : CnGood B (D + 4000000000) (sndC c ps) := by
  have hs : ∀ (ps : List Pk) (d : ByteArray), (∀ p ∈ ps, PkOk p) → (sndS d ps).size ≤ d.size + ps.length * 300000000 := by
    intro ps; induction ps with
    | nil => intro d _; simp [sndS]
    | cons p ps ih =>
      intro d hp; have h1 := ih (snd1 d p) (fun q hq => hp q (List.mem_cons_of_mem _ hq)); have h2 := enc_size (hp p List.mem_cons_self); have h3 : (snd1 d p).size ≤ d.size + 300000000 := by
        unfold snd1; split
        · rw [ByteArray.size_append]; omega
        · omega
      show (sndS (snd1 d p) ps).size ≤ _; rw [List.length_cons]; omega
  have h1 := hs ps c.drain hp; have h2 := hs ps c.sent hp; have h3 := h.drain; have h4 := h.sent; exact ⟨h.len, by show (sndS c.drain ps).size ≤ _; omega, by show (sndS c.sent ps).size ≤ _; omega, h.cl, h.last0, h.last1, h.keep⟩
theorem st_good {B D : Nat} {c : Cn} (h : CnGood B D c) (s : Nat) : CnGood B D { c with st := s } := ⟨h.len, h.drain, h.sent, h.cl, h.last0, h.last1, h.keep⟩
theorem hear_good {B D : Nat} {c : Cn} (h : CnGood B D c) (k : Nat) (ps : List Pk) (hp : ∀ p ∈ ps, PkOk p) (hn : ps.length ≤ 10) : CnGood B (D + 4000000000) (hearC k ps c) := by
  have h2 := h.up (Nat.le_refl B) (show D ≤ D + 4000000000 by omega); unfold hearC; split
  · exact snd_good h ps hp hn
  split
  · exact st_good h2 3
  split
  · exact st_good h2 6
  · exact h2
structure AcGood (q : Ac) : Prop where
  few : q.it.ps.length ≤ 10
  ok : ∀ p ∈ q.it.ps, PkOk p.1
theorem pks_ok {q : Ac} (h : AcGood q) : ∀ p ∈ pksI q.it, PkOk p := fun p hp => by
  obtain ⟨x, hx, rfl⟩ := List.mem_map.1 hp; exact h.ok x hx
theorem pks_len (i : Im) : (pksI i).length = i.ps.length := List.length_map _
theorem hear1_good {B D : Nat} {G : List Cn} (h : GtGood B D G) {q : Ac} (hq : AcGood q) : GtGood B (D + 4000000000) (hear1 G q.it) := by
  unfold hear1; split
  · exact h.mod (Nat.le_refl _) (by omega) (fun c hc => st_good (hc.up (Nat.le_refl _) (by omega)) 6)
  · exact h.mod (Nat.le_refl _) (by omega) (fun c hc => hear_good hc _ _ (pks_ok hq) (by rw [pks_len]; exact hq.few))
end Go.Proofs.YtnnpokndajpkiaaGreatDoor
namespace Go.Proofs.YtnnpokndajpkiaaGreatDoor
open Go.RowKit
def Ext (c c' : Cn) : Prop := ∃ x, c'.drain = c.drain ++ x ∧ c'.sent = c.sent ++ x
theorem Ext.same {c c' : Cn} (h1 : c'.drain = c.drain) (h2 : c'.sent = c.sent) : Ext c c' := ⟨⟨#[]⟩, by rw [h1]; exact ByteArray.append_empty.symm, by rw [h2]; exact ByteArray.append_empty.symm⟩
def ExtG (k : Int) (G G' : List Cn) : Prop := ∃ x, drainG G' k = drainG G k ++ x ∧ sentG G' k = sentG G k ++ x
theorem ExtG.same (k : Int) (G : List Cn) : ExtG k G G := ⟨⟨#[]⟩, ByteArray.append_empty.symm, ByteArray.append_empty.symm⟩
theorem ExtG.mod {f : Cn → Cn} (hf : ∀ c, (f c).num = c.num) (he : ∀ c, Ext c (f c)) (k n : Int) (G : List Cn) : ExtG k G (modG f G n) := by
  unfold ExtG drainG sentG; rw [getG_modG hf]; by_cases h : k = n
  · subst h
    rw [if_pos rfl]; cases hg : getG G k with
    | none => exact ⟨⟨#[]⟩, rfl, rfl⟩
    | some c => exact he c
  · rw [if_neg h]
    exact ExtG.same k G
end Go.Proofs.YtnnpokndajpkiaaGreatDoor
