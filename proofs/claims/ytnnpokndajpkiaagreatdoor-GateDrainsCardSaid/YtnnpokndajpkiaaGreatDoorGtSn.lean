import Derived.Test.YtnnpokndajpkiaaGreatDoorGtPl
namespace Go.Proofs.YtnnpokndajpkiaaGreatDoor
open Go.RowKit
def Ext (c c' : Cn) : Prop := ∃ x, c'.drain = c.drain ++ x ∧ c'.sent = c.sent ++ x
theorem Ext.same {c c' : Cn} (h1 : c'.drain = c.drain) (h2 : c'.sent = c.sent) : Ext c c' := ⟨⟨#[]⟩, by rw [h1]; exact ByteArray.append_empty.symm, by rw [h2]; exact ByteArray.append_empty.symm⟩
theorem snd_ext (c : Cn) (ps : List Pk) : Ext c (sndC c ps) := by
  obtain ⟨x, h1, h2⟩ := snd_app ps c.drain; exact ⟨x, h1, h2 c.sent⟩
theorem hear_ext (k : Nat) (ps : List Pk) (c : Cn) : Ext c (hearC k ps c) := by
  unfold hearC; split
  · exact snd_ext c ps
  split
  · exact Ext.same rfl rfl
  split
  · exact Ext.same rfl rfl
  · exact Ext.same rfl rfl
theorem cut_ext (W : Nat) (c c' : Cn) (ops : Int) (h1 : c'.drain = c.drain) (h2 : c'.sent = c.sent) : Ext c (cutR W c' ops).1 := by
  unfold cutR; split
  · exact Ext.same h1 h2
  · exact Ext.same h1 h2
theorem snd_ext' {c c' : Cn} (h1 : c'.drain = c.drain) (h2 : c'.sent = c.sent) (ps : List Pk) : Ext c (sndC c' ps) := by
  obtain ⟨x, h3, h4⟩ := snd_ext c' ps; exact ⟨x, by rw [h3, h1], by rw [h4, h2]⟩
theorem read_ext (m W : Nat) (c : Cn) (now ops : Int) : Ext c (readC m W c now ops).1 := by
  unfold readC; split
  · exact Ext.same rfl rfl
  split
  · exact cut_ext W c _ ops rfl rfl
  split
  · split
    · unfold liveR
      split
      · exact snd_ext' rfl rfl _
      split
      · exact Ext.same rfl rfl
      split
      · exact Ext.same rfl rfl
      split
      · exact Ext.same rfl rfl
      · exact Ext.same rfl rfl
    · unfold freshR
      split
      · exact Ext.same rfl rfl
      · unfold freshN
        split
        · exact Ext.same rfl rfl
        split
        · exact snd_ext' (c' := { nextC m c with last := now }) rfl rfl _
        · exact snd_ext' (c' := { nextC m c with last := now }) rfl rfl _
  split
  · exact cut_ext W c _ ops rfl rfl
  · exact Ext.same rfl rfl
theorem cut_num (W : Nat) (c : Cn) (ops : Int) : (cutR W c ops).1.num = c.num := by unfold cutR; split <;> rfl
theorem read_num (m W : Nat) (c : Cn) (now ops : Int) : (readC m W c now ops).1.num = c.num := by
  unfold readC; split
  · rfl
  split
  · exact cut_num W _ ops
  split
  · split
    · unfold liveR
      repeat (split <;> try rfl)
    · unfold freshR
      split
      · rfl
      · rw [freshN_num]; rfl
  split
  · exact cut_num W _ ops
  · rfl
theorem fed_num (s : ByteArray) (c : Cn) : (fedC s c).num = c.num := by unfold fedC; split <;> rfl
def ExtG (k : Int) (G G' : List Cn) : Prop := ∃ x, drainG G' k = drainG G k ++ x ∧ sentG G' k = sentG G k ++ x
theorem ExtG.same (k : Int) (G : List Cn) : ExtG k G G := ⟨⟨#[]⟩, ByteArray.append_empty.symm, ByteArray.append_empty.symm⟩
theorem ExtG.mod {f : Cn → Cn} (hf : ∀ c, (f c).num = c.num) (he : ∀ c, Ext c (f c)) (k n : Int) (G : List Cn) : ExtG k G (modG f G n) := by
  unfold ExtG drainG sentG; rw [getG_modG hf]; by_cases h : k = n
  · subst h
    rw [if_pos rfl]; cases hg : getG G k with
    | none => exact ⟨⟨#[]⟩, rfl, rfl⟩
    | some c => exact he c
  · rw [if_neg h]
    exact ExtG.same k G
theorem act_ext (W u m : Nat) (G : List Cn) (ops : Int) (q : Ac) (k : Int) : ExtG k G (actS W u m G ops q).1 := by
  unfold actS; split
  · show ExtG k G (if _ then _ else _)
    split
    · unfold ExtG drainG sentG
      rw [getG_snoc]; cases hg : getG G k with
      | some c => exact ExtG.same k G |> fun h => by unfold ExtG drainG sentG at h; rw [hg] at h; exact h
      | none =>
        refine ⟨⟨#[]⟩, ?_, ?_⟩
        · show (Option.map (·.drain) (if k = (newC q.cn).num then some (newC q.cn) else none)).getD ⟨#[]⟩ = _
          split <;> rfl
        · show (Option.map (·.sent) (if k = (newC q.cn).num then some (newC q.cn) else none)).getD ⟨#[]⟩ = _
          split <;> rfl
    · exact ExtG.same k G
  split
  · exact ExtG.mod (fed_num _) (fun c => by unfold fedC; split <;> exact Ext.same rfl rfl) k _ G
  split
  · exact ExtG.mod (f := fun c => { c with hung := true }) (fun _ => rfl) (fun c => Ext.same rfl rfl) k _ G
  split
  · exact ExtG.mod (f := fun c => (readC m W c q.now ops).1) (fun c => read_num m W c q.now ops) (fun c => read_ext m W c q.now ops) k _ G
  split
  · show ExtG k G (hear1 G q.it)
    unfold hear1; split
    · exact ExtG.mod (f := shutC) (fun _ => rfl) (fun c => Ext.same rfl rfl) k _ G
    · exact ExtG.mod (f := hearC q.it.k (pksI q.it)) (fun c => hearC_num _ _ c) (fun c => hear_ext _ _ c) k _ G
  · exact ExtG.same k G
theorem drop_drain (G : List Cn) (n : Int) : drainG (modG dropD G n) n = ⟨#[]⟩ := by
  unfold drainG; rw [getG_modG (f := dropD) (fun _ => rfl), if_pos rfl]; cases getG G n <;> rfl
theorem drop_sent (G : List Cn) (n k : Int) : sentG (modG dropD G n) k = sentG G k := by
  unfold sentG; rw [getG_modG (f := dropD) (fun _ => rfl)]; by_cases h : k = n
  · subst h
    rw [if_pos rfl]; cases getG G k <;> rfl
  · rw [if_neg h]
theorem drop_good {B D : Nat} {G : List Cn} (h : GtGood B D G) (n : Int) : GtGood B D (modG dropD G n) := h.mod (Nat.le_refl _) (Nat.le_refl _) (fun c hc => ⟨hc.len, Nat.zero_le _, hc.sent, hc.cl, hc.last0, hc.last1, hc.keep⟩)
theorem sent_size {B D : Nat} {G : List Cn} (h : GtGood B D G) (n : Int) : (sentG G n).size ≤ D := by
  unfold sentG; cases hg : getG G n with
  | none => exact Nat.zero_le _
  | some c => exact (h c (getG_mem hg).1).sent
def hsT (v hi : Value) (ty : TypeId) : Sem Next := opT [v, hi] (.slice 9 (.tmp 0) none (some (.tmp 1)) none) ty
theorem head_app (a x : ByteArray) : (a ++ x).extract 0 a.size = a := by
  apply ByteArray.ext
  rw [ByteArray.data_extract, ByteArray.data_append]; show (a.data ++ x.data).extract 0 a.data.size = a.data; rw [Array.extract_append]; simp
theorem hs_run {w : World} {a x : ByteArray} (h : a.size + x.size ≤ 9223372036854775807) (ty : TypeId) : (hsT (.string (a ++ x)) (.int .i64 (a.size : Int)) ty).run Tryz.prog w = .ok (.value (.string a)) w := by
  have hs : (a ++ x).size = a.size + x.size := ByteArray.size_append; unfold hsT opT; unfold execOp; have e0 : ∀ y l, known (numL 0 (y :: l)) (.tmp 0) = y := fun _ _ => rfl
  have e1 : ∀ x y l, known (numL 0 (x :: y :: l)) (.tmp 1) = y := fun _ _ _ => rfl
  go_simp; rw [if_pos (by omega)]; rw [head_app]
end Go.Proofs.YtnnpokndajpkiaaGreatDoor
