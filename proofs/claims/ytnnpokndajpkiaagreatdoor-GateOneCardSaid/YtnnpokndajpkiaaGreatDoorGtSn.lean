import Derived.Test.YtnnpokndajpkiaaGreatDoorGtPl
namespace Go.Proofs.YtnnpokndajpkiaaGreatDoor
open Go.RowKit
def Ext (c c' : Cn) : Prop := ∃ x, c'.drain = c.drain ++ x ∧ c'.sent = c.sent ++ x
theorem Ext.same {c c' : Cn} (h1 : c'.drain = c.drain) (h2 : c'.sent = c.sent) : Ext c c' := ⟨⟨#[]⟩, by rw [h1]; exact ByteArray.append_empty.symm, by rw [h2]; exact ByteArray.append_empty.symm⟩
theorem cut_num (W : Nat) (c : Cn) (ops : Int) : (cutR W c ops).1.num = c.num := by unfold cutR; split <;> rfl
theorem read_num (m W : Nat) (c : Cn) (now ops : Int) : (readC m W c now ops).1.num = c.num := by
  unfold readC; split
  · rfl
  split
  · exact cut_num W _ ops
  split
  · split
    · unfold liveR
      repeat (split <;> try rfl)
    · unfold freshR
      split
      · rfl
      · rw [freshN_num]; rfl
  split
  · exact cut_num W _ ops
  · rfl
theorem fed_num (s : ByteArray) (c : Cn) : (fedC s c).num = c.num := by unfold fedC; split <;> rfl
def ExtG (k : Int) (G G' : List Cn) : Prop := ∃ x, drainG G' k = drainG G k ++ x ∧ sentG G' k = sentG G k ++ x
theorem ExtG.same (k : Int) (G : List Cn) : ExtG k G G := ⟨⟨#[]⟩, ByteArray.append_empty.symm, ByteArray.append_empty.symm⟩
theorem ExtG.mod {f : Cn → Cn} (hf : ∀ c, (f c).num = c.num) (he : ∀ c, Ext c (f c)) (k n : Int) (G : List Cn) : ExtG k G (modG f G n) := by
  unfold ExtG drainG sentG; rw [getG_modG hf]; by_cases h : k = n
  · subst h
    rw [if_pos rfl]; cases hg : getG G k with
    | none => exact ⟨⟨#[]⟩, rfl, rfl⟩
    | some c => exact he c
  · rw [if_neg h]
    exact ExtG.same k G
end Go.Proofs.YtnnpokndajpkiaaGreatDoor
