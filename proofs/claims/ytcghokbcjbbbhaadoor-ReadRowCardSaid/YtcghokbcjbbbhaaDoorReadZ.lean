/- Small facts for the walks of package read. No condition; nothing of the program's functions is named. -/
import Derived.Test.YtcghokbcjbbbhaaDoorSizes
import Derived.Test.YtcghokbcjbbbhaaDoorPlainAgain
import Derived.Test.YtcghokbcjbbbhaaDoorPlainCut
import Derived.Test.YtcghokbcjbbbhaaDoorPacket
namespace Go.Proofs.YtcghokbcjbbbhaaDoor
open Go.RowKit
def bitM (m f : Nat) : Nat := f / m % 2 * m
theorem bit_pos (m f : Nat) (h : 0 < m) : (0 < bitM m f) = (f / m % 2 = 1) := by
  apply propext
  unfold bitM
  have : f / m % 2 = 0 ∨ f / m % 2 = 1 := by omega
  rcases this with h1 | h1 <;> rw [h1] <;> simp <;> omega
theorem bit_all : ∀ f : Nat, f < 256 → ∀ m ∈ ([1, 2, 4, 8, 32, 64, 128] : List Nat), bits BinOp.and IntKind.u8 (f : Int) (m : Int) = ((bitM m f : Nat) : Int) := by decide +kernel
theorem bit_facts (f : Nat) (h : f < 256) : ∀ m ∈ ([1, 2, 4, 8, 32, 64, 128] : List Nat), bits BinOp.and IntKind.u8 (f : Int) (m : Int) = ((bitM m f : Nat) : Int) ∧ (0 < bitM m f) = (f / m % 2 = 1) := fun m hm => ⟨bit_all f h m hm, bit_pos m f (by simp at hm; omega)⟩
theorem and3_u8 : ∀ f : Nat, f < 256 → bits BinOp.and IntKind.u8 ((f : Int) / 8) 3 = ((f / 8 % 4 : Nat) : Int) := by decide +kernel
theorem and3_shr1 : ∀ f : Nat, f < 256 → bits BinOp.and IntKind.u8 ((f : Int) / 2) 3 = ((f / 2 % 4 : Nat) : Int) := by decide +kernel
theorem one_len (c : Cur) : (oneR c).2.1.length ≤ c.1.length := by
  obtain ⟨L, k⟩ := c
  cases L with
  | nil => exact Nat.le_refl _
  | cons b t => exact Nat.le_succ _
theorem ne_toList (a b : ByteArray) : (a.toList != b.toList) = (a != b) := by
  by_cases h : a = b
  · subst h
    show (!(a.toList == a.toList)) = !(a.data == a.data)
    simp
  · rw [ba_ne h, bne_iff_ne]
    rw [Lib.toList_data, Lib.toList_data]
    exact fun e => h (bl_inj e)
section
variable {P : Program} {a : Act} {w : World} {Q : Exit → Act → World → Prop}
theorem wp_end_meet {x : Code} (I : Act → World → Prop) (h1 : x.wp P (Exit.then I Q) a w) (h2 : ∀ a' w', I a' w' → Q .normal a' w') : x.wp P Q a w :=
  Code.wp_mono (fun e a w q => by cases e <;> first | exact h2 _ _ q | exact q) h1
theorem results_void {fn : Func} (h : fn.results = #[]) (tmps : Array Value) (w : World) : (results fn tmps).run P w = .ok (.tuple #[]) w := by
  simp [results, h]
end
end Go.Proofs.YtcghokbcjbbbhaaDoor
