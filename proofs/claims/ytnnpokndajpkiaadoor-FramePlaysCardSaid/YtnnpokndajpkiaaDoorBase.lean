import Derived.Test.YtnnpokndajpkiaaDoorProg
import Derived.WalkKit
import Derived.Handy
import Derived.WalkSpells
import Derived.WalkLawsBesides
import Derived.Outline
import Derived.Deep.LoopGhost
import Derived.Deep.QuietTactic
import Derived.BigQuiet
import Derived.Lib.LaidU8
import Derived.Lib.Strings
import Derived.Lib.Hide
namespace Go.Proofs.YtnnpokndajpkiaaDoor
open Go.RowKit
theorem ret_int {k : IntKind} {a b : Int} (h : a = b) : Ending.returned (.int k a) = .returned (.int k b) := by rw [h]
theorem ret_bool {a b : Bool} (h : a = b) : Ending.returned (.bool a) = .returned (.bool b) := by rw [h]
def CellsA (w : World) (a : Option Addr) (vs : List Value) : Prop :=
  ∀ j v, vs[j]? = some v → ∃ b o, a = some ⟨b, o, none⟩ ∧ w.cell? ⟨b, o + j, none⟩ = some v
theorem CellsA.nil (w : World) (a : Option Addr) : CellsA w a [] := fun j v h => by simp at h
theorem CellsA.below {w w' : World} {a : Option Addr} {vs : List Value} (h : CellsA w a vs) (hb : Below w.heap.size w w') : CellsA w' a vs := by
  intro j v hv; obtain ⟨b, o, ha, hc⟩ := h j v hv; have hlt := World.block_lt_of_cell? _ _ hc; exact ⟨b, o, ha, (hb.cell (p := ⟨b, o + j, none⟩) hlt).trans hc⟩
theorem Below.then {w w1 w2 : World} (h : Below w.heap.size w w1) (k : Below w1.heap.size w1 w2) : Below w.heap.size w w2 := h.trans (k.mono h.size)
theorem cell_later {w w' : World} {p : Addr} {v : Value} (h : w.cell? p = some v) (hb : Below w.heap.size w w') : w'.cell? p = some v :=
  (hb.cell (World.block_lt_of_cell? _ _ h)).trans h
theorem below_draws {w w2 : World} {n : Nat} (h : w.drewN n = w2) : Below w.heap.size w w2 := by
  subst h; exact ⟨rfl, rfl, rfl, Nat.le_refl _, fun _ _ => rfl⟩
structure Env (w : World) : Prop where
  tabs : Lib.Utf8Tabs 1 2 w
  most : ∃ m : Int, w.cell? ⟨0, 0, none⟩ = some (.int .i64 m)
theorem Env.below {w w' : World} (h : Env w) (hb : Below w.heap.size w w') : Env w' := by
  obtain ⟨⟨h1, h2⟩, m, hm⟩ := h; exact ⟨⟨fun c hc => cell_later (h1 c hc) hb, fun i hi => ⟨cell_later (h2 i hi).1 hb, cell_later (h2 i hi).2 hb⟩⟩, m, cell_later hm hb⟩
end Go.Proofs.YtnnpokndajpkiaaDoor
