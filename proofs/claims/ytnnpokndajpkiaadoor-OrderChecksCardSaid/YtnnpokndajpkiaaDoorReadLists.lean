import Derived.Test.YtnnpokndajpkiaaDoorJoinD
import Derived.Test.YtnnpokndajpkiaaDoorBase
import Derived.Laws.Bits64b
import Derived.Laws.BitsLemmas
import Derived.Test.YtnnpokndajpkiaaDoorJoinB
import Derived.OwnWalk
import Derived.Test.YtnnpokndajpkiaaDoorJoinI
import Derived.Test.YtnnpokndajpkiaaDoorJoinC
import Derived.Test.YtnnpokndajpkiaaDoorJoinH
import Derived.Test.YtnnpokndajpkiaaDoorJoinF
import Derived.Test.YtnnpokndajpkiaaDoorJoinA
namespace Go.Proofs.YtnnpokndajpkiaaDoor
open Go.RowKit
section
variable {P : Program} {a : Act} {w : World} {Q : Exit → Act → World → Prop}
theorem wp_block_end {id : Nat} {c : Code} (K : Act → World → Prop) (h : c.wp P (Exit.inBlock id (Exit.then K Q)) a w) (h2 : ∀ a' w', K a' w' → Q .normal a' w') : (Code.block id c).wp P Q a w :=
  wp_block (Code.wp_mono (fun e a w q => by
    cases e with
    | normal => exact h2 _ _ q
    | exit i =>
      unfold Exit.inBlock at q ⊢; simp only at q ⊢
      split
      · rename_i hi
        rw [if_pos hi] at q; exact h2 _ _ q
      · rename_i hi
        rw [if_neg hi] at q; exact q
    | goto l => exact q
    | ret => exact q
    | panic c => exact q
    | outgrown => exact q) h)
theorem then_exit {K : Act → World → Prop} {i : Nat} (h : Q (.exit i) a w) : Exit.then K Q (.exit i) a w := h
theorem exit_in {id : Nat} (h : Q .normal a w) : Exit.inBlock id Q (.exit id) a w := by
  unfold Exit.inBlock; simp only [if_true]; exact h
end
end Go.Proofs.YtnnpokndajpkiaaDoor
