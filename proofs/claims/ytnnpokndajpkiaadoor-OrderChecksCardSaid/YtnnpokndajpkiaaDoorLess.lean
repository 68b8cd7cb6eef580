import Derived.Test.YtnnpokndajpkiaaDoorJoinC
import Derived.Test.YtnnpokndajpkiaaDoorJoinB
import Derived.Test.YtnnpokndajpkiaaDoorCardPk
import Derived.Test.YtnnpokndajpkiaaDoorWriteAll
namespace Go.Proofs.YtnnpokndajpkiaaDoor
open Go.RowKit
def muI (n : Nat) (s : Nat) (a : Act) : Nat := match a.tmps[s]? with | some (.int .i64 i) => n - i.toNat | _ => 0
theorem muI_at {n L : Nat} {K : List (Nat × Value)} {a : Act} (F : FrL L K a) (s k : Nat) (h : K.lookup s = some (.int .i64 (k : Int))) : muI n s a = n - k := by
  unfold muI; rw [F.at' s _ h]; simp
end Go.Proofs.YtnnpokndajpkiaaDoor
