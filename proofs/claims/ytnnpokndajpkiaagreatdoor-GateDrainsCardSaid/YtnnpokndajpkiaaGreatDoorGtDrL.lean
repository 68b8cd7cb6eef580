import Derived.Test.YtnnpokndajpkiaaGreatDoorGtDr
import Derived.Test.YtnnpokndajpkiaaGreatDoorCardActs
import Derived.Test.YtnnpokndajpkiaaGreatDoorCard
import Derived.Test.YtnnpokndajpkiaaGreatDoorWhole
namespace Go.Proofs.YtnnpokndajpkiaaGreatDoor
open Go.RowKit
theorem ac_wf {W : World} {q : Ac} (h : AcArg W q) : AcWf q := ⟨h.cn, fun p hp => have t := (h.it.each p hp).ty; ⟨t.ty, t.qos, t.id, t.level, t.keep, t.wqos, t.code, t.each⟩⟩
theorem ac_in {W w : World} {q : Ac} (h : AcArg W q) (k : Below W.heap.size W w) : AcIn w q := ⟨h.it.row.below k, fun p hp => (h.it.each p hp).row.below k, fun p hp => by
  have h1 := (h.it.each p hp).cap; have h2 := (h.it.each p hp).max; unfold maxLen at h2; omega⟩
theorem law20_GateDrains (W u m : Int) (b : Option Addr) (c : Nat) (L : List Ac) (cn : Int) (w : World) (hE : Env w) (_ : Whole W) (_ : Whole u) (_ : Whole m) (hn : L.length ≤ 9223372036854775807) (ha : CellsA w b (acCs L)) (hq : ∀ x ∈ L, AcArg w x) (_ : Whole cn) : Calls Tryz.prog 7 #[.int .i64 W, .int .i64 u, .int .i64 m, .slice b L.length c, .int .i64 cn] w fun e w' => e = .returned (.bool true) ∧ Below w.heap.size w w' :=
  rdc_of hE (gateDrainsS (fun w' h => ⟨ha.below h, fun x hx => ac_in (hq x hx) h⟩) hn (fun q hx => ac_wf (hq q hx)))
end Go.Proofs.YtnnpokndajpkiaaGreatDoor
