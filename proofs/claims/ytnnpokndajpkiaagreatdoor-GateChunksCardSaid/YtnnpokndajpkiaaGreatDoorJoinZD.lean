import Derived.Test.YtnnpokndajpkiaaGreatDoorGtDr
import Derived.Test.YtnnpokndajpkiaaGreatDoorJoinZB
import Derived.Test.YtnnpokndajpkiaaGreatDoorCard
import Derived.Test.YtnnpokndajpkiaaGreatDoorWhole
import Derived.Test.YtnnpokndajpkiaaGreatDoorGtCh
namespace Go.Proofs.YtnnpokndajpkiaaGreatDoor
open Go.RowKit
theorem ac_wf {W : World} {q : Ac} (h : AcArg W q) : AcWf q := ⟨h.cn, fun p hp => have t := (h.it.each p hp).ty; ⟨t.ty, t.qos, t.id, t.level, t.keep, t.wqos, t.code, t.each⟩⟩
theorem ac_in {W w : World} {q : Ac} (h : AcArg W q) (k : Below W.heap.size W w) : AcIn w q := ⟨h.it.row.below k, fun p hp => (h.it.each p hp).row.below k, fun p hp => by
  have h1 := (h.it.each p hp).cap; have h2 := (h.it.each p hp).max; unfold maxLen at h2; omega⟩
end Go.Proofs.YtnnpokndajpkiaaGreatDoor
namespace Go.Proofs.YtnnpokndajpkiaaGreatDoor
open Go.RowKit
theorem acI_arg {W : World} {i : Im} (h : ImArg W i) : AcArg W (acI i) := ⟨show 0 < 256 by decide, show (0 : Int) < 9223372036854775808 by decide, show (0 : Int) < 9223372036854775808 by decide, h⟩
theorem law20_GateChunks (m : Int) (s : ByteArray) (b : Option Addr) (c : Nat) (Z : Bs) (b2 : Option Addr) (c2 : Nat) (L : List Im) (w : World) (hE : Env w) (_ : Whole m) (hz : Z.length ≤ 9223372036854775807) (haz : CellsA w b (u8V Z)) (hn : L.length ≤ 9223372036854775807) (ha : CellsA w b2 (itCs L)) (hq : ∀ x ∈ L, ImArg w x) : Calls Tryz.prog 3 #[.int .i64 m, .string s, .slice b Z.length c, .slice b2 L.length c2] w fun e w' => e = .returned (.bool true) ∧ Below w.heap.size w w' :=
  rdc_of hE (gateChunksS (fun _ h => haz.below h) hz (fun _ h => ⟨ha.below h, fun x hx => ac_in (acI_arg (hq x hx)) h⟩) hn (fun q hx => ac_wf (acI_arg (hq q hx))))
end Go.Proofs.YtnnpokndajpkiaaGreatDoor
