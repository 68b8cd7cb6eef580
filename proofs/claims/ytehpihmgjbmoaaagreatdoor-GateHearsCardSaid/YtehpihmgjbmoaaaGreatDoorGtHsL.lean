import Derived.Test.YtehpihmgjbmoaaaGreatDoorGtHs
import Derived.Test.YtehpihmgjbmoaaaGreatDoorJoinZD
namespace Go.Proofs.YtehpihmgjbmoaaaGreatDoor
open Go.RowKit
theorem law20_GateHears (W u m:Int) (b:Option Addr) (c:Nat) (L:List Ac) (w:World) (hE:Env w) (_:Whole W) (_:Whole u) (_:Whole m) (hn:L.length≤9223372036854775807) (ha:CellsA w b (acCs L)) (hq:∀ x ∈ L,AcArg w x):Calls Tryz.prog 5 #[.int .i64 W,.int .i64 u,.int .i64 m,.slice b L.length c] w fun e w'=>e=.returned (.bool true)∧Below w.heap.size w w' :=
  rdc_of hE (gateHearsS (fun _ h=>⟨ha.below h,fun x hx=>ac_in (hq x hx) h⟩) hn (fun q hx=>ac_wf (hq q hx)))
end Go.Proofs.YtehpihmgjbmoaaaGreatDoor
