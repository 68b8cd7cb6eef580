import Derived.Test.YtehpihmgjbmoaaaGreatDoorJoinZC
import Derived.Test.YtehpihmgjbmoaaaGreatDoorJoinZB
import Derived.Test.YtehpihmgjbmoaaaGreatDoorJoinA
namespace Go.Proofs.YtehpihmgjbmoaaaGreatDoor
open Go.RowKit
theorem ac_wf {W:World} {q:Ac} (h:AcArg W q):AcWf q:=⟨h.cn,fun p hp=>have t:=(h.it.each p hp).ty;⟨t.ty,t.qos,t.id,t.level,t.keep,t.wqos,t.code,t.each⟩⟩
theorem ac_in {W w:World} {q:Ac} (h:AcArg W q) (k:Below W.heap.size W w):AcIn w q:=⟨h.it.row.below k,fun p hp=>(h.it.each p hp).row.below k,fun p hp=>by
  have h1:=(h.it.each p hp).cap;have h2:=(h.it.each p hp).max;unfold maxLen at h2;omega⟩
end Go.Proofs.YtehpihmgjbmoaaaGreatDoor
namespace Go.Proofs.YtehpihmgjbmoaaaGreatDoor
open Go.RowKit
end Go.Proofs.YtehpihmgjbmoaaaGreatDoor
