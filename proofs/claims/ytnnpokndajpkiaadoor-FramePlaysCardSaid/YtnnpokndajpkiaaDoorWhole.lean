import Derived.Test.YtnnpokndajpkiaaDoorBase
namespace Go.Proofs.YtnnpokndajpkiaaDoor
open Go.RowKit
def Whole (n : Int) : Prop := -9223372036854775808 ≤ n ∧ n < 9223372036854775808
theorem wf_of {n : Int} (h : (Lit.int .i64 n).wf = true) : Whole n := by
  unfold Whole; simp [Lit.wf] at h
  constructor <;> first | exact h.1 | exact h.2 | omega
end Go.Proofs.YtnnpokndajpkiaaDoor
