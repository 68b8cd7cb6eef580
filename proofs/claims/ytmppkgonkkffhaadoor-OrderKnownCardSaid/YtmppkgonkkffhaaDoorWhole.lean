/- A whole number's form. No condition; nothing of the program is named. -/
import Derived.Test.YtmppkgonkkffhaaDoorBase
namespace Go.Proofs.YtmppkgonkkffhaaDoor
open Go.RowKit
/-- What a whole number's form says of it. -/
def Whole (n : Int) : Prop := -9223372036854775808 ≤ n ∧ n < 9223372036854775808
theorem wf_of {n : Int} (h : (Lit.int .i64 n).wf = true) : Whole n := by
  unfold Whole
  simp [Lit.wf] at h
  constructor <;> first | exact h.1 | exact h.2 | omega
end Go.Proofs.YtmppkgonkkffhaaDoor
