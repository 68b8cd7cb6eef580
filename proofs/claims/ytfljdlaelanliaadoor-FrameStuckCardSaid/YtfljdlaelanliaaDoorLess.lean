/- Small lemmas that several laws' walks share. No condition; nothing of the program's functions is named. -/
import Derived.Test.YtfljdlaelanliaaDoorJoinC
import Derived.Test.YtfljdlaelanliaaDoorJoinE
import Derived.Test.YtfljdlaelanliaaDoorCardPks
namespace Go.Proofs.YtfljdlaelanliaaDoor
open Go.RowKit
theorem pk_zero : PkOk Pk.zero := by constructor <;> first | decide | (intro x hx; cases hx)
/-- What is asked of a packet that is written. -/
def GoodR (x : PkE) : Prop := Small x.1 ∧ PkOk x.1 ∧ 0 ≤ restP x.1
theorem take_good {A : List PkE} {k : Nat} {x : PkE} (h : A[k]? = some x) (h1 : ∀ y ∈ A.take k, GoodR y) (h2 : GoodR x) : ∀ y ∈ A.take (k + 1), GoodR y := by
  have : A.take (k + 1) = A.take k ++ [x] := by rw [List.take_add_one, h]; rfl
  rw [this]
  intro y hy
  rcases List.mem_append.1 hy with hy | hy
  · exact h1 y hy
  · simp at hy; subst hy; exact h2
def muI (n : Nat) (s : Nat) (a : Act) : Nat := match a.tmps[s]? with | some (.int .i64 i) => n - i.toNat | _ => 0
theorem muI_at {n L : Nat} {K : List (Nat × Value)} {a : Act} (F : FrL L K a) (s k : Nat) (h : K.lookup s = some (.int .i64 (k : Int))) : muI n s a = n - k := by
  unfold muI
  rw [F.at' s _ h]
  simp
end Go.Proofs.YtfljdlaelanliaaDoor
