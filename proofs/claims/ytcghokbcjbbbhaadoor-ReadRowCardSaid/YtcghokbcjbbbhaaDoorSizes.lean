/- Types' sizes in cells; a composite value built. No condition; nothing of the program's functions is named. -/
import Derived.Test.YtcghokbcjbbbhaaDoorJoinC
namespace Go.Proofs.YtcghokbcjbbbhaaDoor
open Go.RowKit
theorem z_u8 : (Tryd.prog.info? 5).map (·.size) = some 1 := by kernel_rfl
theorem z_u16 : (Tryd.prog.info? 22).map (·.size) = some 1 := by kernel_rfl
theorem z_bool : (Tryd.prog.info? 4).map (·.size) = some 1 := by kernel_rfl
theorem z_str : (Tryd.prog.info? 9).map (·.size) = some 1 := by kernel_rfl
theorem z_subs : (Tryd.prog.info? 25).map (·.size) = some 1 := by kernel_rfl
theorem z_msg : (Tryd.prog.info? 24).map (·.size) = some 4 := by kernel_rfl
theorem run_build_to {P : Program} {w : World} {o : Oper} {ρ : Operand → Value} {t : TypeId} {parts : Array (Nat × Operand)} {cells : Array Value} (ho : o.op = .build t parts) (hf : P.built t (parts.map fun (i, x) => (i, ρ x)).toList = some cells) : (execOp ρ o).run P w = .ok (.value (.agg cells)) w := by
  unfold execOp
  simp only [ho, Sem.run_bind, run_build w t _ cells hf, Result.andThen_ok, Sem.run_pure]
end Go.Proofs.YtcghokbcjbbbhaaDoor
