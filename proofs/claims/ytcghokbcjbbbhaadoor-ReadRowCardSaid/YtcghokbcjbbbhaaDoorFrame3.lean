/- More walks over a frame that is not written out: rows of bytes built and made strings. No condition; nothing of the program's functions is named. -/
import Derived.Test.YtcghokbcjbbbhaaDoorFrame2
import Derived.Test.YtcghokbcjbbbhaaDoorJoinA
namespace Go.Proofs.YtcghokbcjbbbhaaDoor
open Go.RowKit
theorem infoB8 : (Tryd.prog.info? 5).map (fun i => (i.zero, i.size, i.bytes)) = some (some (.int .u8 0), 1, 1) := by kernel_rfl
section
variable {P : Program} {w : World} {o : Oper}
theorem run_bytes1 {ρ : Operand → Value} (t e : TypeId) (x : Operand) (ho : o.op = .buildSlice t 1 #[(0, x)]) (k : Nat) (hx : ρ x = .int .u8 (k : Int)) (ie : TypeInfo) (zz : Value)
    (hu : P.underlying t = some (.slice e)) (hie : P.info? e = some ie) (hz : ie.zero = some zz) (hsmall : ¬ 1 * ie.size > 2 ^ 24) (hpos : ¬ 1 * ie.size = 0)
    (h : Instr.fill (fun i => some (i * ie.size, ie.size)) ((Array.range (1 * ie.size)).map (zz.cells[· % zz.cells.size]!)) [(0, .int .u8 (k : Int))] = some (natV [k]).toArray) :
    (execOp ρ o).run P w = .ok (.value (.slice (some ⟨w.heap.size, 0, none⟩) 1 1)) (w.alloc (.cells (natV [k]).toArray e)) := by
  have hr := run_buildSlice (P := P) w t e 1 #[(0, .int .u8 (k : Int))] (natV [k]).toArray ie zz hu hie hz hsmall hpos h
  unfold execOp
  simp only [ho, List.map_toArray, List.map_cons, List.map_nil, hx, Sem.run_bind, hr, Result.andThen_ok, Sem.run_pure]
theorem run_bytes2 {ρ : Operand → Value} (t e : TypeId) (x y : Operand) (ho : o.op = .buildSlice t 2 #[(0, x), (1, y)]) (k j : Nat) (hx : ρ x = .int .u8 (k : Int)) (hy : ρ y = .int .u8 (j : Int)) (ie : TypeInfo) (zz : Value)
    (hu : P.underlying t = some (.slice e)) (hie : P.info? e = some ie) (hz : ie.zero = some zz) (hsmall : ¬ 2 * ie.size > 2 ^ 24) (hpos : ¬ 2 * ie.size = 0)
    (h : Instr.fill (fun i => some (i * ie.size, ie.size)) ((Array.range (2 * ie.size)).map (zz.cells[· % zz.cells.size]!)) [(0, .int .u8 (k : Int)), (1, .int .u8 (j : Int))] = some (natV [k, j]).toArray) :
    (execOp ρ o).run P w = .ok (.value (.slice (some ⟨w.heap.size, 0, none⟩) 2 2)) (w.alloc (.cells (natV [k, j]).toArray e)) := by
  have hr := run_buildSlice (P := P) w t e 2 #[(0, .int .u8 (k : Int)), (1, .int .u8 (j : Int))] (natV [k, j]).toArray ie zz hu hie hz hsmall hpos h
  unfold execOp
  simp only [ho, List.map_toArray, List.map_cons, List.map_nil, hx, hy, Sem.run_bind, hr, Result.andThen_ok, Sem.run_pure]
theorem run_conv {ρ : Operand → Value} (src dst : TypeId) (x : Operand) (ho : o.op = .convert src dst x) (v u : Value) (hx : ρ x = v) (hc : (convert src dst v).run P w = .ok u w) : (execOp ρ o).run P w = .ok (.value u) w := by
  unfold execOp
  simp only [ho, hx, Sem.run_bind, hc, Result.andThen_ok, Sem.run_pure]
end
end Go.Proofs.YtcghokbcjbbbhaaDoor
