/- The walks of the reference's Same and Copy. Conditions: a machine's bounds on the packets' sizes; their lists in their cells. -/
import Derived.Test.YtfljdlaelanliaaDoorPacketCopy
import Derived.Test.YtfljdlaelanliaaDoorJoinC
import Derived.Deep.MidRow
namespace Go.Proofs.YtfljdlaelanliaaDoor
open Go.RowKit

theorem str_ne (x y : ByteArray) (h : (x.toList != y.toList) = false) : x = y := by
  rw [bne_eq_false_iff_eq, Lib.toList_data, Lib.toList_data] at h
  exact bl_inj h
theorem nat_ne (x y : Nat) (h : ((x : Int) != (y : Int)) = false) : x = y := by
  rw [bne_eq_false_iff_eq] at h
  omega
theorem msg_size : (Tryd.prog.info? 24).map (·.size) = some 4 := by kernel_rfl
theorem run_load_mid {P : Program} {w : World} {o : Oper} {ρ : Operand → Value} {ty : TypeId} {x : Operand} {b f : Nat} {cs : Array Value} {d : TypeDesc} (ho : o.op = .load ty x) (hx : ρ x = .pointer (some ⟨b, f, none⟩)) (hc : w.rangeAt b f cs.toList)
    (hu : P.underlying ty = some d) (hd : d.isRow = true) (hi : (P.info? ty).map (·.size) = some cs.toList.length) : (execOp ρ o).run P w = .ok (.value (.agg cs)) w := by
  unfold execOp
  simp only [ho, hx, Instr.loadAt, Instr.sureAddr, Sem.run_bind, Sem.run_pure, Result.andThen_ok, run_loadVar_mid w b f ty cs.toList d hc hu hd hi]
theorem box_range {w : World} {X : Nat} {cs : Array Value} {T : TypeId} (h : BoxAt w X cs T) (o n : Nat) : w.rangeAt X o ((cs.toList.drop o).take n) := fun j v hv => by
  rw [h.cells]
  rw [List.getElem?_take] at hv
  split at hv
  · rw [List.getElem?_drop] at hv
    simpa using hv
  · cases hv
set_option maxRecDepth 100000 in
set_option maxHeartbeats 8000000 in
theorem sameR_1 (p q : Pk) (a a' : Option Addr) (c c' : Nat) (w : World) (hE : Env w) (_hp : PkOk p) (_hq : PkOk q) (ha : CellsA w a (subCells p.subs)) (hb : CellsA w a' (subCells q.subs)) (hB : ((((((((((((p.ty : Int) != (q.ty : Int)) || (p.dup != q.dup)) || ((p.qos : Int) != (q.qos : Int))) || (p.ret != q.ret)) || ((p.id : Int) != (q.id : Int))) || (p.topic.toList != q.topic.toList)) || (p.payload.toList != q.payload.toList)) || ((p.level : Int) != (q.level : Int))) || (p.clean != q.clean)) || ((p.keep : Int) != (q.keep : Int))) || (p.client.toList != q.client.toList)) = true) : Calls Tryd.prog 24 #[.agg (pkV p a c), .agg (pkV q a' c')] w fun e w' => e = .returned (.bool false) ∧ Below w.heap.size w w' := by
  have HK := Lib.hid (((Keep.begin hE [(a, subCells p.subs), (a', subCells q.subs)] (by intro r hr; simp at hr; rcases hr with rfl | rfl; exact ha; exact hb)).alloc' (pkV p a c) 27 w.heap.size rfl).alloc' (pkV q a' c') 27 (w.heap.size + 1) (by simp))
  clear _hp _hq hE ha hb
  go_enter Tryd.func24, Tryd.ntmps24
  go_upto_region 1 with (fail)
  show Code.wp _ _ _ _ ((w.alloc (.cells (pkV p a c) 27)).alloc (.cells (pkV q a' c') 27))
  generalize World.alloc (World.alloc w _) _ = w2 at HK ⊢
  have c0 : w2.cell? ⟨w.heap.size, 0, none⟩ = some (.int .u8 (p.ty : Int)) := (HK.out.at 1 rfl).cells 0
  have d0 : w2.cell? ⟨w.heap.size + 1, 0, none⟩ = some (.int .u8 (q.ty : Int)) := (HK.out.at 0 rfl).cells 0
  have c1 : w2.cell? ⟨w.heap.size, 1, none⟩ = some (.bool p.dup) := (HK.out.at 1 rfl).cells 1
  have d1 : w2.cell? ⟨w.heap.size + 1, 1, none⟩ = some (.bool q.dup) := (HK.out.at 0 rfl).cells 1
  have c2 : w2.cell? ⟨w.heap.size, 2, none⟩ = some (.int .u8 (p.qos : Int)) := (HK.out.at 1 rfl).cells 2
  have d2 : w2.cell? ⟨w.heap.size + 1, 2, none⟩ = some (.int .u8 (q.qos : Int)) := (HK.out.at 0 rfl).cells 2
  have c3 : w2.cell? ⟨w.heap.size, 3, none⟩ = some (.bool p.ret) := (HK.out.at 1 rfl).cells 3
  have d3 : w2.cell? ⟨w.heap.size + 1, 3, none⟩ = some (.bool q.ret) := (HK.out.at 0 rfl).cells 3
  have c4 : w2.cell? ⟨w.heap.size, 4, none⟩ = some (.int .u16 (p.id : Int)) := (HK.out.at 1 rfl).cells 4
  have d4 : w2.cell? ⟨w.heap.size + 1, 4, none⟩ = some (.int .u16 (q.id : Int)) := (HK.out.at 0 rfl).cells 4
  have c5 : w2.cell? ⟨w.heap.size, 5, none⟩ = some (.string p.topic) := (HK.out.at 1 rfl).cells 5
  have d5 : w2.cell? ⟨w.heap.size + 1, 5, none⟩ = some (.string q.topic) := (HK.out.at 0 rfl).cells 5
  have c6 : w2.cell? ⟨w.heap.size, 6, none⟩ = some (.string p.payload) := (HK.out.at 1 rfl).cells 6
  have d6 : w2.cell? ⟨w.heap.size + 1, 6, none⟩ = some (.string q.payload) := (HK.out.at 0 rfl).cells 6
  have c7 : w2.cell? ⟨w.heap.size, 7, none⟩ = some (.int .u8 (p.level : Int)) := (HK.out.at 1 rfl).cells 7
  have d7 : w2.cell? ⟨w.heap.size + 1, 7, none⟩ = some (.int .u8 (q.level : Int)) := (HK.out.at 0 rfl).cells 7
  have c8 : w2.cell? ⟨w.heap.size, 8, none⟩ = some (.bool p.clean) := (HK.out.at 1 rfl).cells 8
  have d8 : w2.cell? ⟨w.heap.size + 1, 8, none⟩ = some (.bool q.clean) := (HK.out.at 0 rfl).cells 8
  have c9 : w2.cell? ⟨w.heap.size, 9, none⟩ = some (.int .u16 (p.keep : Int)) := (HK.out.at 1 rfl).cells 9
  have d9 : w2.cell? ⟨w.heap.size + 1, 9, none⟩ = some (.int .u16 (q.keep : Int)) := (HK.out.at 0 rfl).cells 9
  have c10 : w2.cell? ⟨w.heap.size, 10, none⟩ = some (.string p.client) := (HK.out.at 1 rfl).cells 10
  have d10 : w2.cell? ⟨w.heap.size + 1, 10, none⟩ = some (.string q.client) := (HK.out.at 0 rfl).cells 10
  rename_i hK9
  refine wp_region_lit ?_
  refine wpList_cmp0 (X := .pointer (some ⟨w.heap.size, 0, none⟩)) (Y := .pointer (some ⟨w.heap.size + 1, 0, none⟩)) (v1 := .pointer (some ⟨w.heap.size, 0, none⟩)) (v2 := .int .u8 (p.ty : Int)) (v3 := .pointer (some ⟨w.heap.size + 1, 0, none⟩)) (v4 := .int .u8 (q.ty : Int)) (d := ((p.ty : Int) != (q.ty : Int))) (n := 169) 6 ⟨rfl, rfl, rfl, rfl, rfl, rfl, rfl, rfl, rfl, rfl, rfl, rfl, rfl⟩ (by decide) rfl rfl rfl rfl (by intro ρ h; go_simp) (by intro ρ h; go_simp) (by intro ρ h; go_simp) (by intro ρ h; go_simp) (by intro ρ h h2; go_simp; all_goals simp [bne]) ?_
  intro a9 F9
  refine wpList_cmp (X := .pointer (some ⟨w.heap.size, 0, none⟩)) (Y := .pointer (some ⟨w.heap.size + 1, 0, none⟩)) (v1 := .pointer (some ⟨w.heap.size, 1, none⟩)) (v2 := .bool p.dup) (v3 := .pointer (some ⟨w.heap.size + 1, 1, none⟩)) (v4 := .bool q.dup) (d := (p.dup != q.dup)) (n := 169) 5 11 12 ⟨rfl, rfl, rfl, rfl, rfl, rfl, rfl, rfl, rfl, rfl, rfl, rfl, by kernel_rfl, rfl⟩ (by decide) F9 (by intro ρ h; go_simp) (by intro ρ h; go_simp) (by intro ρ h; go_simp) (by intro ρ h; go_simp) (by intro ρ h h2; go_simp; all_goals simp [bne]) ?_
  clear F9 a9
  intro a8 F8
  refine wpList_mv 17 18 rfl rfl rfl (by decide) F8 ?_
  clear F8 a8
  intro a9 F9
  refine wpList_cmp (X := .pointer (some ⟨w.heap.size, 0, none⟩)) (Y := .pointer (some ⟨w.heap.size + 1, 0, none⟩)) (v1 := .pointer (some ⟨w.heap.size, 2, none⟩)) (v2 := .int .u8 (p.qos : Int)) (v3 := .pointer (some ⟨w.heap.size + 1, 2, none⟩)) (v4 := .int .u8 (q.qos : Int)) (d := ((p.qos : Int) != (q.qos : Int))) (n := 169) 12 18 19 ⟨rfl, rfl, rfl, rfl, rfl, rfl, rfl, rfl, rfl, rfl, rfl, rfl, by kernel_rfl, rfl⟩ (by decide) F9 (by intro ρ h; go_simp) (by intro ρ h; go_simp) (by intro ρ h; go_simp) (by intro ρ h; go_simp) (by intro ρ h h2; go_simp; all_goals simp [bne]) ?_
  clear F9 a9
  intro a8 F8
  refine wpList_mv 24 25 rfl rfl rfl (by decide) F8 ?_
  clear F8 a8
  intro a9 F9
  refine wpList_cmp (X := .pointer (some ⟨w.heap.size, 0, none⟩)) (Y := .pointer (some ⟨w.heap.size + 1, 0, none⟩)) (v1 := .pointer (some ⟨w.heap.size, 3, none⟩)) (v2 := .bool p.ret) (v3 := .pointer (some ⟨w.heap.size + 1, 3, none⟩)) (v4 := .bool q.ret) (d := (p.ret != q.ret)) (n := 169) 19 25 26 ⟨rfl, rfl, rfl, rfl, rfl, rfl, rfl, rfl, rfl, rfl, rfl, rfl, by kernel_rfl, rfl⟩ (by decide) F9 (by intro ρ h; go_simp) (by intro ρ h; go_simp) (by intro ρ h; go_simp) (by intro ρ h; go_simp) (by intro ρ h h2; go_simp; all_goals simp [bne]) ?_
  clear F9 a9
  intro a8 F8
  refine wpList_mv 31 32 rfl rfl rfl (by decide) F8 ?_
  clear F8 a8
  intro a9 F9
  refine wpList_cmp (X := .pointer (some ⟨w.heap.size, 0, none⟩)) (Y := .pointer (some ⟨w.heap.size + 1, 0, none⟩)) (v1 := .pointer (some ⟨w.heap.size, 4, none⟩)) (v2 := .int .u16 (p.id : Int)) (v3 := .pointer (some ⟨w.heap.size + 1, 4, none⟩)) (v4 := .int .u16 (q.id : Int)) (d := ((p.id : Int) != (q.id : Int))) (n := 169) 26 32 33 ⟨rfl, rfl, rfl, rfl, rfl, rfl, rfl, rfl, rfl, rfl, rfl, rfl, by kernel_rfl, rfl⟩ (by decide) F9 (by intro ρ h; go_simp) (by intro ρ h; go_simp) (by intro ρ h; go_simp) (by intro ρ h; go_simp) (by intro ρ h h2; go_simp; all_goals simp [bne]) ?_
  clear F9 a9
  intro a8 F8
  refine wpList_mv 38 39 rfl rfl rfl (by decide) F8 ?_
  clear F8 a8
  intro a9 F9
  refine wpList_cmp (X := .pointer (some ⟨w.heap.size, 0, none⟩)) (Y := .pointer (some ⟨w.heap.size + 1, 0, none⟩)) (v1 := .pointer (some ⟨w.heap.size, 5, none⟩)) (v2 := .string p.topic) (v3 := .pointer (some ⟨w.heap.size + 1, 5, none⟩)) (v4 := .string q.topic) (d := (p.topic.toList != q.topic.toList)) (n := 169) 33 39 40 ⟨rfl, rfl, rfl, rfl, rfl, rfl, rfl, rfl, rfl, rfl, rfl, rfl, by kernel_rfl, rfl⟩ (by decide) F9 (by intro ρ h; go_simp) (by intro ρ h; go_simp) (by intro ρ h; go_simp) (by intro ρ h; go_simp) (by intro ρ h h2; go_simp; all_goals simp [bne]) ?_
  clear F9 a9
  intro a8 F8
  refine wpList_mv 45 46 rfl rfl rfl (by decide) F8 ?_
  clear F8 a8
  intro a9 F9
  refine wpList_cmp (X := .pointer (some ⟨w.heap.size, 0, none⟩)) (Y := .pointer (some ⟨w.heap.size + 1, 0, none⟩)) (v1 := .pointer (some ⟨w.heap.size, 6, none⟩)) (v2 := .string p.payload) (v3 := .pointer (some ⟨w.heap.size + 1, 6, none⟩)) (v4 := .string q.payload) (d := (p.payload.toList != q.payload.toList)) (n := 169) 40 46 47 ⟨rfl, rfl, rfl, rfl, rfl, rfl, rfl, rfl, rfl, rfl, rfl, rfl, by kernel_rfl, rfl⟩ (by decide) F9 (by intro ρ h; go_simp) (by intro ρ h; go_simp) (by intro ρ h; go_simp) (by intro ρ h; go_simp) (by intro ρ h h2; go_simp; all_goals simp [bne]) ?_
  clear F9 a9
  intro a8 F8
  refine wpList_mv 52 53 rfl rfl rfl (by decide) F8 ?_
  clear F8 a8
  intro a9 F9
  refine wpList_cmp (X := .pointer (some ⟨w.heap.size, 0, none⟩)) (Y := .pointer (some ⟨w.heap.size + 1, 0, none⟩)) (v1 := .pointer (some ⟨w.heap.size, 7, none⟩)) (v2 := .int .u8 (p.level : Int)) (v3 := .pointer (some ⟨w.heap.size + 1, 7, none⟩)) (v4 := .int .u8 (q.level : Int)) (d := ((p.level : Int) != (q.level : Int))) (n := 169) 47 53 54 ⟨rfl, rfl, rfl, rfl, rfl, rfl, rfl, rfl, rfl, rfl, rfl, rfl, by kernel_rfl, rfl⟩ (by decide) F9 (by intro ρ h; go_simp) (by intro ρ h; go_simp) (by intro ρ h; go_simp) (by intro ρ h; go_simp) (by intro ρ h h2; go_simp; all_goals simp [bne]) ?_
  clear F9 a9
  intro a8 F8
  refine wpList_mv 59 60 rfl rfl rfl (by decide) F8 ?_
  clear F8 a8
  intro a9 F9
  refine wpList_cmp (X := .pointer (some ⟨w.heap.size, 0, none⟩)) (Y := .pointer (some ⟨w.heap.size + 1, 0, none⟩)) (v1 := .pointer (some ⟨w.heap.size, 8, none⟩)) (v2 := .bool p.clean) (v3 := .pointer (some ⟨w.heap.size + 1, 8, none⟩)) (v4 := .bool q.clean) (d := (p.clean != q.clean)) (n := 169) 54 60 61 ⟨rfl, rfl, rfl, rfl, rfl, rfl, rfl, rfl, rfl, rfl, rfl, rfl, by kernel_rfl, rfl⟩ (by decide) F9 (by intro ρ h; go_simp) (by intro ρ h; go_simp) (by intro ρ h; go_simp) (by intro ρ h; go_simp) (by intro ρ h h2; go_simp; all_goals simp [bne]) ?_
  clear F9 a9
  intro a8 F8
  refine wpList_mv 66 67 rfl rfl rfl (by decide) F8 ?_
  clear F8 a8
  intro a9 F9
  refine wpList_cmp (X := .pointer (some ⟨w.heap.size, 0, none⟩)) (Y := .pointer (some ⟨w.heap.size + 1, 0, none⟩)) (v1 := .pointer (some ⟨w.heap.size, 9, none⟩)) (v2 := .int .u16 (p.keep : Int)) (v3 := .pointer (some ⟨w.heap.size + 1, 9, none⟩)) (v4 := .int .u16 (q.keep : Int)) (d := ((p.keep : Int) != (q.keep : Int))) (n := 169) 61 67 68 ⟨rfl, rfl, rfl, rfl, rfl, rfl, rfl, rfl, rfl, rfl, rfl, rfl, by kernel_rfl, rfl⟩ (by decide) F9 (by intro ρ h; go_simp) (by intro ρ h; go_simp) (by intro ρ h; go_simp) (by intro ρ h; go_simp) (by intro ρ h h2; go_simp; all_goals simp [bne]) ?_
  clear F9 a9
  intro a8 F8
  refine wpList_mv 73 74 rfl rfl rfl (by decide) F8 ?_
  clear F8 a8
  intro a9 F9
  refine wpList_cmp (X := .pointer (some ⟨w.heap.size, 0, none⟩)) (Y := .pointer (some ⟨w.heap.size + 1, 0, none⟩)) (v1 := .pointer (some ⟨w.heap.size, 10, none⟩)) (v2 := .string p.client) (v3 := .pointer (some ⟨w.heap.size + 1, 10, none⟩)) (v4 := .string q.client) (d := (p.client.toList != q.client.toList)) (n := 169) 68 74 75 ⟨rfl, rfl, rfl, rfl, rfl, rfl, rfl, rfl, rfl, rfl, rfl, rfl, by kernel_rfl, rfl⟩ (by decide) F9 (by intro ρ h; go_simp) (by intro ρ h; go_simp) (by intro ρ h; go_simp) (by intro ρ h; go_simp) (by intro ρ h h2; go_simp; all_goals simp [bne]) ?_
  clear F9 a9
  intro a9 F9
  obtain ⟨x, hx, hx2, hx3, hxt⟩ := F9.lit
  rw [hB] at hxt
  rw [show ((List.range 169).map x).toArray = #[x 0, x 1, x 2, x 3, x 4, x 5, x 6, x 7, x 8, x 9, x 10, x 11, x 12, x 13, x 14, x 15, x 16, x 17, x 18, x 19, x 20, x 21, x 22, x 23, x 24, x 25, x 26, x 27, x 28, x 29, x 30, x 31, x 32, x 33, x 34, x 35, x 36, x 37, x 38, x 39, x 40, x 41, x 42, x 43, x 44, x 45, x 46, x 47, x 48, x 49, x 50, x 51, x 52, x 53, x 54, x 55, x 56, x 57, x 58, x 59, x 60, x 61, x 62, x 63, x 64, x 65, x 66, x 67, x 68, x 69, x 70, x 71, x 72, x 73, x 74, x 75, x 76, x 77, x 78, x 79, x 80, x 81, x 82, x 83, x 84, x 85, x 86, x 87, x 88, x 89, x 90, x 91, x 92, x 93, x 94, x 95, x 96, x 97, x 98, x 99, x 100, x 101, x 102, x 103, x 104, x 105, x 106, x 107, x 108, x 109, x 110, x 111, x 112, x 113, x 114, x 115, x 116, x 117, x 118, x 119, x 120, x 121, x 122, x 123, x 124, x 125, x 126, x 127, x 128, x 129, x 130, x 131, x 132, x 133, x 134, x 135, x 136, x 137, x 138, x 139, x 140, x 141, x 142, x 143, x 144, x 145, x 146, x 147, x 148, x 149, x 150, x 151, x 152, x 153, x 154, x 155, x 156, x 157, x 158, x 159, x 160, x 161, x 162, x 163, x 164, x 165, x 166, x 167, x 168] from by kernel_rfl, hx2, hx3, hxt] at hx
  subst hx
  clear hx2 hx3 hxt F9
  refine wpList_nil ?_
  refine hK9 _ _ ?_
  clear hK9
  go_wp2_with fail
  go_ret
  exact ⟨rfl, HK.out.low⟩
set_option maxRecDepth 100000 in
set_option maxHeartbeats 8000000 in
theorem sameR_2 (p q : Pk) (a a' : Option Addr) (c c' : Nat) (w : World) (hE : Env w) (hp : PkOk p) (hq : PkOk q) (ha : CellsA w a (subCells p.subs)) (hb : CellsA w a' (subCells q.subs)) (hB : ((((((((((((p.ty : Int) != (q.ty : Int)) || (p.dup != q.dup)) || ((p.qos : Int) != (q.qos : Int))) || (p.ret != q.ret)) || ((p.id : Int) != (q.id : Int))) || (p.topic.toList != q.topic.toList)) || (p.payload.toList != q.payload.toList)) || ((p.level : Int) != (q.level : Int))) || (p.clean != q.clean)) || ((p.keep : Int) != (q.keep : Int))) || (p.client.toList != q.client.toList)) = false) (hB2 : (((((((((p.hasWill != q.hasWill) || (!decide (p.wtopic = q.wtopic ∧ p.wpayload = q.wpayload ∧ p.wqos = q.wqos ∧ p.wret = q.wret))) || (p.hasUser != q.hasUser)) || (p.hasPass != q.hasPass)) || (p.user.toList != q.user.toList)) || (p.pass.toList != q.pass.toList)) || (p.present != q.present)) || ((p.code : Int) != (q.code : Int))) || (p.codes.toList != q.codes.toList)) = true) : Calls Tryd.prog 24 #[.agg (pkV p a c), .agg (pkV q a' c')] w fun e w' => e = .returned (.bool false) ∧ Below w.heap.size w w' := by
  have HK := Lib.hid (((Keep.begin hE [(a, subCells p.subs), (a', subCells q.subs)] (by intro r hr; simp at hr; rcases hr with rfl | rfl; exact ha; exact hb)).alloc' (pkV p a c) 27 w.heap.size rfl).alloc' (pkV q a' c') 27 (w.heap.size + 1) (by simp))
  have hme := fun w => (msg_eq p.wtopic p.wpayload q.wtopic q.wpayload p.wqos q.wqos p.wret q.wret hp.wqos hq.wqos (le_max hp.wtopic) (le_max hp.wpayload) (le_max hq.wtopic) (le_max hq.wpayload) w).2
  clear hp hq hE ha hb
  go_enter Tryd.func24, Tryd.ntmps24
  go_upto_region 1 with (fail)
  show Code.wp _ _ _ _ ((w.alloc (.cells (pkV p a c) 27)).alloc (.cells (pkV q a' c') 27))
  generalize World.alloc (World.alloc w _) _ = w2 at HK ⊢
  have c0 : w2.cell? ⟨w.heap.size, 0, none⟩ = some (.int .u8 (p.ty : Int)) := (HK.out.at 1 rfl).cells 0
  have d0 : w2.cell? ⟨w.heap.size + 1, 0, none⟩ = some (.int .u8 (q.ty : Int)) := (HK.out.at 0 rfl).cells 0
  have c1 : w2.cell? ⟨w.heap.size, 1, none⟩ = some (.bool p.dup) := (HK.out.at 1 rfl).cells 1
  have d1 : w2.cell? ⟨w.heap.size + 1, 1, none⟩ = some (.bool q.dup) := (HK.out.at 0 rfl).cells 1
  have c2 : w2.cell? ⟨w.heap.size, 2, none⟩ = some (.int .u8 (p.qos : Int)) := (HK.out.at 1 rfl).cells 2
  have d2 : w2.cell? ⟨w.heap.size + 1, 2, none⟩ = some (.int .u8 (q.qos : Int)) := (HK.out.at 0 rfl).cells 2
  have c3 : w2.cell? ⟨w.heap.size, 3, none⟩ = some (.bool p.ret) := (HK.out.at 1 rfl).cells 3
  have d3 : w2.cell? ⟨w.heap.size + 1, 3, none⟩ = some (.bool q.ret) := (HK.out.at 0 rfl).cells 3
  have c4 : w2.cell? ⟨w.heap.size, 4, none⟩ = some (.int .u16 (p.id : Int)) := (HK.out.at 1 rfl).cells 4
  have d4 : w2.cell? ⟨w.heap.size + 1, 4, none⟩ = some (.int .u16 (q.id : Int)) := (HK.out.at 0 rfl).cells 4
  have c5 : w2.cell? ⟨w.heap.size, 5, none⟩ = some (.string p.topic) := (HK.out.at 1 rfl).cells 5
  have d5 : w2.cell? ⟨w.heap.size + 1, 5, none⟩ = some (.string q.topic) := (HK.out.at 0 rfl).cells 5
  have c6 : w2.cell? ⟨w.heap.size, 6, none⟩ = some (.string p.payload) := (HK.out.at 1 rfl).cells 6
  have d6 : w2.cell? ⟨w.heap.size + 1, 6, none⟩ = some (.string q.payload) := (HK.out.at 0 rfl).cells 6
  have c7 : w2.cell? ⟨w.heap.size, 7, none⟩ = some (.int .u8 (p.level : Int)) := (HK.out.at 1 rfl).cells 7
  have d7 : w2.cell? ⟨w.heap.size + 1, 7, none⟩ = some (.int .u8 (q.level : Int)) := (HK.out.at 0 rfl).cells 7
  have c8 : w2.cell? ⟨w.heap.size, 8, none⟩ = some (.bool p.clean) := (HK.out.at 1 rfl).cells 8
  have d8 : w2.cell? ⟨w.heap.size + 1, 8, none⟩ = some (.bool q.clean) := (HK.out.at 0 rfl).cells 8
  have c9 : w2.cell? ⟨w.heap.size, 9, none⟩ = some (.int .u16 (p.keep : Int)) := (HK.out.at 1 rfl).cells 9
  have d9 : w2.cell? ⟨w.heap.size + 1, 9, none⟩ = some (.int .u16 (q.keep : Int)) := (HK.out.at 0 rfl).cells 9
  have c10 : w2.cell? ⟨w.heap.size, 10, none⟩ = some (.string p.client) := (HK.out.at 1 rfl).cells 10
  have d10 : w2.cell? ⟨w.heap.size + 1, 10, none⟩ = some (.string q.client) := (HK.out.at 0 rfl).cells 10
  rename_i hK9
  refine wp_region_lit ?_
  refine wpList_cmp0 (X := .pointer (some ⟨w.heap.size, 0, none⟩)) (Y := .pointer (some ⟨w.heap.size + 1, 0, none⟩)) (v1 := .pointer (some ⟨w.heap.size, 0, none⟩)) (v2 := .int .u8 (p.ty : Int)) (v3 := .pointer (some ⟨w.heap.size + 1, 0, none⟩)) (v4 := .int .u8 (q.ty : Int)) (d := ((p.ty : Int) != (q.ty : Int))) (n := 169) 6 ⟨rfl, rfl, rfl, rfl, rfl, rfl, rfl, rfl, rfl, rfl, rfl, rfl, rfl⟩ (by decide) rfl rfl rfl rfl (by intro ρ h; go_simp) (by intro ρ h; go_simp) (by intro ρ h; go_simp) (by intro ρ h; go_simp) (by intro ρ h h2; go_simp; all_goals simp [bne]) ?_
  intro a9 F9
  refine wpList_cmp (X := .pointer (some ⟨w.heap.size, 0, none⟩)) (Y := .pointer (some ⟨w.heap.size + 1, 0, none⟩)) (v1 := .pointer (some ⟨w.heap.size, 1, none⟩)) (v2 := .bool p.dup) (v3 := .pointer (some ⟨w.heap.size + 1, 1, none⟩)) (v4 := .bool q.dup) (d := (p.dup != q.dup)) (n := 169) 5 11 12 ⟨rfl, rfl, rfl, rfl, rfl, rfl, rfl, rfl, rfl, rfl, rfl, rfl, by kernel_rfl, rfl⟩ (by decide) F9 (by intro ρ h; go_simp) (by intro ρ h; go_simp) (by intro ρ h; go_simp) (by intro ρ h; go_simp) (by intro ρ h h2; go_simp; all_goals simp [bne]) ?_
  clear F9 a9
  intro a8 F8
  refine wpList_mv 17 18 rfl rfl rfl (by decide) F8 ?_
  clear F8 a8
  intro a9 F9
  refine wpList_cmp (X := .pointer (some ⟨w.heap.size, 0, none⟩)) (Y := .pointer (some ⟨w.heap.size + 1, 0, none⟩)) (v1 := .pointer (some ⟨w.heap.size, 2, none⟩)) (v2 := .int .u8 (p.qos : Int)) (v3 := .pointer (some ⟨w.heap.size + 1, 2, none⟩)) (v4 := .int .u8 (q.qos : Int)) (d := ((p.qos : Int) != (q.qos : Int))) (n := 169) 12 18 19 ⟨rfl, rfl, rfl, rfl, rfl, rfl, rfl, rfl, rfl, rfl, rfl, rfl, by kernel_rfl, rfl⟩ (by decide) F9 (by intro ρ h; go_simp) (by intro ρ h; go_simp) (by intro ρ h; go_simp) (by intro ρ h; go_simp) (by intro ρ h h2; go_simp; all_goals simp [bne]) ?_
  clear F9 a9
  intro a8 F8
  refine wpList_mv 24 25 rfl rfl rfl (by decide) F8 ?_
  clear F8 a8
  intro a9 F9
  refine wpList_cmp (X := .pointer (some ⟨w.heap.size, 0, none⟩)) (Y := .pointer (some ⟨w.heap.size + 1, 0, none⟩)) (v1 := .pointer (some ⟨w.heap.size, 3, none⟩)) (v2 := .bool p.ret) (v3 := .pointer (some ⟨w.heap.size + 1, 3, none⟩)) (v4 := .bool q.ret) (d := (p.ret != q.ret)) (n := 169) 19 25 26 ⟨rfl, rfl, rfl, rfl, rfl, rfl, rfl, rfl, rfl, rfl, rfl, rfl, by kernel_rfl, rfl⟩ (by decide) F9 (by intro ρ h; go_simp) (by intro ρ h; go_simp) (by intro ρ h; go_simp) (by intro ρ h; go_simp) (by intro ρ h h2; go_simp; all_goals simp [bne]) ?_
  clear F9 a9
  intro a8 F8
  refine wpList_mv 31 32 rfl rfl rfl (by decide) F8 ?_
  clear F8 a8
  intro a9 F9
  refine wpList_cmp (X := .pointer (some ⟨w.heap.size, 0, none⟩)) (Y := .pointer (some ⟨w.heap.size + 1, 0, none⟩)) (v1 := .pointer (some ⟨w.heap.size, 4, none⟩)) (v2 := .int .u16 (p.id : Int)) (v3 := .pointer (some ⟨w.heap.size + 1, 4, none⟩)) (v4 := .int .u16 (q.id : Int)) (d := ((p.id : Int) != (q.id : Int))) (n := 169) 26 32 33 ⟨rfl, rfl, rfl, rfl, rfl, rfl, rfl, rfl, rfl, rfl, rfl, rfl, by kernel_rfl, rfl⟩ (by decide) F9 (by intro ρ h; go_simp) (by intro ρ h; go_simp) (by intro ρ h; go_simp) (by intro ρ h; go_simp) (by intro ρ h h2; go_simp; all_goals simp [bne]) ?_
  clear F9 a9
  intro a8 F8
  refine wpList_mv 38 39 rfl rfl rfl (by decide) F8 ?_
  clear F8 a8
  intro a9 F9
  refine wpList_cmp (X := .pointer (some ⟨w.heap.size, 0, none⟩)) (Y := .pointer (some ⟨w.heap.size + 1, 0, none⟩)) (v1 := .pointer (some ⟨w.heap.size, 5, none⟩)) (v2 := .string p.topic) (v3 := .pointer (some ⟨w.heap.size + 1, 5, none⟩)) (v4 := .string q.topic) (d := (p.topic.toList != q.topic.toList)) (n := 169) 33 39 40 ⟨rfl, rfl, rfl, rfl, rfl, rfl, rfl, rfl, rfl, rfl, rfl, rfl, by kernel_rfl, rfl⟩ (by decide) F9 (by intro ρ h; go_simp) (by intro ρ h; go_simp) (by intro ρ h; go_simp) (by intro ρ h; go_simp) (by intro ρ h h2; go_simp; all_goals simp [bne]) ?_
  clear F9 a9
  intro a8 F8
  refine wpList_mv 45 46 rfl rfl rfl (by decide) F8 ?_
  clear F8 a8
  intro a9 F9
  refine wpList_cmp (X := .pointer (some ⟨w.heap.size, 0, none⟩)) (Y := .pointer (some ⟨w.heap.size + 1, 0, none⟩)) (v1 := .pointer (some ⟨w.heap.size, 6, none⟩)) (v2 := .string p.payload) (v3 := .pointer (some ⟨w.heap.size + 1, 6, none⟩)) (v4 := .string q.payload) (d := (p.payload.toList != q.payload.toList)) (n := 169) 40 46 47 ⟨rfl, rfl, rfl, rfl, rfl, rfl, rfl, rfl, rfl, rfl, rfl, rfl, by kernel_rfl, rfl⟩ (by decide) F9 (by intro ρ h; go_simp) (by intro ρ h; go_simp) (by intro ρ h; go_simp) (by intro ρ h; go_simp) (by intro ρ h h2; go_simp; all_goals simp [bne]) ?_
  clear F9 a9
  intro a8 F8
  refine wpList_mv 52 53 rfl rfl rfl (by decide) F8 ?_
  clear F8 a8
  intro a9 F9
  refine wpList_cmp (X := .pointer (some ⟨w.heap.size, 0, none⟩)) (Y := .pointer (some ⟨w.heap.size + 1, 0, none⟩)) (v1 := .pointer (some ⟨w.heap.size, 7, none⟩)) (v2 := .int .u8 (p.level : Int)) (v3 := .pointer (some ⟨w.heap.size + 1, 7, none⟩)) (v4 := .int .u8 (q.level : Int)) (d := ((p.level : Int) != (q.level : Int))) (n := 169) 47 53 54 ⟨rfl, rfl, rfl, rfl, rfl, rfl, rfl, rfl, rfl, rfl, rfl, rfl, by kernel_rfl, rfl⟩ (by decide) F9 (by intro ρ h; go_simp) (by intro ρ h; go_simp) (by intro ρ h; go_simp) (by intro ρ h; go_simp) (by intro ρ h h2; go_simp; all_goals simp [bne]) ?_
  clear F9 a9
  intro a8 F8
  refine wpList_mv 59 60 rfl rfl rfl (by decide) F8 ?_
  clear F8 a8
  intro a9 F9
  refine wpList_cmp (X := .pointer (some ⟨w.heap.size, 0, none⟩)) (Y := .pointer (some ⟨w.heap.size + 1, 0, none⟩)) (v1 := .pointer (some ⟨w.heap.size, 8, none⟩)) (v2 := .bool p.clean) (v3 := .pointer (some ⟨w.heap.size + 1, 8, none⟩)) (v4 := .bool q.clean) (d := (p.clean != q.clean)) (n := 169) 54 60 61 ⟨rfl, rfl, rfl, rfl, rfl, rfl, rfl, rfl, rfl, rfl, rfl, rfl, by kernel_rfl, rfl⟩ (by decide) F9 (by intro ρ h; go_simp) (by intro ρ h; go_simp) (by intro ρ h; go_simp) (by intro ρ h; go_simp) (by intro ρ h h2; go_simp; all_goals simp [bne]) ?_
  clear F9 a9
  intro a8 F8
  refine wpList_mv 66 67 rfl rfl rfl (by decide) F8 ?_
  clear F8 a8
  intro a9 F9
  refine wpList_cmp (X := .pointer (some ⟨w.heap.size, 0, none⟩)) (Y := .pointer (some ⟨w.heap.size + 1, 0, none⟩)) (v1 := .pointer (some ⟨w.heap.size, 9, none⟩)) (v2 := .int .u16 (p.keep : Int)) (v3 := .pointer (some ⟨w.heap.size + 1, 9, none⟩)) (v4 := .int .u16 (q.keep : Int)) (d := ((p.keep : Int) != (q.keep : Int))) (n := 169) 61 67 68 ⟨rfl, rfl, rfl, rfl, rfl, rfl, rfl, rfl, rfl, rfl, rfl, rfl, by kernel_rfl, rfl⟩ (by decide) F9 (by intro ρ h; go_simp) (by intro ρ h; go_simp) (by intro ρ h; go_simp) (by intro ρ h; go_simp) (by intro ρ h h2; go_simp; all_goals simp [bne]) ?_
  clear F9 a9
  intro a8 F8
  refine wpList_mv 73 74 rfl rfl rfl (by decide) F8 ?_
  clear F8 a8
  intro a9 F9
  refine wpList_cmp (X := .pointer (some ⟨w.heap.size, 0, none⟩)) (Y := .pointer (some ⟨w.heap.size + 1, 0, none⟩)) (v1 := .pointer (some ⟨w.heap.size, 10, none⟩)) (v2 := .string p.client) (v3 := .pointer (some ⟨w.heap.size + 1, 10, none⟩)) (v4 := .string q.client) (d := (p.client.toList != q.client.toList)) (n := 169) 68 74 75 ⟨rfl, rfl, rfl, rfl, rfl, rfl, rfl, rfl, rfl, rfl, rfl, rfl, by kernel_rfl, rfl⟩ (by decide) F9 (by intro ρ h; go_simp) (by intro ρ h; go_simp) (by intro ρ h; go_simp) (by intro ρ h; go_simp) (by intro ρ h h2; go_simp; all_goals simp [bne]) ?_
  clear F9 a9
  intro a9 F9
  obtain ⟨x, hx, hx2, hx3, hxt⟩ := F9.lit
  rw [hB] at hxt
  rw [show ((List.range 169).map x).toArray = #[x 0, x 1, x 2, x 3, x 4, x 5, x 6, x 7, x 8, x 9, x 10, x 11, x 12, x 13, x 14, x 15, x 16, x 17, x 18, x 19, x 20, x 21, x 22, x 23, x 24, x 25, x 26, x 27, x 28, x 29, x 30, x 31, x 32, x 33, x 34, x 35, x 36, x 37, x 38, x 39, x 40, x 41, x 42, x 43, x 44, x 45, x 46, x 47, x 48, x 49, x 50, x 51, x 52, x 53, x 54, x 55, x 56, x 57, x 58, x 59, x 60, x 61, x 62, x 63, x 64, x 65, x 66, x 67, x 68, x 69, x 70, x 71, x 72, x 73, x 74, x 75, x 76, x 77, x 78, x 79, x 80, x 81, x 82, x 83, x 84, x 85, x 86, x 87, x 88, x 89, x 90, x 91, x 92, x 93, x 94, x 95, x 96, x 97, x 98, x 99, x 100, x 101, x 102, x 103, x 104, x 105, x 106, x 107, x 108, x 109, x 110, x 111, x 112, x 113, x 114, x 115, x 116, x 117, x 118, x 119, x 120, x 121, x 122, x 123, x 124, x 125, x 126, x 127, x 128, x 129, x 130, x 131, x 132, x 133, x 134, x 135, x 136, x 137, x 138, x 139, x 140, x 141, x 142, x 143, x 144, x 145, x 146, x 147, x 148, x 149, x 150, x 151, x 152, x 153, x 154, x 155, x 156, x 157, x 158, x 159, x 160, x 161, x 162, x 163, x 164, x 165, x 166, x 167, x 168] from by kernel_rfl, hx2, hx3, hxt] at hx
  subst hx
  clear hx2 hx3 hxt F9
  refine wpList_nil ?_
  refine hK9 _ _ ?_
  clear hK9
  go_upto_region 3 with fail
  clear c0 d0 c1 d1 c2 d2 c3 d3 c4 d4 c5 d5 c6 d6 c7 d7 c8 d8 c9 d9 c10 d10
  have c11 : w2.cell? ⟨w.heap.size, 11, none⟩ = some (.bool p.hasWill) := (HK.out.at 1 rfl).cells 11
  have d11 : w2.cell? ⟨w.heap.size + 1, 11, none⟩ = some (.bool q.hasWill) := (HK.out.at 0 rfl).cells 11
  have CW := Lib.hid (box_range (HK.out.at 1 rfl) 12 4)
  have DW := Lib.hid (box_range (HK.out.at 0 rfl) 12 4)
  have c16 : w2.cell? ⟨w.heap.size, 16, none⟩ = some (.bool p.hasUser) := (HK.out.at 1 rfl).cells 16
  have d16 : w2.cell? ⟨w.heap.size + 1, 16, none⟩ = some (.bool q.hasUser) := (HK.out.at 0 rfl).cells 16
  have c17 : w2.cell? ⟨w.heap.size, 17, none⟩ = some (.bool p.hasPass) := (HK.out.at 1 rfl).cells 17
  have d17 : w2.cell? ⟨w.heap.size + 1, 17, none⟩ = some (.bool q.hasPass) := (HK.out.at 0 rfl).cells 17
  have c18 : w2.cell? ⟨w.heap.size, 18, none⟩ = some (.string p.user) := (HK.out.at 1 rfl).cells 18
  have d18 : w2.cell? ⟨w.heap.size + 1, 18, none⟩ = some (.string q.user) := (HK.out.at 0 rfl).cells 18
  have c19 : w2.cell? ⟨w.heap.size, 19, none⟩ = some (.string p.pass) := (HK.out.at 1 rfl).cells 19
  have d19 : w2.cell? ⟨w.heap.size + 1, 19, none⟩ = some (.string q.pass) := (HK.out.at 0 rfl).cells 19
  have c20 : w2.cell? ⟨w.heap.size, 20, none⟩ = some (.bool p.present) := (HK.out.at 1 rfl).cells 20
  have d20 : w2.cell? ⟨w.heap.size + 1, 20, none⟩ = some (.bool q.present) := (HK.out.at 0 rfl).cells 20
  have c21 : w2.cell? ⟨w.heap.size, 21, none⟩ = some (.int .u8 (p.code : Int)) := (HK.out.at 1 rfl).cells 21
  have d21 : w2.cell? ⟨w.heap.size + 1, 21, none⟩ = some (.int .u8 (q.code : Int)) := (HK.out.at 0 rfl).cells 21
  have c23 : w2.cell? ⟨w.heap.size, 23, none⟩ = some (.string p.codes) := (HK.out.at 1 rfl).cells 23
  have d23 : w2.cell? ⟨w.heap.size + 1, 23, none⟩ = some (.string q.codes) := (HK.out.at 0 rfl).cells 23
  rename_i hK9
  refine wp_region_lit ?_
  refine wpList_cmp0 (X := .pointer (some ⟨w.heap.size, 0, none⟩)) (Y := .pointer (some ⟨w.heap.size + 1, 0, none⟩)) (v1 := .pointer (some ⟨w.heap.size, 11, none⟩)) (v2 := .bool p.hasWill) (v3 := .pointer (some ⟨w.heap.size + 1, 11, none⟩)) (v4 := .bool q.hasWill) (d := (p.hasWill != q.hasWill)) (n := 169) 81 ⟨rfl, rfl, rfl, rfl, rfl, rfl, rfl, rfl, rfl, rfl, rfl, rfl, rfl⟩ (by decide) rfl rfl rfl rfl (by intro ρ h; go_simp) (by intro ρ h; go_simp) (by intro ρ h; go_simp) (by intro ρ h; go_simp) (by intro ρ h h2; go_simp; all_goals simp [bne]) ?_
  intro a9 F9
  refine wpList_cmp (X := .pointer (some ⟨w.heap.size, 0, none⟩)) (Y := .pointer (some ⟨w.heap.size + 1, 0, none⟩)) (v1 := .pointer (some ⟨w.heap.size, 12, none⟩)) (v2 := .agg (msgV p.wtopic p.wpayload p.wqos p.wret)) (v3 := .pointer (some ⟨w.heap.size + 1, 12, none⟩)) (v4 := .agg (msgV q.wtopic q.wpayload q.wqos q.wret)) (d := (!decide (p.wtopic = q.wtopic ∧ p.wpayload = q.wpayload ∧ p.wqos = q.wqos ∧ p.wret = q.wret))) (n := 169) 5 86 87 ⟨rfl, rfl, rfl, rfl, rfl, rfl, rfl, rfl, rfl, rfl, rfl, rfl, by kernel_rfl, rfl⟩ (by decide) F9 (by intro ρ h; go_simp) (by intro ρ h; exact run_load_mid rfl h (fun i v hi => CW.out i v hi) Tryd.underlying24 rfl msg_size) (by intro ρ h; go_simp) (by intro ρ h; exact run_load_mid rfl h (fun i v hi => DW.out i v hi) Tryd.underlying24 rfl msg_size) (by intro ρ h h2; have hm := hme w2; go_simp; all_goals simp [bne]) ?_
  clear F9 a9
  intro a8 F8
  refine wpList_mv 92 93 rfl rfl rfl (by decide) F8 ?_
  clear F8 a8
  intro a9 F9
  refine wpList_cmp (X := .pointer (some ⟨w.heap.size, 0, none⟩)) (Y := .pointer (some ⟨w.heap.size + 1, 0, none⟩)) (v1 := .pointer (some ⟨w.heap.size, 16, none⟩)) (v2 := .bool p.hasUser) (v3 := .pointer (some ⟨w.heap.size + 1, 16, none⟩)) (v4 := .bool q.hasUser) (d := (p.hasUser != q.hasUser)) (n := 169) 12 93 94 ⟨rfl, rfl, rfl, rfl, rfl, rfl, rfl, rfl, rfl, rfl, rfl, rfl, by kernel_rfl, rfl⟩ (by decide) F9 (by intro ρ h; go_simp) (by intro ρ h; go_simp) (by intro ρ h; go_simp) (by intro ρ h; go_simp) (by intro ρ h h2; go_simp; all_goals simp [bne]) ?_
  clear F9 a9
  intro a8 F8
  refine wpList_mv 99 100 rfl rfl rfl (by decide) F8 ?_
  clear F8 a8
  intro a9 F9
  refine wpList_cmp (X := .pointer (some ⟨w.heap.size, 0, none⟩)) (Y := .pointer (some ⟨w.heap.size + 1, 0, none⟩)) (v1 := .pointer (some ⟨w.heap.size, 17, none⟩)) (v2 := .bool p.hasPass) (v3 := .pointer (some ⟨w.heap.size + 1, 17, none⟩)) (v4 := .bool q.hasPass) (d := (p.hasPass != q.hasPass)) (n := 169) 19 100 101 ⟨rfl, rfl, rfl, rfl, rfl, rfl, rfl, rfl, rfl, rfl, rfl, rfl, by kernel_rfl, rfl⟩ (by decide) F9 (by intro ρ h; go_simp) (by intro ρ h; go_simp) (by intro ρ h; go_simp) (by intro ρ h; go_simp) (by intro ρ h h2; go_simp; all_goals simp [bne]) ?_
  clear F9 a9
  intro a8 F8
  refine wpList_mv 106 107 rfl rfl rfl (by decide) F8 ?_
  clear F8 a8
  intro a9 F9
  refine wpList_cmp (X := .pointer (some ⟨w.heap.size, 0, none⟩)) (Y := .pointer (some ⟨w.heap.size + 1, 0, none⟩)) (v1 := .pointer (some ⟨w.heap.size, 18, none⟩)) (v2 := .string p.user) (v3 := .pointer (some ⟨w.heap.size + 1, 18, none⟩)) (v4 := .string q.user) (d := (p.user.toList != q.user.toList)) (n := 169) 26 107 108 ⟨rfl, rfl, rfl, rfl, rfl, rfl, rfl, rfl, rfl, rfl, rfl, rfl, by kernel_rfl, rfl⟩ (by decide) F9 (by intro ρ h; go_simp) (by intro ρ h; go_simp) (by intro ρ h; go_simp) (by intro ρ h; go_simp) (by intro ρ h h2; go_simp; all_goals simp [bne]) ?_
  clear F9 a9
  intro a8 F8
  refine wpList_mv 113 114 rfl rfl rfl (by decide) F8 ?_
  clear F8 a8
  intro a9 F9
  refine wpList_cmp (X := .pointer (some ⟨w.heap.size, 0, none⟩)) (Y := .pointer (some ⟨w.heap.size + 1, 0, none⟩)) (v1 := .pointer (some ⟨w.heap.size, 19, none⟩)) (v2 := .string p.pass) (v3 := .pointer (some ⟨w.heap.size + 1, 19, none⟩)) (v4 := .string q.pass) (d := (p.pass.toList != q.pass.toList)) (n := 169) 33 114 115 ⟨rfl, rfl, rfl, rfl, rfl, rfl, rfl, rfl, rfl, rfl, rfl, rfl, by kernel_rfl, rfl⟩ (by decide) F9 (by intro ρ h; go_simp) (by intro ρ h; go_simp) (by intro ρ h; go_simp) (by intro ρ h; go_simp) (by intro ρ h h2; go_simp; all_goals simp [bne]) ?_
  clear F9 a9
  intro a8 F8
  refine wpList_mv 120 121 rfl rfl rfl (by decide) F8 ?_
  clear F8 a8
  intro a9 F9
  refine wpList_cmp (X := .pointer (some ⟨w.heap.size, 0, none⟩)) (Y := .pointer (some ⟨w.heap.size + 1, 0, none⟩)) (v1 := .pointer (some ⟨w.heap.size, 20, none⟩)) (v2 := .bool p.present) (v3 := .pointer (some ⟨w.heap.size + 1, 20, none⟩)) (v4 := .bool q.present) (d := (p.present != q.present)) (n := 169) 40 121 122 ⟨rfl, rfl, rfl, rfl, rfl, rfl, rfl, rfl, rfl, rfl, rfl, rfl, by kernel_rfl, rfl⟩ (by decide) F9 (by intro ρ h; go_simp) (by intro ρ h; go_simp) (by intro ρ h; go_simp) (by intro ρ h; go_simp) (by intro ρ h h2; go_simp; all_goals simp [bne]) ?_
  clear F9 a9
  intro a8 F8
  refine wpList_mv 127 128 rfl rfl rfl (by decide) F8 ?_
  clear F8 a8
  intro a9 F9
  refine wpList_cmp (X := .pointer (some ⟨w.heap.size, 0, none⟩)) (Y := .pointer (some ⟨w.heap.size + 1, 0, none⟩)) (v1 := .pointer (some ⟨w.heap.size, 21, none⟩)) (v2 := .int .u8 (p.code : Int)) (v3 := .pointer (some ⟨w.heap.size + 1, 21, none⟩)) (v4 := .int .u8 (q.code : Int)) (d := ((p.code : Int) != (q.code : Int))) (n := 169) 47 128 129 ⟨rfl, rfl, rfl, rfl, rfl, rfl, rfl, rfl, rfl, rfl, rfl, rfl, by kernel_rfl, rfl⟩ (by decide) F9 (by intro ρ h; go_simp) (by intro ρ h; go_simp) (by intro ρ h; go_simp) (by intro ρ h; go_simp) (by intro ρ h h2; go_simp; all_goals simp [bne]) ?_
  clear F9 a9
  intro a8 F8
  refine wpList_mv 134 135 rfl rfl rfl (by decide) F8 ?_
  clear F8 a8
  intro a9 F9
  refine wpList_cmp (X := .pointer (some ⟨w.heap.size, 0, none⟩)) (Y := .pointer (some ⟨w.heap.size + 1, 0, none⟩)) (v1 := .pointer (some ⟨w.heap.size, 23, none⟩)) (v2 := .string p.codes) (v3 := .pointer (some ⟨w.heap.size + 1, 23, none⟩)) (v4 := .string q.codes) (d := (p.codes.toList != q.codes.toList)) (n := 169) 54 135 136 ⟨rfl, rfl, rfl, rfl, rfl, rfl, rfl, rfl, rfl, rfl, rfl, rfl, by kernel_rfl, rfl⟩ (by decide) F9 (by intro ρ h; go_simp) (by intro ρ h; go_simp) (by intro ρ h; go_simp) (by intro ρ h; go_simp) (by intro ρ h h2; go_simp; all_goals simp [bne]) ?_
  clear F9 a9
  intro a8 F8
  refine wpList_mv 141 142 rfl rfl rfl (by decide) F8 ?_
  clear F8 a8
  intro a9 F9
  obtain ⟨y, hx, hx2, hx3, hxt⟩ := F9.lit
  rw [hB2] at hxt
  rw [show ((List.range 169).map y).toArray = #[y 0, y 1, y 2, y 3, y 4, y 5, y 6, y 7, y 8, y 9, y 10, y 11, y 12, y 13, y 14, y 15, y 16, y 17, y 18, y 19, y 20, y 21, y 22, y 23, y 24, y 25, y 26, y 27, y 28, y 29, y 30, y 31, y 32, y 33, y 34, y 35, y 36, y 37, y 38, y 39, y 40, y 41, y 42, y 43, y 44, y 45, y 46, y 47, y 48, y 49, y 50, y 51, y 52, y 53, y 54, y 55, y 56, y 57, y 58, y 59, y 60, y 61, y 62, y 63, y 64, y 65, y 66, y 67, y 68, y 69, y 70, y 71, y 72, y 73, y 74, y 75, y 76, y 77, y 78, y 79, y 80, y 81, y 82, y 83, y 84, y 85, y 86, y 87, y 88, y 89, y 90, y 91, y 92, y 93, y 94, y 95, y 96, y 97, y 98, y 99, y 100, y 101, y 102, y 103, y 104, y 105, y 106, y 107, y 108, y 109, y 110, y 111, y 112, y 113, y 114, y 115, y 116, y 117, y 118, y 119, y 120, y 121, y 122, y 123, y 124, y 125, y 126, y 127, y 128, y 129, y 130, y 131, y 132, y 133, y 134, y 135, y 136, y 137, y 138, y 139, y 140, y 141, y 142, y 143, y 144, y 145, y 146, y 147, y 148, y 149, y 150, y 151, y 152, y 153, y 154, y 155, y 156, y 157, y 158, y 159, y 160, y 161, y 162, y 163, y 164, y 165, y 166, y 167, y 168] from by kernel_rfl, hx2, hx3, hxt] at hx
  subst hx
  clear hx2 hx3 hxt F9
  go_wp2_with fail
  go_ret
  exact ⟨rfl, HK.out.low⟩
set_option maxRecDepth 100000 in
set_option maxHeartbeats 8000000 in
theorem sameR_3 (p q : Pk) (a a' : Option Addr) (c c' : Nat) (w : World) (hE : Env w) (hp : PkOk p) (hq : PkOk q) (ha : CellsA w a (subCells p.subs)) (hb : CellsA w a' (subCells q.subs)) (hB : ((((((((((((p.ty : Int) != (q.ty : Int)) || (p.dup != q.dup)) || ((p.qos : Int) != (q.qos : Int))) || (p.ret != q.ret)) || ((p.id : Int) != (q.id : Int))) || (p.topic.toList != q.topic.toList)) || (p.payload.toList != q.payload.toList)) || ((p.level : Int) != (q.level : Int))) || (p.clean != q.clean)) || ((p.keep : Int) != (q.keep : Int))) || (p.client.toList != q.client.toList)) = false) (hB2 : (((((((((p.hasWill != q.hasWill) || (!decide (p.wtopic = q.wtopic ∧ p.wpayload = q.wpayload ∧ p.wqos = q.wqos ∧ p.wret = q.wret))) || (p.hasUser != q.hasUser)) || (p.hasPass != q.hasPass)) || (p.user.toList != q.user.toList)) || (p.pass.toList != q.pass.toList)) || (p.present != q.present)) || ((p.code : Int) != (q.code : Int))) || (p.codes.toList != q.codes.toList)) = false) : Calls Tryd.prog 24 #[.agg (pkV p a c), .agg (pkV q a' c')] w fun e w' => e = .returned (.bool (decide (p.subs = q.subs))) ∧ Below w.heap.size w w' := by
  have FIN := Lib.hid (show ∀ (b : Bool) (w' : World), decide (p.subs = q.subs) = b → Below w.heap.size w w' → Ending.returned (.bool b) = .returned (.bool (decide (p.subs = q.subs))) ∧ Below w.heap.size w w' from by rintro b w' rfl h; exact ⟨rfl, h⟩)
  have hfew := hp.few
  have k22 : (pkV p a c)[22]? = some (.slice a p.subs.length c) := rfl
  have m22 : (pkV q a' c')[22]? = some (.slice a' q.subs.length c') := rfl
  have HK := Lib.hid (((Keep.begin hE [(a, subCells p.subs), (a', subCells q.subs)] (by intro r hr; simp at hr; rcases hr with rfl | rfl; exact ha; exact hb)).alloc' (pkV p a c) 27 w.heap.size rfl).alloc' (pkV q a' c') 27 (w.heap.size + 1) (by simp))
  have hme := fun w => (msg_eq p.wtopic p.wpayload q.wtopic q.wpayload p.wqos q.wqos p.wret q.wret hp.wqos hq.wqos (le_max hp.wtopic) (le_max hp.wpayload) (le_max hq.wtopic) (le_max hq.wpayload) w).2
  clear hp hq hE ha hb
  go_enter Tryd.func24, Tryd.ntmps24
  go_upto_region 1 with (fail)
  show Code.wp _ _ _ _ ((w.alloc (.cells (pkV p a c) 27)).alloc (.cells (pkV q a' c') 27))
  generalize World.alloc (World.alloc w _) _ = w2 at HK ⊢
  have c0 : w2.cell? ⟨w.heap.size, 0, none⟩ = some (.int .u8 (p.ty : Int)) := (HK.out.at 1 rfl).cells 0
  have d0 : w2.cell? ⟨w.heap.size + 1, 0, none⟩ = some (.int .u8 (q.ty : Int)) := (HK.out.at 0 rfl).cells 0
  have c1 : w2.cell? ⟨w.heap.size, 1, none⟩ = some (.bool p.dup) := (HK.out.at 1 rfl).cells 1
  have d1 : w2.cell? ⟨w.heap.size + 1, 1, none⟩ = some (.bool q.dup) := (HK.out.at 0 rfl).cells 1
  have c2 : w2.cell? ⟨w.heap.size, 2, none⟩ = some (.int .u8 (p.qos : Int)) := (HK.out.at 1 rfl).cells 2
  have d2 : w2.cell? ⟨w.heap.size + 1, 2, none⟩ = some (.int .u8 (q.qos : Int)) := (HK.out.at 0 rfl).cells 2
  have c3 : w2.cell? ⟨w.heap.size, 3, none⟩ = some (.bool p.ret) := (HK.out.at 1 rfl).cells 3
  have d3 : w2.cell? ⟨w.heap.size + 1, 3, none⟩ = some (.bool q.ret) := (HK.out.at 0 rfl).cells 3
  have c4 : w2.cell? ⟨w.heap.size, 4, none⟩ = some (.int .u16 (p.id : Int)) := (HK.out.at 1 rfl).cells 4
  have d4 : w2.cell? ⟨w.heap.size + 1, 4, none⟩ = some (.int .u16 (q.id : Int)) := (HK.out.at 0 rfl).cells 4
  have c5 : w2.cell? ⟨w.heap.size, 5, none⟩ = some (.string p.topic) := (HK.out.at 1 rfl).cells 5
  have d5 : w2.cell? ⟨w.heap.size + 1, 5, none⟩ = some (.string q.topic) := (HK.out.at 0 rfl).cells 5
  have c6 : w2.cell? ⟨w.heap.size, 6, none⟩ = some (.string p.payload) := (HK.out.at 1 rfl).cells 6
  have d6 : w2.cell? ⟨w.heap.size + 1, 6, none⟩ = some (.string q.payload) := (HK.out.at 0 rfl).cells 6
  have c7 : w2.cell? ⟨w.heap.size, 7, none⟩ = some (.int .u8 (p.level : Int)) := (HK.out.at 1 rfl).cells 7
  have d7 : w2.cell? ⟨w.heap.size + 1, 7, none⟩ = some (.int .u8 (q.level : Int)) := (HK.out.at 0 rfl).cells 7
  have c8 : w2.cell? ⟨w.heap.size, 8, none⟩ = some (.bool p.clean) := (HK.out.at 1 rfl).cells 8
  have d8 : w2.cell? ⟨w.heap.size + 1, 8, none⟩ = some (.bool q.clean) := (HK.out.at 0 rfl).cells 8
  have c9 : w2.cell? ⟨w.heap.size, 9, none⟩ = some (.int .u16 (p.keep : Int)) := (HK.out.at 1 rfl).cells 9
  have d9 : w2.cell? ⟨w.heap.size + 1, 9, none⟩ = some (.int .u16 (q.keep : Int)) := (HK.out.at 0 rfl).cells 9
  have c10 : w2.cell? ⟨w.heap.size, 10, none⟩ = some (.string p.client) := (HK.out.at 1 rfl).cells 10
  have d10 : w2.cell? ⟨w.heap.size + 1, 10, none⟩ = some (.string q.client) := (HK.out.at 0 rfl).cells 10
  rename_i hK9
  refine wp_region_lit ?_
  refine wpList_cmp0 (X := .pointer (some ⟨w.heap.size, 0, none⟩)) (Y := .pointer (some ⟨w.heap.size + 1, 0, none⟩)) (v1 := .pointer (some ⟨w.heap.size, 0, none⟩)) (v2 := .int .u8 (p.ty : Int)) (v3 := .pointer (some ⟨w.heap.size + 1, 0, none⟩)) (v4 := .int .u8 (q.ty : Int)) (d := ((p.ty : Int) != (q.ty : Int))) (n := 169) 6 ⟨rfl, rfl, rfl, rfl, rfl, rfl, rfl, rfl, rfl, rfl, rfl, rfl, rfl⟩ (by decide) rfl rfl rfl rfl (by intro ρ h; go_simp) (by intro ρ h; go_simp) (by intro ρ h; go_simp) (by intro ρ h; go_simp) (by intro ρ h h2; go_simp; all_goals simp [bne]) ?_
  intro a9 F9
  refine wpList_cmp (X := .pointer (some ⟨w.heap.size, 0, none⟩)) (Y := .pointer (some ⟨w.heap.size + 1, 0, none⟩)) (v1 := .pointer (some ⟨w.heap.size, 1, none⟩)) (v2 := .bool p.dup) (v3 := .pointer (some ⟨w.heap.size + 1, 1, none⟩)) (v4 := .bool q.dup) (d := (p.dup != q.dup)) (n := 169) 5 11 12 ⟨rfl, rfl, rfl, rfl, rfl, rfl, rfl, rfl, rfl, rfl, rfl, rfl, by kernel_rfl, rfl⟩ (by decide) F9 (by intro ρ h; go_simp) (by intro ρ h; go_simp) (by intro ρ h; go_simp) (by intro ρ h; go_simp) (by intro ρ h h2; go_simp; all_goals simp [bne]) ?_
  clear F9 a9
  intro a8 F8
  refine wpList_mv 17 18 rfl rfl rfl (by decide) F8 ?_
  clear F8 a8
  intro a9 F9
  refine wpList_cmp (X := .pointer (some ⟨w.heap.size, 0, none⟩)) (Y := .pointer (some ⟨w.heap.size + 1, 0, none⟩)) (v1 := .pointer (some ⟨w.heap.size, 2, none⟩)) (v2 := .int .u8 (p.qos : Int)) (v3 := .pointer (some ⟨w.heap.size + 1, 2, none⟩)) (v4 := .int .u8 (q.qos : Int)) (d := ((p.qos : Int) != (q.qos : Int))) (n := 169) 12 18 19 ⟨rfl, rfl, rfl, rfl, rfl, rfl, rfl, rfl, rfl, rfl, rfl, rfl, by kernel_rfl, rfl⟩ (by decide) F9 (by intro ρ h; go_simp) (by intro ρ h; go_simp) (by intro ρ h; go_simp) (by intro ρ h; go_simp) (by intro ρ h h2; go_simp; all_goals simp [bne]) ?_
  clear F9 a9
  intro a8 F8
  refine wpList_mv 24 25 rfl rfl rfl (by decide) F8 ?_
  clear F8 a8
  intro a9 F9
  refine wpList_cmp (X := .pointer (some ⟨w.heap.size, 0, none⟩)) (Y := .pointer (some ⟨w.heap.size + 1, 0, none⟩)) (v1 := .pointer (some ⟨w.heap.size, 3, none⟩)) (v2 := .bool p.ret) (v3 := .pointer (some ⟨w.heap.size + 1, 3, none⟩)) (v4 := .bool q.ret) (d := (p.ret != q.ret)) (n := 169) 19 25 26 ⟨rfl, rfl, rfl, rfl, rfl, rfl, rfl, rfl, rfl, rfl, rfl, rfl, by kernel_rfl, rfl⟩ (by decide) F9 (by intro ρ h; go_simp) (by intro ρ h; go_simp) (by intro ρ h; go_simp) (by intro ρ h; go_simp) (by intro ρ h h2; go_simp; all_goals simp [bne]) ?_
  clear F9 a9
  intro a8 F8
  refine wpList_mv 31 32 rfl rfl rfl (by decide) F8 ?_
  clear F8 a8
  intro a9 F9
  refine wpList_cmp (X := .pointer (some ⟨w.heap.size, 0, none⟩)) (Y := .pointer (some ⟨w.heap.size + 1, 0, none⟩)) (v1 := .pointer (some ⟨w.heap.size, 4, none⟩)) (v2 := .int .u16 (p.id : Int)) (v3 := .pointer (some ⟨w.heap.size + 1, 4, none⟩)) (v4 := .int .u16 (q.id : Int)) (d := ((p.id : Int) != (q.id : Int))) (n := 169) 26 32 33 ⟨rfl, rfl, rfl, rfl, rfl, rfl, rfl, rfl, rfl, rfl, rfl, rfl, by kernel_rfl, rfl⟩ (by decide) F9 (by intro ρ h; go_simp) (by intro ρ h; go_simp) (by intro ρ h; go_simp) (by intro ρ h; go_simp) (by intro ρ h h2; go_simp; all_goals simp [bne]) ?_
  clear F9 a9
  intro a8 F8
  refine wpList_mv 38 39 rfl rfl rfl (by decide) F8 ?_
  clear F8 a8
  intro a9 F9
  refine wpList_cmp (X := .pointer (some ⟨w.heap.size, 0, none⟩)) (Y := .pointer (some ⟨w.heap.size + 1, 0, none⟩)) (v1 := .pointer (some ⟨w.heap.size, 5, none⟩)) (v2 := .string p.topic) (v3 := .pointer (some ⟨w.heap.size + 1, 5, none⟩)) (v4 := .string q.topic) (d := (p.topic.toList != q.topic.toList)) (n := 169) 33 39 40 ⟨rfl, rfl, rfl, rfl, rfl, rfl, rfl, rfl, rfl, rfl, rfl, rfl, by kernel_rfl, rfl⟩ (by decide) F9 (by intro ρ h; go_simp) (by intro ρ h; go_simp) (by intro ρ h; go_simp) (by intro ρ h; go_simp) (by intro ρ h h2; go_simp; all_goals simp [bne]) ?_
  clear F9 a9
  intro a8 F8
  refine wpList_mv 45 46 rfl rfl rfl (by decide) F8 ?_
  clear F8 a8
  intro a9 F9
  refine wpList_cmp (X := .pointer (some ⟨w.heap.size, 0, none⟩)) (Y := .pointer (some ⟨w.heap.size + 1, 0, none⟩)) (v1 := .pointer (some ⟨w.heap.size, 6, none⟩)) (v2 := .string p.payload) (v3 := .pointer (some ⟨w.heap.size + 1, 6, none⟩)) (v4 := .string q.payload) (d := (p.payload.toList != q.payload.toList)) (n := 169) 40 46 47 ⟨rfl, rfl, rfl, rfl, rfl, rfl, rfl, rfl, rfl, rfl, rfl, rfl, by kernel_rfl, rfl⟩ (by decide) F9 (by intro ρ h; go_simp) (by intro ρ h; go_simp) (by intro ρ h; go_simp) (by intro ρ h; go_simp) (by intro ρ h h2; go_simp; all_goals simp [bne]) ?_
  clear F9 a9
  intro a8 F8
  refine wpList_mv 52 53 rfl rfl rfl (by decide) F8 ?_
  clear F8 a8
  intro a9 F9
  refine wpList_cmp (X := .pointer (some ⟨w.heap.size, 0, none⟩)) (Y := .pointer (some ⟨w.heap.size + 1, 0, none⟩)) (v1 := .pointer (some ⟨w.heap.size, 7, none⟩)) (v2 := .int .u8 (p.level : Int)) (v3 := .pointer (some ⟨w.heap.size + 1, 7, none⟩)) (v4 := .int .u8 (q.level : Int)) (d := ((p.level : Int) != (q.level : Int))) (n := 169) 47 53 54 ⟨rfl, rfl, rfl, rfl, rfl, rfl, rfl, rfl, rfl, rfl, rfl, rfl, by kernel_rfl, rfl⟩ (by decide) F9 (by intro ρ h; go_simp) (by intro ρ h; go_simp) (by intro ρ h; go_simp) (by intro ρ h; go_simp) (by intro ρ h h2; go_simp; all_goals simp [bne]) ?_
  clear F9 a9
  intro a8 F8
  refine wpList_mv 59 60 rfl rfl rfl (by decide) F8 ?_
  clear F8 a8
  intro a9 F9
  refine wpList_cmp (X := .pointer (some ⟨w.heap.size, 0, none⟩)) (Y := .pointer (some ⟨w.heap.size + 1, 0, none⟩)) (v1 := .pointer (some ⟨w.heap.size, 8, none⟩)) (v2 := .bool p.clean) (v3 := .pointer (some ⟨w.heap.size + 1, 8, none⟩)) (v4 := .bool q.clean) (d := (p.clean != q.clean)) (n := 169) 54 60 61 ⟨rfl, rfl, rfl, rfl, rfl, rfl, rfl, rfl, rfl, rfl, rfl, rfl, by kernel_rfl, rfl⟩ (by decide) F9 (by intro ρ h; go_simp) (by intro ρ h; go_simp) (by intro ρ h; go_simp) (by intro ρ h; go_simp) (by intro ρ h h2; go_simp; all_goals simp [bne]) ?_
  clear F9 a9
  intro a8 F8
  refine wpList_mv 66 67 rfl rfl rfl (by decide) F8 ?_
  clear F8 a8
  intro a9 F9
  refine wpList_cmp (X := .pointer (some ⟨w.heap.size, 0, none⟩)) (Y := .pointer (some ⟨w.heap.size + 1, 0, none⟩)) (v1 := .pointer (some ⟨w.heap.size, 9, none⟩)) (v2 := .int .u16 (p.keep : Int)) (v3 := .pointer (some ⟨w.heap.size + 1, 9, none⟩)) (v4 := .int .u16 (q.keep : Int)) (d := ((p.keep : Int) != (q.keep : Int))) (n := 169) 61 67 68 ⟨rfl, rfl, rfl, rfl, rfl, rfl, rfl, rfl, rfl, rfl, rfl, rfl, by kernel_rfl, rfl⟩ (by decide) F9 (by intro ρ h; go_simp) (by intro ρ h; go_simp) (by intro ρ h; go_simp) (by intro ρ h; go_simp) (by intro ρ h h2; go_simp; all_goals simp [bne]) ?_
  clear F9 a9
  intro a8 F8
  refine wpList_mv 73 74 rfl rfl rfl (by decide) F8 ?_
  clear F8 a8
  intro a9 F9
  refine wpList_cmp (X := .pointer (some ⟨w.heap.size, 0, none⟩)) (Y := .pointer (some ⟨w.heap.size + 1, 0, none⟩)) (v1 := .pointer (some ⟨w.heap.size, 10, none⟩)) (v2 := .string p.client) (v3 := .pointer (some ⟨w.heap.size + 1, 10, none⟩)) (v4 := .string q.client) (d := (p.client.toList != q.client.toList)) (n := 169) 68 74 75 ⟨rfl, rfl, rfl, rfl, rfl, rfl, rfl, rfl, rfl, rfl, rfl, rfl, by kernel_rfl, rfl⟩ (by decide) F9 (by intro ρ h; go_simp) (by intro ρ h; go_simp) (by intro ρ h; go_simp) (by intro ρ h; go_simp) (by intro ρ h h2; go_simp; all_goals simp [bne]) ?_
  clear F9 a9
  intro a9 F9
  obtain ⟨x, hx, hx2, hx3, hxt⟩ := F9.lit
  rw [hB] at hxt
  rw [show ((List.range 169).map x).toArray = #[x 0, x 1, x 2, x 3, x 4, x 5, x 6, x 7, x 8, x 9, x 10, x 11, x 12, x 13, x 14, x 15, x 16, x 17, x 18, x 19, x 20, x 21, x 22, x 23, x 24, x 25, x 26, x 27, x 28, x 29, x 30, x 31, x 32, x 33, x 34, x 35, x 36, x 37, x 38, x 39, x 40, x 41, x 42, x 43, x 44, x 45, x 46, x 47, x 48, x 49, x 50, x 51, x 52, x 53, x 54, x 55, x 56, x 57, x 58, x 59, x 60, x 61, x 62, x 63, x 64, x 65, x 66, x 67, x 68, x 69, x 70, x 71, x 72, x 73, x 74, x 75, x 76, x 77, x 78, x 79, x 80, x 81, x 82, x 83, x 84, x 85, x 86, x 87, x 88, x 89, x 90, x 91, x 92, x 93, x 94, x 95, x 96, x 97, x 98, x 99, x 100, x 101, x 102, x 103, x 104, x 105, x 106, x 107, x 108, x 109, x 110, x 111, x 112, x 113, x 114, x 115, x 116, x 117, x 118, x 119, x 120, x 121, x 122, x 123, x 124, x 125, x 126, x 127, x 128, x 129, x 130, x 131, x 132, x 133, x 134, x 135, x 136, x 137, x 138, x 139, x 140, x 141, x 142, x 143, x 144, x 145, x 146, x 147, x 148, x 149, x 150, x 151, x 152, x 153, x 154, x 155, x 156, x 157, x 158, x 159, x 160, x 161, x 162, x 163, x 164, x 165, x 166, x 167, x 168] from by kernel_rfl, hx2, hx3, hxt] at hx
  subst hx
  clear hx2 hx3 hxt F9
  refine wpList_nil ?_
  refine hK9 _ _ ?_
  clear hK9
  go_upto_region 3 with fail
  clear c0 d0 c1 d1 c2 d2 c3 d3 c4 d4 c5 d5 c6 d6 c7 d7 c8 d8 c9 d9 c10 d10
  have c11 : w2.cell? ⟨w.heap.size, 11, none⟩ = some (.bool p.hasWill) := (HK.out.at 1 rfl).cells 11
  have d11 : w2.cell? ⟨w.heap.size + 1, 11, none⟩ = some (.bool q.hasWill) := (HK.out.at 0 rfl).cells 11
  have CW := Lib.hid (box_range (HK.out.at 1 rfl) 12 4)
  have DW := Lib.hid (box_range (HK.out.at 0 rfl) 12 4)
  have c16 : w2.cell? ⟨w.heap.size, 16, none⟩ = some (.bool p.hasUser) := (HK.out.at 1 rfl).cells 16
  have d16 : w2.cell? ⟨w.heap.size + 1, 16, none⟩ = some (.bool q.hasUser) := (HK.out.at 0 rfl).cells 16
  have c17 : w2.cell? ⟨w.heap.size, 17, none⟩ = some (.bool p.hasPass) := (HK.out.at 1 rfl).cells 17
  have d17 : w2.cell? ⟨w.heap.size + 1, 17, none⟩ = some (.bool q.hasPass) := (HK.out.at 0 rfl).cells 17
  have c18 : w2.cell? ⟨w.heap.size, 18, none⟩ = some (.string p.user) := (HK.out.at 1 rfl).cells 18
  have d18 : w2.cell? ⟨w.heap.size + 1, 18, none⟩ = some (.string q.user) := (HK.out.at 0 rfl).cells 18
  have c19 : w2.cell? ⟨w.heap.size, 19, none⟩ = some (.string p.pass) := (HK.out.at 1 rfl).cells 19
  have d19 : w2.cell? ⟨w.heap.size + 1, 19, none⟩ = some (.string q.pass) := (HK.out.at 0 rfl).cells 19
  have c20 : w2.cell? ⟨w.heap.size, 20, none⟩ = some (.bool p.present) := (HK.out.at 1 rfl).cells 20
  have d20 : w2.cell? ⟨w.heap.size + 1, 20, none⟩ = some (.bool q.present) := (HK.out.at 0 rfl).cells 20
  have c21 : w2.cell? ⟨w.heap.size, 21, none⟩ = some (.int .u8 (p.code : Int)) := (HK.out.at 1 rfl).cells 21
  have d21 : w2.cell? ⟨w.heap.size + 1, 21, none⟩ = some (.int .u8 (q.code : Int)) := (HK.out.at 0 rfl).cells 21
  have c23 : w2.cell? ⟨w.heap.size, 23, none⟩ = some (.string p.codes) := (HK.out.at 1 rfl).cells 23
  have d23 : w2.cell? ⟨w.heap.size + 1, 23, none⟩ = some (.string q.codes) := (HK.out.at 0 rfl).cells 23
  have hX0 := (HK.out.at 0 rfl).cells 22
  have hX1 := (HK.out.at 1 rfl).cells 22
  rw [show (pkV q a' c')[22]? = some (.slice a' q.subs.length c') from rfl] at hX0
  rw [show (pkV p a c)[22]? = some (.slice a p.subs.length c) from rfl] at hX1
  by_cases hl : p.subs.length = q.subs.length
  · have hl' : ((p.subs.length : Int) != (q.subs.length : Int)) = false := by rw [hl]; simp
    have HL := Lib.hid hl
    clear hl
    rename_i hK9
    refine wp_region_lit ?_
    refine wpList_cmp0 (X := .pointer (some ⟨w.heap.size, 0, none⟩)) (Y := .pointer (some ⟨w.heap.size + 1, 0, none⟩)) (v1 := .pointer (some ⟨w.heap.size, 11, none⟩)) (v2 := .bool p.hasWill) (v3 := .pointer (some ⟨w.heap.size + 1, 11, none⟩)) (v4 := .bool q.hasWill) (d := (p.hasWill != q.hasWill)) (n := 169) 81 ⟨rfl, rfl, rfl, rfl, rfl, rfl, rfl, rfl, rfl, rfl, rfl, rfl, rfl⟩ (by decide) rfl rfl rfl rfl (by intro ρ h; go_simp) (by intro ρ h; go_simp) (by intro ρ h; go_simp) (by intro ρ h; go_simp) (by intro ρ h h2; go_simp; all_goals simp [bne]) ?_
    intro a9 F9
    refine wpList_cmp (X := .pointer (some ⟨w.heap.size, 0, none⟩)) (Y := .pointer (some ⟨w.heap.size + 1, 0, none⟩)) (v1 := .pointer (some ⟨w.heap.size, 12, none⟩)) (v2 := .agg (msgV p.wtopic p.wpayload p.wqos p.wret)) (v3 := .pointer (some ⟨w.heap.size + 1, 12, none⟩)) (v4 := .agg (msgV q.wtopic q.wpayload q.wqos q.wret)) (d := (!decide (p.wtopic = q.wtopic ∧ p.wpayload = q.wpayload ∧ p.wqos = q.wqos ∧ p.wret = q.wret))) (n := 169) 5 86 87 ⟨rfl, rfl, rfl, rfl, rfl, rfl, rfl, rfl, rfl, rfl, rfl, rfl, by kernel_rfl, rfl⟩ (by decide) F9 (by intro ρ h; go_simp) (by intro ρ h; exact run_load_mid rfl h (fun i v hi => CW.out i v hi) Tryd.underlying24 rfl msg_size) (by intro ρ h; go_simp) (by intro ρ h; exact run_load_mid rfl h (fun i v hi => DW.out i v hi) Tryd.underlying24 rfl msg_size) (by intro ρ h h2; have hm := hme w2; go_simp; all_goals simp [bne]) ?_
    clear F9 a9
    intro a8 F8
    refine wpList_mv 92 93 rfl rfl rfl (by decide) F8 ?_
    clear F8 a8
    intro a9 F9
    refine wpList_cmp (X := .pointer (some ⟨w.heap.size, 0, none⟩)) (Y := .pointer (some ⟨w.heap.size + 1, 0, none⟩)) (v1 := .pointer (some ⟨w.heap.size, 16, none⟩)) (v2 := .bool p.hasUser) (v3 := .pointer (some ⟨w.heap.size + 1, 16, none⟩)) (v4 := .bool q.hasUser) (d := (p.hasUser != q.hasUser)) (n := 169) 12 93 94 ⟨rfl, rfl, rfl, rfl, rfl, rfl, rfl, rfl, rfl, rfl, rfl, rfl, by kernel_rfl, rfl⟩ (by decide) F9 (by intro ρ h; go_simp) (by intro ρ h; go_simp) (by intro ρ h; go_simp) (by intro ρ h; go_simp) (by intro ρ h h2; go_simp; all_goals simp [bne]) ?_
    clear F9 a9
    intro a8 F8
    refine wpList_mv 99 100 rfl rfl rfl (by decide) F8 ?_
    clear F8 a8
    intro a9 F9
    refine wpList_cmp (X := .pointer (some ⟨w.heap.size, 0, none⟩)) (Y := .pointer (some ⟨w.heap.size + 1, 0, none⟩)) (v1 := .pointer (some ⟨w.heap.size, 17, none⟩)) (v2 := .bool p.hasPass) (v3 := .pointer (some ⟨w.heap.size + 1, 17, none⟩)) (v4 := .bool q.hasPass) (d := (p.hasPass != q.hasPass)) (n := 169) 19 100 101 ⟨rfl, rfl, rfl, rfl, rfl, rfl, rfl, rfl, rfl, rfl, rfl, rfl, by kernel_rfl, rfl⟩ (by decide) F9 (by intro ρ h; go_simp) (by intro ρ h; go_simp) (by intro ρ h; go_simp) (by intro ρ h; go_simp) (by intro ρ h h2; go_simp; all_goals simp [bne]) ?_
    clear F9 a9
    intro a8 F8
    refine wpList_mv 106 107 rfl rfl rfl (by decide) F8 ?_
    clear F8 a8
    intro a9 F9
    refine wpList_cmp (X := .pointer (some ⟨w.heap.size, 0, none⟩)) (Y := .pointer (some ⟨w.heap.size + 1, 0, none⟩)) (v1 := .pointer (some ⟨w.heap.size, 18, none⟩)) (v2 := .string p.user) (v3 := .pointer (some ⟨w.heap.size + 1, 18, none⟩)) (v4 := .string q.user) (d := (p.user.toList != q.user.toList)) (n := 169) 26 107 108 ⟨rfl, rfl, rfl, rfl, rfl, rfl, rfl, rfl, rfl, rfl, rfl, rfl, by kernel_rfl, rfl⟩ (by decide) F9 (by intro ρ h; go_simp) (by intro ρ h; go_simp) (by intro ρ h; go_simp) (by intro ρ h; go_simp) (by intro ρ h h2; go_simp; all_goals simp [bne]) ?_
    clear F9 a9
    intro a8 F8
    refine wpList_mv 113 114 rfl rfl rfl (by decide) F8 ?_
    clear F8 a8
    intro a9 F9
    refine wpList_cmp (X := .pointer (some ⟨w.heap.size, 0, none⟩)) (Y := .pointer (some ⟨w.heap.size + 1, 0, none⟩)) (v1 := .pointer (some ⟨w.heap.size, 19, none⟩)) (v2 := .string p.pass) (v3 := .pointer (some ⟨w.heap.size + 1, 19, none⟩)) (v4 := .string q.pass) (d := (p.pass.toList != q.pass.toList)) (n := 169) 33 114 115 ⟨rfl, rfl, rfl, rfl, rfl, rfl, rfl, rfl, rfl, rfl, rfl, rfl, by kernel_rfl, rfl⟩ (by decide) F9 (by intro ρ h; go_simp) (by intro ρ h; go_simp) (by intro ρ h; go_simp) (by intro ρ h; go_simp) (by intro ρ h h2; go_simp; all_goals simp [bne]) ?_
    clear F9 a9
    intro a8 F8
    refine wpList_mv 120 121 rfl rfl rfl (by decide) F8 ?_
    clear F8 a8
    intro a9 F9
    refine wpList_cmp (X := .pointer (some ⟨w.heap.size, 0, none⟩)) (Y := .pointer (some ⟨w.heap.size + 1, 0, none⟩)) (v1 := .pointer (some ⟨w.heap.size, 20, none⟩)) (v2 := .bool p.present) (v3 := .pointer (some ⟨w.heap.size + 1, 20, none⟩)) (v4 := .bool q.present) (d := (p.present != q.present)) (n := 169) 40 121 122 ⟨rfl, rfl, rfl, rfl, rfl, rfl, rfl, rfl, rfl, rfl, rfl, rfl, by kernel_rfl, rfl⟩ (by decide) F9 (by intro ρ h; go_simp) (by intro ρ h; go_simp) (by intro ρ h; go_simp) (by intro ρ h; go_simp) (by intro ρ h h2; go_simp; all_goals simp [bne]) ?_
    clear F9 a9
    intro a8 F8
    refine wpList_mv 127 128 rfl rfl rfl (by decide) F8 ?_
    clear F8 a8
    intro a9 F9
    refine wpList_cmp (X := .pointer (some ⟨w.heap.size, 0, none⟩)) (Y := .pointer (some ⟨w.heap.size + 1, 0, none⟩)) (v1 := .pointer (some ⟨w.heap.size, 21, none⟩)) (v2 := .int .u8 (p.code : Int)) (v3 := .pointer (some ⟨w.heap.size + 1, 21, none⟩)) (v4 := .int .u8 (q.code : Int)) (d := ((p.code : Int) != (q.code : Int))) (n := 169) 47 128 129 ⟨rfl, rfl, rfl, rfl, rfl, rfl, rfl, rfl, rfl, rfl, rfl, rfl, by kernel_rfl, rfl⟩ (by decide) F9 (by intro ρ h; go_simp) (by intro ρ h; go_simp) (by intro ρ h; go_simp) (by intro ρ h; go_simp) (by intro ρ h h2; go_simp; all_goals simp [bne]) ?_
    clear F9 a9
    intro a8 F8
    refine wpList_mv 134 135 rfl rfl rfl (by decide) F8 ?_
    clear F8 a8
    intro a9 F9
    refine wpList_cmp (X := .pointer (some ⟨w.heap.size, 0, none⟩)) (Y := .pointer (some ⟨w.heap.size + 1, 0, none⟩)) (v1 := .pointer (some ⟨w.heap.size, 23, none⟩)) (v2 := .string p.codes) (v3 := .pointer (some ⟨w.heap.size + 1, 23, none⟩)) (v4 := .string q.codes) (d := (p.codes.toList != q.codes.toList)) (n := 169) 54 135 136 ⟨rfl, rfl, rfl, rfl, rfl, rfl, rfl, rfl, rfl, rfl, rfl, rfl, by kernel_rfl, rfl⟩ (by decide) F9 (by intro ρ h; go_simp) (by intro ρ h; go_simp) (by intro ρ h; go_simp) (by intro ρ h; go_simp) (by intro ρ h h2; go_simp; all_goals simp [bne]) ?_
    clear F9 a9
    intro a8 F8
    refine wpList_mv 141 142 rfl rfl rfl (by decide) F8 ?_
    clear F8 a8
    intro a9 F9
    obtain ⟨y, hx, hx2, hx3, hxt⟩ := F9.lit
    rw [hB2] at hxt
    rw [show ((List.range 169).map y).toArray = #[y 0, y 1, y 2, y 3, y 4, y 5, y 6, y 7, y 8, y 9, y 10, y 11, y 12, y 13, y 14, y 15, y 16, y 17, y 18, y 19, y 20, y 21, y 22, y 23, y 24, y 25, y 26, y 27, y 28, y 29, y 30, y 31, y 32, y 33, y 34, y 35, y 36, y 37, y 38, y 39, y 40, y 41, y 42, y 43, y 44, y 45, y 46, y 47, y 48, y 49, y 50, y 51, y 52, y 53, y 54, y 55, y 56, y 57, y 58, y 59, y 60, y 61, y 62, y 63, y 64, y 65, y 66, y 67, y 68, y 69, y 70, y 71, y 72, y 73, y 74, y 75, y 76, y 77, y 78, y 79, y 80, y 81, y 82, y 83, y 84, y 85, y 86, y 87, y 88, y 89, y 90, y 91, y 92, y 93, y 94, y 95, y 96, y 97, y 98, y 99, y 100, y 101, y 102, y 103, y 104, y 105, y 106, y 107, y 108, y 109, y 110, y 111, y 112, y 113, y 114, y 115, y 116, y 117, y 118, y 119, y 120, y 121, y 122, y 123, y 124, y 125, y 126, y 127, y 128, y 129, y 130, y 131, y 132, y 133, y 134, y 135, y 136, y 137, y 138, y 139, y 140, y 141, y 142, y 143, y 144, y 145, y 146, y 147, y 148, y 149, y 150, y 151, y 152, y 153, y 154, y 155, y 156, y 157, y 158, y 159, y 160, y 161, y 162, y 163, y 164, y 165, y 166, y 167, y 168] from by kernel_rfl, hx2, hx3, hxt] at hx
    subst hx
    clear hx2 hx3 hxt F9
    go_upto_region 5 with fail
    clear hme CW DW
    clear c11 d11 c16 d16 c17 d17 c18 d18 c19 d19 c20 d20 c21 d21 c23 d23
    go_wp2_with fail
    clear hX0 hX1
    go_loopw [5] (fun i wr => ∃ k : Nat, k ≤ p.subs.length ∧ i = .int .i64 k ∧ Hid (decide (p.subs.drop k = q.subs.drop k) = decide (p.subs = q.subs)) ∧ Hid (Keep w [(w.heap.size + 1, pkV q a' c', 27), (w.heap.size, pkV p a c, 27)] [(a, subCells p.subs), (a', subCells q.subs)] wr)) (fun i _ => p.subs.length - (intOf i).toNat)
    case atStart => exact ⟨0, by omega, rfl, rfl, HK⟩
    case round =>
      clear HK
      obtain ⟨k, hk, rfl, HP, HK⟩ := hrel
      have hX0 := (HK.out.at 0 rfl).cells
      have hX1 := (HK.out.at 1 rfl).cells
      have hL0 := HK.out.lt (x := (w.heap.size + 1, pkV q a' c', 27)) (by simp)
      dsimp only at hL0
      by_cases hlt : k < p.subs.length
      · have hlt2 : k < q.subs.length := by have := HL.out; omega
        obtain ⟨x, hx⟩ : ∃ x, p.subs[k]? = some x := ⟨_, List.getElem?_eq_getElem hlt⟩
        obtain ⟨y, hy⟩ : ∃ y, q.subs[k]? = some y := ⟨_, List.getElem?_eq_getElem hlt2⟩
        have ca := HK.out.rowAt 0 rfl
        have cb := HK.out.rowAt 1 rfl
        obtain ⟨ba, oa, ha1, hc1, hc2⟩ := ca.sub hx
        obtain ⟨bb, ob, hb1, hc3, hc4⟩ := cb.sub hy
        subst ha1 hb1
        clear ca cb
        have hbl := World.block_lt_of_cell? _ _ hc3
        dsimp only at hbl
        have HS := Lib.hid (drop_same' p.subs q.subs k x y hx hy)
        clear hx hy
        obtain ⟨x1, x2⟩ := x
        obtain ⟨y1, y2⟩ := y
        dsimp only at *
        have hS3 : ∀ v, decide ((x1, x2) = (y1, y2)) = v → (decide (p.subs = q.subs)) = (v && decide (p.subs.drop (k + 1) = q.subs.drop (k + 1))) := by
          rintro v rfl; rw [← HP.out]; exact HS.out
        have hS4 := fun (v : Bool) h => Lib.hid (hS3 v h)
        clear HS hS3
        have hfin : (x1.toList == y1.toList) = false ∨ ((x1.toList == y1.toList) = true ∧ ((x2 : Int) == (y2 : Int)) = false) → decide ((x1, x2) = (y1, y2)) = false := by
          intro hh
          rw [decide_eq_false_iff_not]
          intro h
          injection h with h h'
          rcases hh with h1 | ⟨_, h1⟩
          · rw [h, beq_self_eq_true] at h1; cases h1
          · rw [h', beq_self_eq_true] at h1; cases h1
        have HF := Lib.hid hfin
        clear hfin
        cases h1 : (x1.toList == y1.toList)
        · have HZ := hS4 false (HF.out (Or.inl h1))
          clear hS4
          go_wp2_with fail
          go_quiet (fail)
          generalize hw2 : World.drewN _ _ = w7
          have hq : Below wr.heap.size wr w7 := below_draws hw2
          replace HK := Lib.hid (HK.out.below hq)
          clear hw2 hq
          go_wp2_with fail
          go_ret
          exact FIN.out _ _ (by rw [HZ.out]; rfl) HK.out.low
        · cases h2 : ((x2 : Int) == (y2 : Int))
          · have HZ := hS4 false (HF.out (Or.inr ⟨h1, h2⟩))
            clear hS4
            go_wp2_with fail
            go_quiet (fail)
            generalize hw2 : World.drewN _ _ = w7
            have hq : Below wr.heap.size wr w7 := below_draws hw2
            replace HK := Lib.hid (HK.out.below hq)
            clear hw2 hq
            go_wp2_with fail
            go_ret
            exact FIN.out _ _ (by rw [HZ.out]; rfl) HK.out.low
          · have HZ := hS4 true (by
              rw [decide_eq_true_eq, Prod.mk.injEq]
              rw [Lib.toList_data, Lib.toList_data, beq_iff_eq] at h1
              rw [beq_iff_eq] at h2
              exact ⟨bl_inj h1, by omega⟩)
            clear hS4
            go_wp2_with fail
            go_quiet (fail)
            generalize hw2 : World.drewN _ _ = w7
            have hq : Below wr.heap.size wr w7 := below_draws hw2
            replace HK := Lib.hid (HK.out.below hq)
            clear hw2 hq
            go_wp2_with fail
            go_roundw
            case rel => exact ⟨k + 1, by omega, by first | rfl | go_num, by rw [Hid, HZ.out]; rfl, HK⟩
            case measure => simp [intOf]; omega
      · have : k = p.subs.length := by omega
        subst this
        have HZ := Lib.hid (show decide (p.subs = q.subs) = true by
          rw [← HP.out, List.drop_eq_nil_of_le (Nat.le_refl _), List.drop_eq_nil_of_le (by have := HL.out; omega)]; rfl)
        go_wp2_with fail
        go_ret
        exact FIN.out _ _ HZ.out HK.out.low
  · have hl' : ((p.subs.length : Int) != (q.subs.length : Int)) = true := by rw [bne_iff_ne]; omega
    have HY := Lib.hid (show decide (p.subs = q.subs) = false by rw [decide_eq_false_iff_not]; intro h; exact hl (by rw [h]))
    clear hl
    rename_i hK9
    refine wp_region_lit ?_
    refine wpList_cmp0 (X := .pointer (some ⟨w.heap.size, 0, none⟩)) (Y := .pointer (some ⟨w.heap.size + 1, 0, none⟩)) (v1 := .pointer (some ⟨w.heap.size, 11, none⟩)) (v2 := .bool p.hasWill) (v3 := .pointer (some ⟨w.heap.size + 1, 11, none⟩)) (v4 := .bool q.hasWill) (d := (p.hasWill != q.hasWill)) (n := 169) 81 ⟨rfl, rfl, rfl, rfl, rfl, rfl, rfl, rfl, rfl, rfl, rfl, rfl, rfl⟩ (by decide) rfl rfl rfl rfl (by intro ρ h; go_simp) (by intro ρ h; go_simp) (by intro ρ h; go_simp) (by intro ρ h; go_simp) (by intro ρ h h2; go_simp; all_goals simp [bne]) ?_
    intro a9 F9
    refine wpList_cmp (X := .pointer (some ⟨w.heap.size, 0, none⟩)) (Y := .pointer (some ⟨w.heap.size + 1, 0, none⟩)) (v1 := .pointer (some ⟨w.heap.size, 12, none⟩)) (v2 := .agg (msgV p.wtopic p.wpayload p.wqos p.wret)) (v3 := .pointer (some ⟨w.heap.size + 1, 12, none⟩)) (v4 := .agg (msgV q.wtopic q.wpayload q.wqos q.wret)) (d := (!decide (p.wtopic = q.wtopic ∧ p.wpayload = q.wpayload ∧ p.wqos = q.wqos ∧ p.wret = q.wret))) (n := 169) 5 86 87 ⟨rfl, rfl, rfl, rfl, rfl, rfl, rfl, rfl, rfl, rfl, rfl, rfl, by kernel_rfl, rfl⟩ (by decide) F9 (by intro ρ h; go_simp) (by intro ρ h; exact run_load_mid rfl h (fun i v hi => CW.out i v hi) Tryd.underlying24 rfl msg_size) (by intro ρ h; go_simp) (by intro ρ h; exact run_load_mid rfl h (fun i v hi => DW.out i v hi) Tryd.underlying24 rfl msg_size) (by intro ρ h h2; have hm := hme w2; go_simp; all_goals simp [bne]) ?_
    clear F9 a9
    intro a8 F8
    refine wpList_mv 92 93 rfl rfl rfl (by decide) F8 ?_
    clear F8 a8
    intro a9 F9
    refine wpList_cmp (X := .pointer (some ⟨w.heap.size, 0, none⟩)) (Y := .pointer (some ⟨w.heap.size + 1, 0, none⟩)) (v1 := .pointer (some ⟨w.heap.size, 16, none⟩)) (v2 := .bool p.hasUser) (v3 := .pointer (some ⟨w.heap.size + 1, 16, none⟩)) (v4 := .bool q.hasUser) (d := (p.hasUser != q.hasUser)) (n := 169) 12 93 94 ⟨rfl, rfl, rfl, rfl, rfl, rfl, rfl, rfl, rfl, rfl, rfl, rfl, by kernel_rfl, rfl⟩ (by decide) F9 (by intro ρ h; go_simp) (by intro ρ h; go_simp) (by intro ρ h; go_simp) (by intro ρ h; go_simp) (by intro ρ h h2; go_simp; all_goals simp [bne]) ?_
    clear F9 a9
    intro a8 F8
    refine wpList_mv 99 100 rfl rfl rfl (by decide) F8 ?_
    clear F8 a8
    intro a9 F9
    refine wpList_cmp (X := .pointer (some ⟨w.heap.size, 0, none⟩)) (Y := .pointer (some ⟨w.heap.size + 1, 0, none⟩)) (v1 := .pointer (some ⟨w.heap.size, 17, none⟩)) (v2 := .bool p.hasPass) (v3 := .pointer (some ⟨w.heap.size + 1, 17, none⟩)) (v4 := .bool q.hasPass) (d := (p.hasPass != q.hasPass)) (n := 169) 19 100 101 ⟨rfl, rfl, rfl, rfl, rfl, rfl, rfl, rfl, rfl, rfl, rfl, rfl, by kernel_rfl, rfl⟩ (by decide) F9 (by intro ρ h; go_simp) (by intro ρ h; go_simp) (by intro ρ h; go_simp) (by intro ρ h; go_simp) (by intro ρ h h2; go_simp; all_goals simp [bne]) ?_
    clear F9 a9
    intro a8 F8
    refine wpList_mv 106 107 rfl rfl rfl (by decide) F8 ?_
    clear F8 a8
    intro a9 F9
    refine wpList_cmp (X := .pointer (some ⟨w.heap.size, 0, none⟩)) (Y := .pointer (some ⟨w.heap.size + 1, 0, none⟩)) (v1 := .pointer (some ⟨w.heap.size, 18, none⟩)) (v2 := .string p.user) (v3 := .pointer (some ⟨w.heap.size + 1, 18, none⟩)) (v4 := .string q.user) (d := (p.user.toList != q.user.toList)) (n := 169) 26 107 108 ⟨rfl, rfl, rfl, rfl, rfl, rfl, rfl, rfl, rfl, rfl, rfl, rfl, by kernel_rfl, rfl⟩ (by decide) F9 (by intro ρ h; go_simp) (by intro ρ h; go_simp) (by intro ρ h; go_simp) (by intro ρ h; go_simp) (by intro ρ h h2; go_simp; all_goals simp [bne]) ?_
    clear F9 a9
    intro a8 F8
    refine wpList_mv 113 114 rfl rfl rfl (by decide) F8 ?_
    clear F8 a8
    intro a9 F9
    refine wpList_cmp (X := .pointer (some ⟨w.heap.size, 0, none⟩)) (Y := .pointer (some ⟨w.heap.size + 1, 0, none⟩)) (v1 := .pointer (some ⟨w.heap.size, 19, none⟩)) (v2 := .string p.pass) (v3 := .pointer (some ⟨w.heap.size + 1, 19, none⟩)) (v4 := .string q.pass) (d := (p.pass.toList != q.pass.toList)) (n := 169) 33 114 115 ⟨rfl, rfl, rfl, rfl, rfl, rfl, rfl, rfl, rfl, rfl, rfl, rfl, by kernel_rfl, rfl⟩ (by decide) F9 (by intro ρ h; go_simp) (by intro ρ h; go_simp) (by intro ρ h; go_simp) (by intro ρ h; go_simp) (by intro ρ h h2; go_simp; all_goals simp [bne]) ?_
    clear F9 a9
    intro a8 F8
    refine wpList_mv 120 121 rfl rfl rfl (by decide) F8 ?_
    clear F8 a8
    intro a9 F9
    refine wpList_cmp (X := .pointer (some ⟨w.heap.size, 0, none⟩)) (Y := .pointer (some ⟨w.heap.size + 1, 0, none⟩)) (v1 := .pointer (some ⟨w.heap.size, 20, none⟩)) (v2 := .bool p.present) (v3 := .pointer (some ⟨w.heap.size + 1, 20, none⟩)) (v4 := .bool q.present) (d := (p.present != q.present)) (n := 169) 40 121 122 ⟨rfl, rfl, rfl, rfl, rfl, rfl, rfl, rfl, rfl, rfl, rfl, rfl, by kernel_rfl, rfl⟩ (by decide) F9 (by intro ρ h; go_simp) (by intro ρ h; go_simp) (by intro ρ h; go_simp) (by intro ρ h; go_simp) (by intro ρ h h2; go_simp; all_goals simp [bne]) ?_
    clear F9 a9
    intro a8 F8
    refine wpList_mv 127 128 rfl rfl rfl (by decide) F8 ?_
    clear F8 a8
    intro a9 F9
    refine wpList_cmp (X := .pointer (some ⟨w.heap.size, 0, none⟩)) (Y := .pointer (some ⟨w.heap.size + 1, 0, none⟩)) (v1 := .pointer (some ⟨w.heap.size, 21, none⟩)) (v2 := .int .u8 (p.code : Int)) (v3 := .pointer (some ⟨w.heap.size + 1, 21, none⟩)) (v4 := .int .u8 (q.code : Int)) (d := ((p.code : Int) != (q.code : Int))) (n := 169) 47 128 129 ⟨rfl, rfl, rfl, rfl, rfl, rfl, rfl, rfl, rfl, rfl, rfl, rfl, by kernel_rfl, rfl⟩ (by decide) F9 (by intro ρ h; go_simp) (by intro ρ h; go_simp) (by intro ρ h; go_simp) (by intro ρ h; go_simp) (by intro ρ h h2; go_simp; all_goals simp [bne]) ?_
    clear F9 a9
    intro a8 F8
    refine wpList_mv 134 135 rfl rfl rfl (by decide) F8 ?_
    clear F8 a8
    intro a9 F9
    refine wpList_cmp (X := .pointer (some ⟨w.heap.size, 0, none⟩)) (Y := .pointer (some ⟨w.heap.size + 1, 0, none⟩)) (v1 := .pointer (some ⟨w.heap.size, 23, none⟩)) (v2 := .string p.codes) (v3 := .pointer (some ⟨w.heap.size + 1, 23, none⟩)) (v4 := .string q.codes) (d := (p.codes.toList != q.codes.toList)) (n := 169) 54 135 136 ⟨rfl, rfl, rfl, rfl, rfl, rfl, rfl, rfl, rfl, rfl, rfl, rfl, by kernel_rfl, rfl⟩ (by decide) F9 (by intro ρ h; go_simp) (by intro ρ h; go_simp) (by intro ρ h; go_simp) (by intro ρ h; go_simp) (by intro ρ h h2; go_simp; all_goals simp [bne]) ?_
    clear F9 a9
    intro a8 F8
    refine wpList_mv 141 142 rfl rfl rfl (by decide) F8 ?_
    clear F8 a8
    intro a9 F9
    obtain ⟨y, hx, hx2, hx3, hxt⟩ := F9.lit
    rw [hB2] at hxt
    rw [show ((List.range 169).map y).toArray = #[y 0, y 1, y 2, y 3, y 4, y 5, y 6, y 7, y 8, y 9, y 10, y 11, y 12, y 13, y 14, y 15, y 16, y 17, y 18, y 19, y 20, y 21, y 22, y 23, y 24, y 25, y 26, y 27, y 28, y 29, y 30, y 31, y 32, y 33, y 34, y 35, y 36, y 37, y 38, y 39, y 40, y 41, y 42, y 43, y 44, y 45, y 46, y 47, y 48, y 49, y 50, y 51, y 52, y 53, y 54, y 55, y 56, y 57, y 58, y 59, y 60, y 61, y 62, y 63, y 64, y 65, y 66, y 67, y 68, y 69, y 70, y 71, y 72, y 73, y 74, y 75, y 76, y 77, y 78, y 79, y 80, y 81, y 82, y 83, y 84, y 85, y 86, y 87, y 88, y 89, y 90, y 91, y 92, y 93, y 94, y 95, y 96, y 97, y 98, y 99, y 100, y 101, y 102, y 103, y 104, y 105, y 106, y 107, y 108, y 109, y 110, y 111, y 112, y 113, y 114, y 115, y 116, y 117, y 118, y 119, y 120, y 121, y 122, y 123, y 124, y 125, y 126, y 127, y 128, y 129, y 130, y 131, y 132, y 133, y 134, y 135, y 136, y 137, y 138, y 139, y 140, y 141, y 142, y 143, y 144, y 145, y 146, y 147, y 148, y 149, y 150, y 151, y 152, y 153, y 154, y 155, y 156, y 157, y 158, y 159, y 160, y 161, y 162, y 163, y 164, y 165, y 166, y 167, y 168] from by kernel_rfl, hx2, hx3, hxt] at hx
    subst hx
    clear hx2 hx3 hxt F9
    go_wp2_with fail
    go_ret
    exact FIN.out _ _ HY.out HK.out.low
theorem ref03_Same (p q : Pk) (a a' : Option Addr) (c c' : Nat) (w : World) (hE : Env w) (hp : PkOk p) (hq : PkOk q) (ha : CellsA w a (subCells p.subs)) (hb : CellsA w a' (subCells q.subs)) : Calls Tryd.prog 24 #[.agg (pkV p a c), .agg (pkV q a' c')] w fun e w' => e = .returned (.bool (decide (p = q))) ∧ Below w.heap.size w w' := by
  obtain ⟨B, hB⟩ : ∃ B, ((((((((((((p.ty : Int) != (q.ty : Int)) || (p.dup != q.dup)) || ((p.qos : Int) != (q.qos : Int))) || (p.ret != q.ret)) || ((p.id : Int) != (q.id : Int))) || (p.topic.toList != q.topic.toList)) || (p.payload.toList != q.payload.toList)) || ((p.level : Int) != (q.level : Int))) || (p.clean != q.clean)) || ((p.keep : Int) != (q.keep : Int))) || (p.client.toList != q.client.toList)) = B := ⟨_, rfl⟩
  cases B
  · obtain ⟨B2, hB2⟩ : ∃ B, (((((((((p.hasWill != q.hasWill) || (!decide (p.wtopic = q.wtopic ∧ p.wpayload = q.wpayload ∧ p.wqos = q.wqos ∧ p.wret = q.wret))) || (p.hasUser != q.hasUser)) || (p.hasPass != q.hasPass)) || (p.user.toList != q.user.toList)) || (p.pass.toList != q.pass.toList)) || (p.present != q.present)) || ((p.code : Int) != (q.code : Int))) || (p.codes.toList != q.codes.toList)) = B := ⟨_, rfl⟩
    cases B2
    · have h := sameR_3 p q a a' c c' w hE hp hq ha hb hB hB2
      have HX : decide (p = q) = decide (p.subs = q.subs) := by
        simp only [Bool.or_eq_false_iff] at hB hB2
        obtain ⟨⟨⟨⟨⟨⟨⟨⟨⟨⟨h0, h1⟩, h2⟩, h3⟩, h4⟩, h5⟩, h6⟩, h7⟩, h8⟩, h9⟩, h10⟩ := hB
        obtain ⟨⟨⟨⟨⟨⟨⟨⟨h11, h12⟩, h13⟩, h14⟩, h15⟩, h16⟩, h17⟩, h18⟩, h19⟩ := hB2
        have h12' : p.wtopic = q.wtopic ∧ p.wpayload = q.wpayload ∧ p.wqos = q.wqos ∧ p.wret = q.wret := by simpa using h12
        obtain ⟨w1, w2, w3, w4⟩ := h12'
        have e0 : p.ty = q.ty := nat_ne _ _ h0
        have e1 : p.dup = q.dup := (bne_eq_false_iff_eq.1 h1)
        have e2 : p.qos = q.qos := nat_ne _ _ h2
        have e3 : p.ret = q.ret := (bne_eq_false_iff_eq.1 h3)
        have e4 : p.id = q.id := nat_ne _ _ h4
        have e5 : p.topic = q.topic := str_ne _ _ h5
        have e6 : p.payload = q.payload := str_ne _ _ h6
        have e7 : p.level = q.level := nat_ne _ _ h7
        have e8 : p.clean = q.clean := (bne_eq_false_iff_eq.1 h8)
        have e9 : p.keep = q.keep := nat_ne _ _ h9
        have e10 : p.client = q.client := str_ne _ _ h10
        have e11 : p.hasWill = q.hasWill := (bne_eq_false_iff_eq.1 h11)
        have e13 : p.hasUser = q.hasUser := (bne_eq_false_iff_eq.1 h13)
        have e14 : p.hasPass = q.hasPass := (bne_eq_false_iff_eq.1 h14)
        have e15 : p.user = q.user := str_ne _ _ h15
        have e16 : p.pass = q.pass := str_ne _ _ h16
        have e17 : p.present = q.present := (bne_eq_false_iff_eq.1 h17)
        have e18 : p.code = q.code := nat_ne _ _ h18
        have e19 : p.codes = q.codes := str_ne _ _ h19
        have hB : p.bare = q.bare := by
          unfold Pk.bare
          rw [e0, e1, e2, e3, e4, e5, e6, e7, e8, e9, e10, e11, e13, e14, e15, e16, e17, e18, e19, w1, w2, w3, w4]
        rw [same_bare, hB]; simp
      rw [HX]
      exact h
    · rw [show decide (p = q) = false by rw [decide_eq_false_iff_not]; rintro rfl; simp at hB2]
      exact sameR_2 p q a a' c c' w hE hp hq ha hb hB hB2
  · rw [show decide (p = q) = false by rw [decide_eq_false_iff_not]; rintro rfl; simp at hB]
    exact sameR_1 p q a a' c c' w hE hp hq ha hb hB
end Go.Proofs.YtfljdlaelanliaaDoor
