/- Structs compared: a message; a packet without its list. No condition. -/
import Derived.Test.YtkphaihbdmjogaaDoorPlainPacket
import Derived.Test.YtkphaihbdmjogaaDoorBase
import Derived.DeepKeys
namespace Go.Proofs.YtkphaihbdmjogaaDoor
open Go.RowKit

theorem ba_inj {a b : ByteArray} : a.data.toList = b.data.toList ↔ a = b := ⟨bl_inj, fun h => by rw [h]⟩
/-- Two values of a type that can be compared, their literals known. -/
theorem eq_lits {t : TypeId} {m : Nat} (hm : m ≤ 10000) (hk : Tryd.prog.keyTypeAt m t = true) {xs ys : Array Value} {la lb : List Lit} {D D' : Nat} (fx : (Value.agg xs).formed Tryd.prog t = true) (fy : (Value.agg ys).formed Tryd.prog t = true)
    (hx : Tryd.prog.keyLits D t xs.toList = some la) (hy : Tryd.prog.keyLits D' t ys.toList = some lb) (b : Bool) (hb : b = true ↔ la = lb) (w : World) :
    (binOp .eql t (.agg xs) (.agg ys)).run Tryd.prog w = .ok (.bool b) w ∧ (binOp .neq t (.agg xs) (.agg ys)).run Tryd.prog w = .ok (.bool (!b)) w := by
  obtain ⟨r, hr, hiff⟩ := run_equalIn_deep (P := Tryd.prog) (10000 - m) m t hk w D D' (.agg xs) (.agg ys) la lb fx fy hx hy
  rw [show 10000 - m + m = 10000 by omega] at hr
  have e : r = b := by
    rw [Bool.eq_iff_iff, hiff, hb]
  subst e
  rw [run_eql_struct, run_neq_struct, hr]
  exact ⟨rfl, rfl⟩
section
variable {D : Nat}
theorem lit_str (s : ByteArray) (h : s.size ≤ maxLen) : Tryd.prog.keyLits (D + 1) 9 [.string s] = some [.string s.data.toList] := by
  unfold Program.keyLits; rw [Tryd.underlying9]; simp [h]
theorem lit_bool (b : Bool) : Tryd.prog.keyLits (D + 1) 4 [.bool b] = some [.bool b] := by
  unfold Program.keyLits; rw [Tryd.underlying4]
theorem lit_u8 (q : Nat) (h : q < 256) : Tryd.prog.keyLits (D + 1) 5 [.int .u8 (q : Int)] = some [.int .u8 (q : Int)] := by
  unfold Program.keyLits; rw [Tryd.underlying5]
  have : (Lit.int .u8 (q : Int)).wf = true := by
    simp [Lit.wf]; rw [show IntKind.u8.min = 0 from rfl, show IntKind.u8.max = 255 from rfl]; omega
  simp [this]
theorem lit_u16 (q : Nat) (h : q < 65536) : Tryd.prog.keyLits (D + 1) 22 [.int .u16 (q : Int)] = some [.int .u16 (q : Int)] := by
  unfold Program.keyLits; rw [Tryd.underlying22]
  have : (Lit.int .u16 (q : Int)).wf = true := by
    simp [Lit.wf]; rw [show IntKind.u16.min = 0 from rfl, show IntKind.u16.max = 65535 from rfl]; omega
  simp [this]
end
theorem c_str : Tryd.prog.cellsOf 9 = 1 := by kernel_rfl
theorem c_bool : Tryd.prog.cellsOf 4 = 1 := by kernel_rfl
theorem c_u8 : Tryd.prog.cellsOf 5 = 1 := by kernel_rfl
theorem c_u16 : Tryd.prog.cellsOf 22 = 1 := by kernel_rfl
theorem c_msg : Tryd.prog.cellsOf 24 = 4 := by kernel_rfl
def msgV (t p : ByteArray) (q : Nat) (r : Bool) : Array Value := #[.string t, .string p, .int .u8 (q : Int), .bool r]
theorem lit_msg {D : Nat} (t p : ByteArray) (q : Nat) (r : Bool) (h1 : t.size ≤ maxLen) (h2 : p.size ≤ maxLen) (h3 : q < 256) :
    Tryd.prog.keyLits (D + 2) 24 [.string t, .string p, .int .u8 (q : Int), .bool r] = some [.string t.data.toList, .string p.data.toList, .int .u8 (q : Int), .bool r] := by
  unfold Program.keyLits
  rw [Tryd.underlying24]
  simp [c_msg, c_str, c_u8, c_bool, List.mapM_cons, lit_str _ h1, lit_str _ h2, lit_u8 _ h3, lit_bool]
set_option maxRecDepth 100000 in
theorem msg_eq (t1 p1 t2 p2 : ByteArray) (q1 q2 : Nat) (r1 r2 : Bool) (h1 : q1 < 256) (h2 : q2 < 256) (s1 : t1.size ≤ maxLen) (s2 : p1.size ≤ maxLen) (s3 : t2.size ≤ maxLen) (s4 : p2.size ≤ maxLen) (w : World) :
    (binOp .eql 24 (.agg (msgV t1 p1 q1 r1)) (.agg (msgV t2 p2 q2 r2))).run Tryd.prog w = .ok (.bool (decide (t1 = t2 ∧ p1 = p2 ∧ q1 = q2 ∧ r1 = r2))) w ∧
    (binOp .neq 24 (.agg (msgV t1 p1 q1 r1)) (.agg (msgV t2 p2 q2 r2))).run Tryd.prog w = .ok (.bool (!decide (t1 = t2 ∧ p1 = p2 ∧ q1 = q2 ∧ r1 = r2))) w := by
  refine eq_lits (m := 3) (by decide) (by kernel_rfl) rfl rfl (lit_msg (D := 3) t1 p1 q1 r1 s1 s2 h1) (lit_msg (D := 3) t2 p2 q2 r2 s3 s4 h2) _ ?_ w
  rw [decide_eq_true_eq]
  simp only [List.cons.injEq, Lit.string.injEq, Lit.int.injEq, Lit.bool.injEq, ba_inj, true_and, and_true, Int.natCast_inj]
/-- A packet without its list, as the program compares it: its cells. -/
def flV (p : Pk) : Array Value := #[.int .u8 (p.ty : Int), .int .u8 (p.qos : Int), .int .u8 (p.level : Int), .int .u8 (p.code : Int), .bool p.dup, .bool p.ret, .bool p.clean, .bool p.hasWill, .bool p.hasUser, .bool p.hasPass, .bool p.present,
  .int .u16 (p.id : Int), .int .u16 (p.keep : Int), .string p.topic, .string p.payload, .string p.client, .string p.user, .string p.pass, .string p.codes, .string p.wtopic, .string p.wpayload, .int .u8 (p.wqos : Int), .bool p.wret]
def litF (p : Pk) : List Lit := [.int .u8 (p.ty : Int), .int .u8 (p.qos : Int), .int .u8 (p.level : Int), .int .u8 (p.code : Int), .bool p.dup, .bool p.ret, .bool p.clean, .bool p.hasWill, .bool p.hasUser, .bool p.hasPass, .bool p.present,
  .int .u16 (p.id : Int), .int .u16 (p.keep : Int), .string p.topic.data.toList, .string p.payload.data.toList, .string p.client.data.toList, .string p.user.data.toList, .string p.pass.data.toList, .string p.codes.data.toList, .string p.wtopic.data.toList, .string p.wpayload.data.toList, .int .u8 (p.wqos : Int), .bool p.wret]
theorem c_flat : Tryd.prog.cellsOf 59 = 23 := by kernel_rfl
theorem le_max {n : Nat} (h : n ≤ 300000000) : n ≤ maxLen := by unfold maxLen; omega
set_option maxRecDepth 100000 in
theorem lit_flat {D : Nat} (p : Pk) (h : PkOk p) : Tryd.prog.keyLits (D + 3) 59 (flV p).toList = some (litF p) := by
  have hm := lit_msg (D := D) p.wtopic p.wpayload p.wqos p.wret (le_max h.wtopic) (le_max h.wpayload) h.wqos
  unfold Program.keyLits
  rw [Tryd.underlying59]
  simp [flV, litF, c_flat, c_msg, c_str, c_u8, c_u16, c_bool, List.mapM_cons, lit_str _ (le_max h.topic), lit_str _ (le_max h.payload), lit_str _ (le_max h.client), lit_str _ (le_max h.user), lit_str _ (le_max h.pass), lit_str _ (le_max h.codes), lit_u8 _ h.ty, lit_u8 _ h.qos, lit_u8 _ h.level, lit_u8 _ h.code, lit_u16 _ h.id, lit_u16 _ h.keep, lit_bool, hm]
theorem litF_inj (p q : Pk) : litF p = litF q ↔ p.bare = q.bare := by
  cases p
  cases q
  simp only [litF, Pk.bare, List.cons.injEq, Lit.string.injEq, Lit.int.injEq, Lit.bool.injEq, ba_inj, true_and, and_true, Int.natCast_inj, Pk.mk.injEq]
  constructor
  · rintro ⟨h1, h2, h3, h4, h5, h6, h7, h8, h9, h10, h11, h12, h13, h14, h15, h16, h17, h18, h19, h20, h21, h22, h23⟩
    exact ⟨h1, h5, h2, h6, h12, h14, h15, h3, h7, h13, h16, h8, h20, h21, h22, h23, h9, h10, h17, h18, h11, h4, h19⟩
  · rintro ⟨h1, h5, h2, h6, h12, h14, h15, h3, h7, h13, h16, h8, h20, h21, h22, h23, h9, h10, h17, h18, h11, h4, h19⟩
    exact ⟨h1, h2, h3, h4, h5, h6, h7, h8, h9, h10, h11, h12, h13, h14, h15, h16, h17, h18, h19, h20, h21, h22, h23⟩
set_option maxRecDepth 100000 in
theorem flat_eq (p q : Pk) (hp : PkOk p) (hq : PkOk q) (w : World) :
    (binOp .eql 59 (.agg (flV p)) (.agg (flV q))).run Tryd.prog w = .ok (.bool (decide (p.bare = q.bare))) w ∧
    (binOp .neq 59 (.agg (flV p)) (.agg (flV q))).run Tryd.prog w = .ok (.bool (!decide (p.bare = q.bare))) w := by
  refine eq_lits (m := 4) (by decide) (by kernel_rfl) rfl rfl (lit_flat (D := 3) p hp) (lit_flat (D := 3) q hq) _ ?_ w
  rw [decide_eq_true_eq, litF_inj]
end Go.Proofs.YtkphaihbdmjogaaDoor
