import Derived.Test.YtnnpokndajpkiaaDoorJoinB
import Derived.Test.YtnnpokndajpkiaaDoorBase
import Derived.DeepKeys
import Derived.Test.YtnnpokndajpkiaaDoorJoinA
import Derived.Great.Walk
import Derived.Deep.MidRow
namespace Go.Proofs.YtnnpokndajpkiaaDoor
open Go.RowKit
theorem ba_inj {a b : ByteArray} : a.data.toList = b.data.toList ↔ a = b := ⟨bl_inj, fun h => by rw [h]⟩
theorem eq_lits {t : TypeId} {m : Nat} (hm : m ≤ 10000) (hk : Tryd.prog.keyTypeAt m t = true) {xs ys : Array Value} {la lb : List Lit} {D D' : Nat} (fx : (Value.agg xs).formed Tryd.prog t = true) (fy : (Value.agg ys).formed Tryd.prog t = true)
    (hx : Tryd.prog.keyLits D t xs.toList = some la) (hy : Tryd.prog.keyLits D' t ys.toList = some lb) (b : Bool) (hb : b = true ↔ la = lb) (w : World) :
    (binOp .eql t (.agg xs) (.agg ys)).run Tryd.prog w = .ok (.bool b) w ∧ (binOp .neq t (.agg xs) (.agg ys)).run Tryd.prog w = .ok (.bool (!b)) w := by
  obtain ⟨r, hr, hiff⟩ := run_equalIn_deep (P := Tryd.prog) (10000 - m) m t hk w D D' (.agg xs) (.agg ys) la lb fx fy hx hy; rw [show 10000 - m + m = 10000 by omega] at hr; have e : r = b := by
    rw [Bool.eq_iff_iff, hiff, hb]
  subst e; rw [run_eql_struct, run_neq_struct, hr]; exact ⟨rfl, rfl⟩
section
variable {D : Nat}
theorem lit_str (s : ByteArray) (h : s.size ≤ maxLen) : Tryd.prog.keyLits (D + 1) 9 [.string s] = some [.string s.data.toList] := by
  unfold Program.keyLits; rw [Tryd.underlying9]; simp [h]
theorem lit_bool (b : Bool) : Tryd.prog.keyLits (D + 1) 4 [.bool b] = some [.bool b] := by
  unfold Program.keyLits; rw [Tryd.underlying4]
theorem lit_u8 (q : Nat) (h : q < 256) : Tryd.prog.keyLits (D + 1) 5 [.int .u8 (q : Int)] = some [.int .u8 (q : Int)] := by
  unfold Program.keyLits; rw [Tryd.underlying5]; have : (Lit.int .u8 (q : Int)).wf = true := by
    simp [Lit.wf]; rw [show IntKind.u8.min = 0 from rfl, show IntKind.u8.max = 255 from rfl]; omega
  simp [this]
theorem lit_u16 (q : Nat) (h : q < 65536) : Tryd.prog.keyLits (D + 1) 35 [.int .u16 (q : Int)] = some [.int .u16 (q : Int)] := by
  unfold Program.keyLits; rw [Tryd.underlying35]; have : (Lit.int .u16 (q : Int)).wf = true := by
    simp [Lit.wf]; rw [show IntKind.u16.min = 0 from rfl, show IntKind.u16.max = 65535 from rfl]; omega
  simp [this]
end
theorem c_str : Tryd.prog.cellsOf 9 = 1 := by kernel_rfl
theorem c_bool : Tryd.prog.cellsOf 4 = 1 := by kernel_rfl
theorem c_u8 : Tryd.prog.cellsOf 5 = 1 := by kernel_rfl
theorem c_u16 : Tryd.prog.cellsOf 35 = 1 := by kernel_rfl
theorem c_msg : Tryd.prog.cellsOf 37 = 4 := by kernel_rfl
def msgV (t p : ByteArray) (q : Nat) (r : Bool) : Array Value := #[.string t, .string p, .int .u8 (q : Int), .bool r]
theorem lit_msg {D : Nat} (t p : ByteArray) (q : Nat) (r : Bool) (h1 : t.size ≤ maxLen) (h2 : p.size ≤ maxLen) (h3 : q < 256) :
    Tryd.prog.keyLits (D + 2) 37 [.string t, .string p, .int .u8 (q : Int), .bool r] = some [.string t.data.toList, .string p.data.toList, .int .u8 (q : Int), .bool r] := by
  unfold Program.keyLits; rw [Tryd.underlying37]; simp [c_msg, c_str, c_u8, c_bool, List.mapM_cons, lit_str _ h1, lit_str _ h2, lit_u8 _ h3, lit_bool]
set_option maxRecDepth 100000 in
theorem msg_eq (t1 p1 t2 p2 : ByteArray) (q1 q2 : Nat) (r1 r2 : Bool) (h1 : q1 < 256) (h2 : q2 < 256) (s1 : t1.size ≤ maxLen) (s2 : p1.size ≤ maxLen) (s3 : t2.size ≤ maxLen) (s4 : p2.size ≤ maxLen) (w : World) :
    (binOp .eql 37 (.agg (msgV t1 p1 q1 r1)) (.agg (msgV t2 p2 q2 r2))).run Tryd.prog w = .ok (.bool (decide (t1 = t2 ∧ p1 = p2 ∧ q1 = q2 ∧ r1 = r2))) w ∧
    (binOp .neq 37 (.agg (msgV t1 p1 q1 r1)) (.agg (msgV t2 p2 q2 r2))).run Tryd.prog w = .ok (.bool (!decide (t1 = t2 ∧ p1 = p2 ∧ q1 = q2 ∧ r1 = r2))) w := by
  refine eq_lits (m := 3) (by decide) (by kernel_rfl) rfl rfl (lit_msg (D := 3) t1 p1 q1 r1 s1 s2 h1) (lit_msg (D := 3) t2 p2 q2 r2 s3 s4 h2) _ ?_ w; rw [decide_eq_true_eq]; simp only [List.cons.injEq, Lit.string.injEq, Lit.int.injEq, Lit.bool.injEq, ba_inj, true_and, and_true, Int.natCast_inj]
def flV (p : Pk) : Array Value := #[.int .u8 (p.ty : Int), .int .u8 (p.qos : Int), .int .u8 (p.level : Int), .int .u8 (p.code : Int), .bool p.dup, .bool p.ret, .bool p.clean, .bool p.hasWill, .bool p.hasUser, .bool p.hasPass, .bool p.present,
  .int .u16 (p.id : Int), .int .u16 (p.keep : Int), .string p.topic, .string p.payload, .string p.client, .string p.user, .string p.pass, .string p.codes, .string p.wtopic, .string p.wpayload, .int .u8 (p.wqos : Int), .bool p.wret]
def litF (p : Pk) : List Lit := [.int .u8 (p.ty : Int), .int .u8 (p.qos : Int), .int .u8 (p.level : Int), .int .u8 (p.code : Int), .bool p.dup, .bool p.ret, .bool p.clean, .bool p.hasWill, .bool p.hasUser, .bool p.hasPass, .bool p.present,
  .int .u16 (p.id : Int), .int .u16 (p.keep : Int), .string p.topic.data.toList, .string p.payload.data.toList, .string p.client.data.toList, .string p.user.data.toList, .string p.pass.data.toList, .string p.codes.data.toList, .string p.wtopic.data.toList, .string p.wpayload.data.toList, .int .u8 (p.wqos : Int), .bool p.wret]
theorem c_flat : Tryd.prog.cellsOf 136 = 23 := by kernel_rfl
theorem le_max {n : Nat} (h : n ≤ 300000000) : n ≤ maxLen := by unfold maxLen; omega
set_option maxRecDepth 100000 in
theorem lit_flat {D : Nat} (p : Pk) (h : PkOk p) : Tryd.prog.keyLits (D + 3) 136 (flV p).toList = some (litF p) := by
  have hm := lit_msg (D := D) p.wtopic p.wpayload p.wqos p.wret (le_max h.wtopic) (le_max h.wpayload) h.wqos; unfold Program.keyLits; rw [Tryd.underlying136]; simp [flV, litF, c_flat, c_msg, c_str, c_u8, c_u16, c_bool, List.mapM_cons, lit_str _ (le_max h.topic), lit_str _ (le_max h.payload), lit_str _ (le_max h.client), lit_str _ (le_max h.user), lit_str _ (le_max h.pass), lit_str _ (le_max h.codes), lit_u8 _ h.ty, lit_u8 _ h.qos, lit_u8 _ h.level, lit_u8 _ h.code, lit_u16 _ h.id, lit_u16 _ h.keep, lit_bool, hm]
theorem litF_inj (p q : Pk) : litF p = litF q ↔ p.bare = q.bare := by
  cases p; cases q; simp only [litF, Pk.bare, List.cons.injEq, Lit.string.injEq, Lit.int.injEq, Lit.bool.injEq, ba_inj, true_and, and_true, Int.natCast_inj, Pk.mk.injEq]; constructor
  · rintro ⟨h1, h2, h3, h4, h5, h6, h7, h8, h9, h10, h11, h12, h13, h14, h15, h16, h17, h18, h19, h20, h21, h22, h23⟩
    exact ⟨h1, h5, h2, h6, h12, h14, h15, h3, h7, h13, h16, h8, h20, h21, h22, h23, h9, h10, h17, h18, h11, h4, h19⟩
  · rintro ⟨h1, h5, h2, h6, h12, h14, h15, h3, h7, h13, h16, h8, h20, h21, h22, h23, h9, h10, h17, h18, h11, h4, h19⟩
    exact ⟨h1, h2, h3, h4, h5, h6, h7, h8, h9, h10, h11, h12, h13, h14, h15, h16, h17, h18, h19, h20, h21, h22, h23⟩
set_option maxRecDepth 100000 in
theorem flat_eq (p q : Pk) (hp : PkOk p) (hq : PkOk q) (w : World) :
    (binOp .eql 136 (.agg (flV p)) (.agg (flV q))).run Tryd.prog w = .ok (.bool (decide (p.bare = q.bare))) w ∧
    (binOp .neq 136 (.agg (flV p)) (.agg (flV q))).run Tryd.prog w = .ok (.bool (!decide (p.bare = q.bare))) w := by
  refine eq_lits (m := 4) (by decide) (by kernel_rfl) rfl rfl (lit_flat (D := 3) p hp) (lit_flat (D := 3) q hq) _ ?_ w; rw [decide_eq_true_eq, litF_inj]
end Go.Proofs.YtnnpokndajpkiaaDoor
namespace Go.Proofs.YtnnpokndajpkiaaDoor
open Go.RowKit
abbrev Box := Nat × Array Value × TypeId
abbrev Row := Option Addr × List Value
structure Keep (w0 : World) (L : List Box) (R : List Row) (w : World) : Prop where
  env0 : Env w0
  low : Below w0.heap.size w0 w
  box : ∀ x ∈ L, BoxAt w x.1 x.2.1 x.2.2
  up : ∀ x ∈ L, w0.heap.size ≤ x.1
  nod : (L.map (·.1)).Nodup
  row : ∀ r ∈ R, CellsA w r.1 r.2
  apart : ∀ r ∈ R, r.2 ≠ [] → ∀ x ∈ L, ∀ ad, r.1 = some ad → ad.block ≠ x.1
section
variable {w0 w w' : World} {L : List Box} {R : List Row}
theorem Keep.env (h : Keep w0 L R w) : Env w := h.env0.below h.low
theorem Keep.size (h : Keep w0 L R w) : w0.heap.size ≤ w.heap.size := h.low.size
theorem Keep.lt (h : Keep w0 L R w) {x : Box} (hx : x ∈ L) : x.1 < w.heap.size := (h.box x hx).lt
theorem Keep.begin (hE : Env w) (R : List Row) (hR : ∀ r ∈ R, CellsA w r.1 r.2) : Keep w [] R w :=
  ⟨hE, Below.refl _ _, fun x hx => (by cases hx), fun x hx => (by cases hx), List.nodup_nil, hR, fun r _ _ x hx => (by cases hx)⟩
theorem Keep.below (h : Keep w0 L R w) (k : Below w.heap.size w w') : Keep w0 L R w' :=
  ⟨h.env0, h.low.trans (k.mono h.size), fun x hx => (h.box x hx).below k, h.up, h.nod, fun r hr => (h.row r hr).below k, h.apart⟩
theorem Keep.drew (h : Keep w0 L R w) : Keep w0 L R w.drew := h.below (below_draws (n := 1) rfl)
theorem Keep.drewN (h : Keep w0 L R w) (n : Nat) : Keep w0 L R (w.drewN n) := h.below (below_draws (n := n) rfl)
theorem CellsA.lt {w : World} {ad : Addr} {vs : List Value} (h : CellsA w (some ad) vs) (hne : vs ≠ []) : ad.block < w.heap.size := by
  cases vs with
  | nil => exact absurd rfl hne
  | cons v r =>
    obtain ⟨b, o, e, hc⟩ := h 0 v rfl; injection e with e
    subst e; exact World.block_lt_of_cell? _ _ hc
theorem Keep.alloc (h : Keep w0 L R w) (cs : Array Value) (T : TypeId) : Keep w0 ((w.heap.size, cs, T) :: L) R (w.alloc (.cells cs T)) := by
  have k : Below w.heap.size w (w.alloc (.cells cs T)) := (Below.refl _ _).alloc (Nat.le_refl _) _; have h2 := h.below k; refine ⟨h2.env0, h2.low, ?_, ?_, ?_, h2.row, ?_⟩
  · intro x hx
    rcases List.mem_cons.1 hx with rfl | hx
    · exact BoxAt.new w cs T
    · exact h2.box x hx
  · intro x hx
    rcases List.mem_cons.1 hx with rfl | hx
    · exact h.size
    · exact h.up x hx
  · rw [List.map_cons, List.nodup_cons]
    refine ⟨fun hm => ?_, h.nod⟩; obtain ⟨x, hx, e⟩ := List.mem_map.1 hm; have := h.lt hx; simp only at e
    omega
  · intro r hr hne x hx ad e
    rcases List.mem_cons.1 hx with rfl | hx
    · have := (e ▸ h.row r hr).lt hne
      simp only
      omega
    · exact h.apart r hr hne x hx ad e
theorem Keep.alloc' (h : Keep w0 L R w) (cs : Array Value) (T : TypeId) (X : Nat) (hX : w.heap.size = X) : Keep w0 ((X, cs, T) :: L) R (w.alloc (.cells cs T)) := hX ▸ h.alloc cs T
theorem Keep.rowIn (h : Keep w0 L R w) {a : Option Addr} {vs : List Value} (hc : CellsA w a vs) (ha : vs ≠ [] → ∀ x ∈ L, ∀ ad, a = some ad → ad.block ≠ x.1) : Keep w0 L ((a, vs) :: R) w :=
  ⟨h.env0, h.low, h.box, h.up, h.nod, fun r hr => by rcases List.mem_cons.1 hr with rfl | hr; exact hc; exact h.row r hr, fun r hr hne x hx ad e => by
    rcases List.mem_cons.1 hr with rfl | hr
    · exact ha hne x hx ad e
    · exact h.apart r hr hne x hx ad e⟩
theorem Keep.allocRow (h : Keep w0 L R w) (vs : List Value) (T : TypeId) : Keep w0 L ((some ⟨w.heap.size, 0, none⟩, vs) :: R) (w.alloc (.cells vs.toArray T)) :=
  (h.below ((Below.refl _ _).alloc (Nat.le_refl _) _)).rowIn cells_new (fun _ x hx ad e => by
    injection e with e
    subst e; have := h.lt hx; simp only
    omega)
theorem Keep.at (h : Keep w0 L R w) (i : Nat) {X : Nat} {cs : Array Value} {T : TypeId} (hi : L[i]? = some (X, cs, T)) : BoxAt w X cs T := h.box _ (List.mem_of_getElem? hi)
theorem Keep.rowAt (h : Keep w0 L R w) (i : Nat) {a : Option Addr} {vs : List Value} (hi : R[i]? = some (a, vs)) : CellsA w a vs := h.row _ (List.mem_of_getElem? hi)
theorem Keep.sub (h : Keep w0 L R w) {L' : List Box} {R' : List Row} (hL : L'.Sublist L) (hR : ∀ r ∈ R', r ∈ R) : Keep w0 L' R' w :=
  ⟨h.env0, h.low, fun x hx => h.box x (hL.subset hx), fun x hx => h.up x (hL.subset hx), (hL.map _).nodup h.nod, fun r hr => h.row r (hR r hr), fun r hr hne x hx => h.apart r (hR r hr) hne x (hL.subset hx)⟩
theorem Keep.only (h : Keep w0 L R w) {i X : Nat} {old cs : Array Value} {T : TypeId} (hi : L[i]? = some (X, old, T)) (k : Only (fun j => j = X) w w') (hb : BoxAt w' X cs T) : Keep w0 (L.set i (X, cs, T)) R w' := by
  have hm := List.mem_of_getElem? hi; have hne : ∀ r ∈ R, r.2 ≠ [] → CellsA w' r.1 r.2 := fun r hr hn j v hv => by
    obtain ⟨b, o, e, hc⟩ := h.row r hr j v hv; exact ⟨b, o, e, k.cell hc (fun e2 => h.apart r hr hn _ hm _ e e2)⟩
  have hlow : Below w0.heap.size w0 w' := h.low.trans (k.below h.size (fun j e => by have := h.up _ hm; simp only at this; omega)); refine ⟨h.env0, hlow, ?_, ?_, ?_, ?_, ?_⟩
  · intro x hx
    obtain ⟨j, hj⟩ := List.getElem?_of_mem hx; rw [List.getElem?_set] at hj; split at hj
    · split at hj
      · injection hj with hj; subst hj; exact hb
      · cases hj
    · rename_i hij
      have hx' := h.box x (List.mem_of_getElem? hj); refine hx'.only k (fun e => hij ?_); have h1 : (L.map (·.1))[i]? = some X := by rw [List.getElem?_map, hi]; rfl
      have h2 : (L.map (·.1))[j]? = some X := by rw [List.getElem?_map, hj]; exact congrArg some e
      exact (List.getElem?_inj (List.getElem?_eq_some_iff.1 h1).1 h.nod).1 (h1.trans h2.symm)
  · intro x hx
    rcases List.mem_or_eq_of_mem_set hx with hx | rfl
    · exact h.up x hx
    · exact h.up (X, old, T) hm
  · rw [List.map_set]
    have e : (L.map (·.1)).set i X = L.map (·.1) := by
      have h1 : (L.map (·.1))[i]? = some X := by rw [List.getElem?_map, hi]; rfl
      obtain ⟨hlt, h3⟩ := List.getElem?_eq_some_iff.1 h1; rw [← h3, List.set_getElem_self]
    rw [e]; exact h.nod
  · intro r hr
    by_cases hn : r.2 = []
    · rw [hn]; exact CellsA.nil _ _
    · exact hne r hr hn
  · intro r hr hn x hx ad e
    rcases List.mem_or_eq_of_mem_set hx with hx | rfl
    · exact h.apart r hr hn x hx ad e
    · exact h.apart r hr hn (X, old, T) hm ad e
theorem BoxAt.ne_own {w : World} {X : Nat} {cs : Array Value} {T : TypeId} (h : BoxAt w X cs T) {B n size : Nat} {e : TypeId} {x : Value} {xs : List Value} (k : w.ownsRow B e size x n xs) (hne : e ≠ T) (g : Nat) (hg : x.ownBlock = some g) : ¬ g = X := by
  rintro rfl; rcases k.2 with ⟨rfl, _⟩ | ⟨g', cap, cur, rfl, _, hh, _⟩
  · simp [Value.ownBlock] at hg
  · have : g' = g := by simpa [Value.ownBlock] using hg
    subst this; unfold BoxAt at h; rw [hh] at h; injection h with h
    injection h with _ ht
    exact hne ht
theorem Keep.grown (h : Keep w0 L R w) {r : Option Nat} (k : w.grownBy w' r) (h1 : ∀ g, r = some g → w0.heap.size ≤ g) (h2 : ∀ g, r = some g → ∀ x ∈ L, g ≠ x.1) (hR : ∀ x ∈ R, CellsA w' x.1 x.2) : Keep w0 L R w' :=
  ⟨h.env0, Below.grown' h.low k h.size h1, fun x hx => (h.box x hx).only (only_grown k) (fun e => h2 _ e x hx rfl), h.up, h.nod, hR, h.apart⟩
theorem Keep.set (h : Keep w0 L R w) {i X : Nat} {old : Array Value} {T : TypeId} (hi : L[i]? = some (X, old, T)) (j : Nat) (v : Value) {cs : Array Value} (hcs : old.setIfInBounds j v = cs) : Keep w0 (L.set i (X, cs, T)) R (w.setCell ⟨X, j, none⟩ v) := by
  exact h.only hi (Only.setCell (F := fun j => j = X) (Only.refl _ _) (p := ⟨X, j, none⟩) (Or.inl rfl) v) (hcs ▸ (h.at i hi).set j v)
end
theorem own_cells {w : World} {B n m c size : Nat} {e : TypeId} {a : Option Addr} {xs : List Value} (h : w.ownsRow B e size (.slice a n c) m xs) : CellsA w a xs := by
  obtain ⟨a', c', hv, _, hc⟩ := own_form h; injection hv with h1 _ _
  exact h1 ▸ hc
section
variable {P : Program} {ops : Array Oper} {rest : List Oper} {o o2 : Oper} {a : Act} {w : World} {Q : Exit → Act → World → Prop}
theorem wpList_new (g1 : o.guard = none) (ty : TypeId) (h1 : o.op = .alloc ty) (dst : Option Tmp) (hd : o.dst = dst) (g2 : o2.guard = none) (x y : Operand) (h2 : o2.op = .store ty x y) (hd2 : o2.dst = none) (i : TypeInfo) (z : Value) (hi : P.info? ty = some i) (hz : i.zero = some z)
    (cells : Array Value) (hsz : i.size = cells.size) (hzs : z.cells.size = cells.size) (hone : cells.all (·.oneCell') = true)
    (hx : (a.put dst (.pointer (some ⟨w.heap.size, 0, none⟩))).eval x = .pointer (some ⟨w.heap.size, 0, none⟩)) (hy : (a.put dst (.pointer (some ⟨w.heap.size, 0, none⟩))).eval y = .agg cells)
    (h : wpList P ops Q rest (a.put dst (.pointer (some ⟨w.heap.size, 0, none⟩))) (w.alloc (.cells cells ty))) : wpList P ops Q (o :: o2 :: rest) a w := by
  subst hd; refine Great.wpList_allocTo g1 o.dst rfl (.pointer (some ⟨w.heap.size, 0, none⟩)) (.cells z.cells ty) ?_ ?_
  · unfold execOp
    simp [h1, Instr.alloc, zeroValue, typeInfo, hi, hz, newVar, newRow]
  · refine wpList_store_row g2 ty x y h2 w.heap.size cells hx hy ty z.cells (heap_alloc_new w _) (by rw [hi]; simp [hsz]) hzs hone ?_
    have e : (w.alloc (.cells z.cells ty)).setRow w.heap.size cells = w.alloc (.cells cells ty) := by
      unfold World.setRow World.alloc; congr 1; apply Array.ext_getElem?
      intro k; rw [Array.getElem?_modify]; by_cases hk : w.heap.size = k
      · subst hk; simp
      · rw [if_neg hk, Array.getElem?_push, Array.getElem?_push, if_neg (Ne.symm hk), if_neg (Ne.symm hk)]
    rw [e, hd2]; exact h
end
end Go.Proofs.YtnnpokndajpkiaaDoor
namespace Go.Proofs.YtnnpokndajpkiaaDoor
open Go.RowKit
section
variable {P : Program} {ops : Array Oper} {rest : List Oper} {o : Oper} {a : Act} {w : World} {Q : Exit → Act → World → Prop}
theorem wpList_left (hw : Region.wanted o (yielded ops a.tmps) = false) (h : wpList P ops Q rest (a.put o.dst undef) w) : wpList P ops Q (o :: rest) a w := by
  unfold wpList; rw [if_neg (by rw [hw]; decide)]; exact h
end
end Go.Proofs.YtnnpokndajpkiaaDoor
namespace Go.Proofs.YtnnpokndajpkiaaDoor
open Go.RowKit
section
variable {P : Program} {ops : Array Oper} {rest : List Oper} {a : Act} {w : World} {Q : Exit → Act → World → Prop}
theorem put_at (a : Act) (s i : Nat) (v : Value) : (a.put (some s) v).tmps[i]? = if i = s then (if s < a.tmps.size then some v else none) else a.tmps[i]? := by
  show (a.tmps.setIfInBounds s v)[i]? = _; rw [Array.getElem?_setIfInBounds]; by_cases h : i = s
  · subst h; simp
  · rw [if_neg h, if_neg (fun e => h e.symm)]
theorem put_size (a : Act) (s : Nat) (v : Value) : (a.put (some s) v).tmps.size = a.tmps.size := by
  show (a.tmps.setIfInBounds s v).size = _; simp
theorem eval_at {i : Nat} {v : Value} (h : a.tmps[i]? = some v) : a.eval (.tmp i) = v := by
  show a.tmps.getD i undef = v; rw [Array.getD_eq_getD_getElem?, h]; rfl
theorem wl_do {o : Oper} (hw : Region.wanted o (yielded ops a.tmps) = true) {v : Value} (h : (execOp a.eval o).run P w = .ok (.value v) w) (k : wpList P ops Q rest (a.put o.dst v) w) : wpList P ops Q (o :: rest) a w :=
  wpList_step fun K hK => by
    rw [if_pos hw]; unfold Oper.wp; rw [h]; exact hK _ _ k
theorem free_want {o : Oper} (h : o.guard = none) {y : Nat → Option Bool} : Region.wanted o y = true := by unfold Region.wanted; rw [h]
theorem guard_want {o : Oper} {g t : Nat} {b : Bool} (hg : o.guard = some (g, false)) (hy : (ops[g]?).bind (·.dst) = some t) (hb : a.tmps[t]? = some (.bool b)) : Region.wanted o (yielded ops a.tmps) = !b := by
  unfold Region.wanted yielded; rw [hg]; simp only [hy, Option.bind_some, hb]; cases b <;> rfl
structure Fr (n : Nat) (X Y : Value) (t : Nat) (b : Bool) (a : Act) : Prop where
  size : a.tmps.size = n
  defers : a.defers = []
  two : a.tmps[2]? = some X
  three : a.tmps[3]? = some Y
  run : a.tmps[t]? = some (.bool b)
structure Ops7 (ops : Array Oper) (g t s : Nat) (o1 o2 o3 o4 o5 o6 : Oper) : Prop where
  d1 : o1.dst = some s
  d2 : o2.dst = some (s + 1)
  d3 : o3.dst = some (s + 2)
  d4 : o4.dst = some (s + 3)
  d5 : o5.dst = some (s + 4)
  d6 : o6.dst = some (s + 5)
  g1 : o1.guard = some (g, false)
  g2 : o2.guard = some (g, false)
  g3 : o3.guard = some (g, false)
  g4 : o4.guard = some (g, false)
  g5 : o5.guard = some (g, false)
  g6 : o6.guard = none
  hy : (ops[g]?).bind (·.dst) = some t
  p6 : o6.op = .pick (.tmp t) (.const (.bool true)) (.tmp (s + 4))
theorem run_pick {o : Oper} {ρ : Operand → Value} {x y z : Operand} {b : Bool} (ho : o.op = .pick x y z) (hx : ρ x = .bool b) : (execOp ρ o).run P w = .ok (.value (if b then ρ y else ρ z)) w := by
  unfold execOp; rw [ho]; simp [hx]
  cases b <;> rfl
set_option maxHeartbeats 2000000 in
theorem wpList_cmp {n : Nat} {X Y v1 v2 v3 v4 : Value} {b d : Bool} (g t s : Nat) {o1 o2 o3 o4 o5 o6 : Oper} (H : Ops7 ops g t s o1 o2 o3 o4 o5 o6) (hs : s + 5 < n ∧ 3 < s ∧ t < s) (F : Fr n X Y t b a)
    (e1 : ∀ ρ : Operand → Value, ρ (.tmp 2) = X → (execOp ρ o1).run P w = .ok (.value v1) w) (e2 : ∀ ρ : Operand → Value, ρ (.tmp s) = v1 → (execOp ρ o2).run P w = .ok (.value v2) w)
    (e3 : ∀ ρ : Operand → Value, ρ (.tmp 3) = Y → (execOp ρ o3).run P w = .ok (.value v3) w) (e4 : ∀ ρ : Operand → Value, ρ (.tmp (s + 2)) = v3 → (execOp ρ o4).run P w = .ok (.value v4) w)
    (e5 : ∀ ρ : Operand → Value, ρ (.tmp (s + 1)) = v2 → ρ (.tmp (s + 3)) = v4 → (execOp ρ o5).run P w = .ok (.value (.bool d)) w)
    (k : ∀ a', Fr n X Y (s + 5) (b || d) a' → wpList P ops Q rest a' w) : wpList P ops Q (o1 :: o2 :: o3 :: o4 :: o5 :: o6 :: rest) a w := by
  obtain ⟨hs, h3, ht⟩ := hs; have hne : ∀ i j : Nat, i < j → ¬ i = j := fun i j h => by omega
  cases b with
  | true =>
    have hn : ∀ (o : Oper) (a1 : Act), o.guard = some (g, false) → a1.tmps[t]? = some (.bool true) → Region.wanted o (yielded ops a1.tmps) = false := fun o a1 h hb => guard_want h H.hy hb
    refine wpList_left (hn _ _ H.g1 F.run) ?_; rw [H.d1]; refine wpList_left (hn _ _ H.g2 (by simp only [put_at]; rw [if_neg (by omega)]; exact F.run)) ?_; rw [H.d2]; refine wpList_left (hn _ _ H.g3 (by simp only [put_at]; rw [if_neg (by omega), if_neg (by omega)]; exact F.run)) ?_; rw [H.d3]; refine wpList_left (hn _ _ H.g4 (by simp only [put_at]; rw [if_neg (by omega), if_neg (by omega), if_neg (by omega)]; exact F.run)) ?_; rw [H.d4]; refine wpList_left (hn _ _ H.g5 (by simp only [put_at]; rw [if_neg (by omega), if_neg (by omega), if_neg (by omega), if_neg (by omega)]; exact F.run)) ?_; rw [H.d5]; generalize h5 : (((((a.put (some s) undef).put (some (s + 1)) undef).put (some (s + 2)) undef).put (some (s + 3)) undef).put (some (s + 4)) undef) = a5; have hz : a5.tmps.size = n := by rw [← h5]; simp only [put_size]; exact F.size
    have hdf : a5.defers = [] := by rw [← h5]; exact F.defers
    have hlow : ∀ i, i < s → a5.tmps[i]? = a.tmps[i]? := fun i hi => by
      rw [← h5]; simp only [put_at]; rw [if_neg (by omega), if_neg (by omega), if_neg (by omega), if_neg (by omega), if_neg (by omega)]
    clear h5; refine wl_do (free_want H.g6) (run_pick H.p6 (eval_at ((hlow t ht).trans F.run))) ?_; rw [H.d6]; refine k _ ⟨by rw [put_size]; exact hz, hdf, ?_, ?_, ?_⟩
    · rw [put_at, if_neg (by omega), hlow 2 (by omega)]; exact F.two
    · rw [put_at, if_neg (by omega), hlow 3 h3]; exact F.three
    · rw [put_at, if_pos rfl, if_pos (by omega)]; rfl
  | false =>
    have hn : ∀ (o : Oper) (a1 : Act), o.guard = some (g, false) → a1.tmps[t]? = some (.bool false) → Region.wanted o (yielded ops a1.tmps) = true := fun o a1 h hb => guard_want h H.hy hb
    have hsz := F.size; refine wl_do (hn _ _ H.g1 F.run) (e1 _ (eval_at F.two)) ?_; rw [H.d1]; refine wl_do (hn _ _ H.g2 (by simp only [put_at]; rw [if_neg (by omega)]; exact F.run)) (e2 _ (eval_at (by rw [put_at, if_pos rfl, if_pos (by omega)]))) ?_; rw [H.d2]; refine wl_do (hn _ _ H.g3 (by simp only [put_at]; rw [if_neg (by omega), if_neg (by omega)]; exact F.run)) (e3 _ (eval_at (by simp only [put_at]; rw [if_neg (by omega), if_neg (by omega)]; exact F.three))) ?_; rw [H.d3]; refine wl_do (hn _ _ H.g4 (by simp only [put_at]; rw [if_neg (by omega), if_neg (by omega), if_neg (by omega)]; exact F.run)) (e4 _ (eval_at (by rw [put_at, if_pos rfl, if_pos (by simp only [put_size]; omega)]))) ?_; rw [H.d4]; refine wl_do (hn _ _ H.g5 (by simp only [put_at]; rw [if_neg (by omega), if_neg (by omega), if_neg (by omega), if_neg (by omega)]; exact F.run)) (e5 _ (eval_at (by rw [put_at, if_neg (by omega), put_at, if_neg (by omega), put_at, if_pos rfl, if_pos (by rw [put_size]; omega)])) (eval_at (by rw [put_at, if_pos rfl, if_pos (by simp only [put_size]; omega)]))) ?_; rw [H.d5]; generalize h5 : (((((a.put (some s) v1).put (some (s + 1)) v2).put (some (s + 2)) v3).put (some (s + 3)) v4).put (some (s + 4)) (.bool d)) = a5; have hz : a5.tmps.size = n := by rw [← h5]; simp only [put_size]; exact F.size
    have hdf : a5.defers = [] := by rw [← h5]; exact F.defers
    have hlow : ∀ i, i < s → a5.tmps[i]? = a.tmps[i]? := fun i hi => by
      rw [← h5]; simp only [put_at]; rw [if_neg (by omega), if_neg (by omega), if_neg (by omega), if_neg (by omega), if_neg (by omega)]
    have h4 : a5.tmps[s + 4]? = some (.bool d) := by rw [← h5, put_at, if_pos rfl, if_pos (by simp only [put_size]; omega)]
    clear h5; refine wl_do (free_want H.g6) (run_pick H.p6 (eval_at ((hlow t ht).trans F.run))) ?_; rw [H.d6]; refine k _ ⟨by rw [put_size]; exact hz, hdf, ?_, ?_, ?_⟩
    · rw [put_at, if_neg (by omega), hlow 2 (by omega)]; exact F.two
    · rw [put_at, if_neg (by omega), hlow 3 h3]; exact F.three
    · rw [put_at, if_pos rfl, if_pos (by omega)]
      show some (a5.eval (.tmp (s + 4))) = _; rw [eval_at h4]; rfl
structure Ops6 (s : Nat) (o1 o2 o3 o4 o5 o6 : Oper) : Prop where
  d1 : o1.dst = some s
  d2 : o2.dst = some (s + 1)
  d3 : o3.dst = some (s + 2)
  d4 : o4.dst = some (s + 3)
  d5 : o5.dst = some (s + 4)
  d6 : o6.dst = some (s + 5)
  g1 : o1.guard = none
  g2 : o2.guard = none
  g3 : o3.guard = none
  g4 : o4.guard = none
  g5 : o5.guard = none
  g6 : o6.guard = none
  p6 : o6.op = .move (.tmp (s + 4))
set_option maxHeartbeats 2000000 in
theorem wpList_cmp0 {n : Nat} {X Y v1 v2 v3 v4 : Value} {d : Bool} (s : Nat) {o1 o2 o3 o4 o5 o6 : Oper} (H : Ops6 s o1 o2 o3 o4 o5 o6) (hs : s + 5 < n ∧ 3 < s) (hsz : a.tmps.size = n) (hdf : a.defers = []) (h2 : a.tmps[2]? = some X) (h3 : a.tmps[3]? = some Y)
    (e1 : ∀ ρ : Operand → Value, ρ (.tmp 2) = X → (execOp ρ o1).run P w = .ok (.value v1) w) (e2 : ∀ ρ : Operand → Value, ρ (.tmp s) = v1 → (execOp ρ o2).run P w = .ok (.value v2) w)
    (e3 : ∀ ρ : Operand → Value, ρ (.tmp 3) = Y → (execOp ρ o3).run P w = .ok (.value v3) w) (e4 : ∀ ρ : Operand → Value, ρ (.tmp (s + 2)) = v3 → (execOp ρ o4).run P w = .ok (.value v4) w)
    (e5 : ∀ ρ : Operand → Value, ρ (.tmp (s + 1)) = v2 → ρ (.tmp (s + 3)) = v4 → (execOp ρ o5).run P w = .ok (.value (.bool d)) w)
    (k : ∀ a', Fr n X Y (s + 5) d a' → wpList P ops Q rest a' w) : wpList P ops Q (o1 :: o2 :: o3 :: o4 :: o5 :: o6 :: rest) a w := by
  obtain ⟨hs, hs3⟩ := hs; refine wl_do (free_want H.g1) (e1 _ (eval_at h2)) ?_; rw [H.d1]; refine wl_do (free_want H.g2) (e2 _ (eval_at (by rw [put_at, if_pos rfl, if_pos (by omega)]))) ?_; rw [H.d2]; refine wl_do (free_want H.g3) (e3 _ (eval_at (by rw [put_at, if_neg (by omega), put_at, if_neg (by omega)]; exact h3))) ?_; rw [H.d3]; refine wl_do (free_want H.g4) (e4 _ (eval_at (by rw [put_at, if_pos rfl, if_pos (by simp only [put_size]; omega)]))) ?_; rw [H.d4]; refine wl_do (free_want H.g5) (e5 _ (eval_at (by rw [put_at, if_neg (by omega), put_at, if_neg (by omega), put_at, if_pos rfl, if_pos (by rw [put_size]; omega)])) (eval_at (by rw [put_at, if_pos rfl, if_pos (by simp only [put_size]; omega)]))) ?_; rw [H.d5]; generalize h5 : (((((a.put (some s) v1).put (some (s + 1)) v2).put (some (s + 2)) v3).put (some (s + 3)) v4).put (some (s + 4)) (.bool d)) = a5; have hz5 : a5.tmps.size = n := by rw [← h5]; simp only [put_size]; exact hsz
  have hd5 : a5.defers = [] := by rw [← h5]; exact hdf
  have hlow : ∀ i, i < s → a5.tmps[i]? = a.tmps[i]? := fun i hi => by
    rw [← h5]; simp only [put_at]; rw [if_neg (by omega), if_neg (by omega), if_neg (by omega), if_neg (by omega), if_neg (by omega)]
  have h4 : a5.tmps[s + 4]? = some (.bool d) := by rw [← h5, put_at, if_pos rfl, if_pos (by simp only [put_size]; omega)]
  clear h5; have hm : (execOp a5.eval o6).run P w = .ok (.value (.bool d)) w := by
    unfold execOp; rw [H.p6]; simp [eval_at h4]
  refine wl_do (free_want H.g6) hm ?_; rw [H.d6]; refine k _ ⟨by rw [put_size]; exact hz5, hd5, ?_, ?_, ?_⟩
  · rw [put_at, if_neg (by omega), hlow 2 (by omega)]; exact h2
  · rw [put_at, if_neg (by omega), hlow 3 hs3]; exact h3
  · rw [put_at, if_pos rfl, if_pos (by omega)]
theorem wpList_mv {n : Nat} {X Y : Value} {b : Bool} (t s : Nat) {o : Oper} (ho : o.op = .move (.tmp t)) (hd : o.dst = some s) (hg : o.guard = none) (hs : s < n ∧ 3 < s) (F : Fr n X Y t b a)
    (k : ∀ a', Fr n X Y s b a' → wpList P ops Q rest a' w) : wpList P ops Q (o :: rest) a w := by
  have h : (execOp a.eval o).run P w = .ok (.value (.bool b)) w := by
    unfold execOp; rw [ho]; simp [eval_at F.run]
  refine wl_do (free_want hg) h ?_; rw [hd]; refine k _ ⟨by rw [put_size]; exact F.size, F.defers, ?_, ?_, ?_⟩
  · rw [put_at, if_neg (by omega)]; exact F.two
  · rw [put_at, if_neg (by omega)]; exact F.three
  · rw [put_at, if_pos rfl, if_pos (by have := F.size; omega)]
theorem Fr.lit {n : Nat} {X Y : Value} {t : Nat} {b : Bool} (F : Fr n X Y t b a) : ∃ x : Nat → Value, a = ⟨((List.range n).map x).toArray, []⟩ ∧ x 2 = X ∧ x 3 = Y ∧ x t = .bool b := by
  refine ⟨fun i => a.tmps.getD i undef, ?_, eval_at F.two, eval_at F.three, eval_at F.run⟩; have hz := F.size; have hd := F.defers; obtain ⟨tm, df⟩ := a; simp only at hz hd
  subst hd; congr 1; apply Array.ext_getElem?
  intro i; subst hz; by_cases h : i < tm.size
  · simp [h]
  · simp [h]
end
end Go.Proofs.YtnnpokndajpkiaaDoor
namespace Go.Proofs.YtnnpokndajpkiaaDoor
open Go.RowKit
structure FrL (n : Nat) (L : List (Nat × Value)) (a : Act) : Prop where
  size : a.tmps.size = n
  defers : a.defers = []
  at' : ∀ i v, L.lookup i = some v → a.tmps[i]? = some v
section
variable {P : Program} {ops : Array Oper} {rest : List Oper} {a : Act} {w : World} {Q : Exit → Act → World → Prop} {n : Nat} {L : List (Nat × Value)} {o : Oper}
theorem FrL.ev (F : FrL n L a) (i : Nat) {v : Value} (h : L.lookup i = some v) : a.eval (.tmp i) = v := eval_at (F.at' i v h)
theorem FrL.put (F : FrL n L a) (s : Nat) (v : Value) (hs : s < n) : FrL n ((s, v) :: L) (a.put (some s) v) := by
  refine ⟨by rw [put_size]; exact F.size, F.defers, fun i u h => ?_⟩; rw [put_at]; rw [List.lookup_cons] at h; by_cases e : i = s
  · subst e
    rw [beq_self_eq_true] at h; rw [if_pos rfl, if_pos (by have := F.size; omega)]; exact h
  · rw [beq_eq_false_iff_ne.2 e] at h
    rw [if_neg e]; exact F.at' i u h
theorem lookup_filter (f : Nat → Bool) : ∀ (L : List (Nat × Value)) (i : Nat) (v : Value), (L.filter fun x => f x.1).lookup i = some v → L.lookup i = some v
  | [], i, v, h => by simp at h
  | (j, u) :: r, i, v, h => by
    rw [List.lookup_cons]; by_cases e : i = j
    · subst e
      rw [beq_self_eq_true]; rw [List.filter_cons] at h; split at h
      · rw [List.lookup_cons, beq_self_eq_true] at h; exact h
      · exfalso
        rename_i hf
        have : ∀ (M : List (Nat × Value)), (M.filter fun x => f x.1).lookup i = none := by
          intro M; induction M with
          | nil => rfl
          | cons y s ih =>
            rw [List.filter_cons]; split
            · rename_i hy
              rw [List.lookup_cons]; have hne : (i == y.1) = false := by
                rw [beq_eq_false_iff_ne]; rintro rfl; exact hf hy
              rw [hne]; exact ih
            · exact ih
        rw [this] at h; cases h
    · rw [beq_eq_false_iff_ne.2 e]
      rw [List.filter_cons] at h; split at h
      · rw [List.lookup_cons, beq_eq_false_iff_ne.2 e] at h
        exact lookup_filter f r i v h
      · exact lookup_filter f r i v h
theorem FrL.keep (F : FrL n L a) (ks : List Nat) : FrL n (L.filter fun x => ks.contains x.1) a := ⟨F.size, F.defers, fun i v h => F.at' i v (lookup_filter (fun j => ks.contains j) L i v h)⟩
theorem wanted_free (hg : o.guard = none) : Region.wanted o (yielded ops a.tmps) = true := free_want hg
theorem wanted_at (F : FrL n L a) {g t : Nat} {b want : Bool} (hg : o.guard = some (g, want)) (hy : (ops[g]?).bind (·.dst) = some t) (hb : L.lookup t = some (.bool b)) : Region.wanted o (yielded ops a.tmps) = (b == want) := by
  unfold Region.wanted yielded; rw [hg]; simp only [hy, Option.bind_some, F.at' t _ hb]; cases b <;> cases want <;> rfl
theorem fr_do (F : FrL n L a) (hw : Region.wanted o (yielded ops a.tmps) = true) (s : Nat) (hd : o.dst = some s) (hs : s < n) (v : Value) (he : ∀ a', FrL n L a' → (execOp a'.eval o).run P w = .ok (.value v) w)
    (k : ∀ a', FrL n ((s, v) :: L) a' → wpList P ops Q rest a' w) : wpList P ops Q (o :: rest) a w := by
  refine wl_do hw (he a F) ?_; rw [hd]; exact k _ (F.put s v hs)
theorem fr_left (F : FrL n L a) (hw : Region.wanted o (yielded ops a.tmps) = false) (s : Nat) (hd : o.dst = some s) (hs : s < n) (k : ∀ a', FrL n ((s, undef) :: L) a' → wpList P ops Q rest a' w) : wpList P ops Q (o :: rest) a w := by
  refine wpList_left hw ?_; rw [hd]; exact k _ (F.put s undef hs)
theorem fr_call (F : FrL n L a) (hw : Region.wanted o (yielded ops a.tmps) = true) (s : Nat) (hd : o.dst = some s) (hs : s < n) (f : FuncId) (args : Array Value) (he : ∀ a', FrL n L a' → (execOp a'.eval o).run P w = .ok (.enter f args) w)
    {R : Ending → World → Prop} (hc : Calls P f args w R) (k : ∀ e w', R e w' → ∃ v, e = .returned v ∧ ∀ a', FrL n ((s, v) :: L) a' → wpList P ops Q rest a' w') : wpList P ops Q (o :: rest) a w :=
  wpList_step fun K hK => by
    rw [if_pos hw]; unfold Oper.wp; rw [he a F]; refine Calls.mono hc ?_; intro e w' r; obtain ⟨v, rfl, kv⟩ := k e w' r; rw [hd]; exact hK _ _ (kv _ (F.put s v hs))
theorem fr_ask (F : FrL n L a) (hw : Region.wanted o (yielded ops a.tmps) = true) (s : Nat) (hd : o.dst = some s) (hs : s < n) (f : FuncId) (args : Array Value) (he : ∀ a', FrL n L a' → (execOp a'.eval o).run P w = .ok (.enter f args) w)
    {v : Value} (hc : Calls P f args w fun e w' => e = .returned v ∧ w = w') (k : ∀ a', FrL n ((s, v) :: L) a' → wpList P ops Q rest a' w) : wpList P ops Q (o :: rest) a w :=
  fr_call F hw s hd hs f args he hc (by rintro e w' ⟨rfl, rfl⟩; exact ⟨_, rfl, k⟩)
def setMany (old : Array Value) : Nat → List Value → Array Value
  | _, [] => old
  | j, v :: r => setMany (old.setIfInBounds j v) (j + 1) r
theorem keep_setCells {w0 : World} {R : List Row} {i X : Nat} {T : TypeId} : ∀ (vs : List Value) (j : Nat) (old : Array Value) (B : List Box) (w : World), Keep w0 B R w → B[i]? = some (X, old, T) → Keep w0 (B.set i (X, setMany old j vs, T)) R (w.setCells X j vs)
  | [], j, old, B, w, h, hi => by
    have e : B.set i (X, old, T) = B := by
      obtain ⟨hlt, h3⟩ := List.getElem?_eq_some_iff.1 hi; rw [← h3, List.set_getElem_self]
    show Keep w0 (B.set i (X, old, T)) R w; rw [e]; exact h
  | v :: r, j, old, B, w, h, hi => by
    have h2 := h.set hi j v rfl; have hi2 : (B.set i (X, old.setIfInBounds j v, T))[i]? = some (X, old.setIfInBounds j v, T) := by
      rw [List.getElem?_set_self]
      · exact (List.getElem?_eq_some_iff.1 hi).1
    have h3 := keep_setCells r (j + 1) _ _ _ h2 hi2; rw [List.set_set] at h3; exact h3
theorem run_put {P : Program} (w : World) (b o : Nat) (ty : TypeId) (v : Value) (ht : w.there b o v.cells.size) (hi : (P.info? ty).map (·.size) = some v.cells.size) (h1 : v.cells.all (·.oneCell') = true) :
    (storeVar ty ⟨b, o, none⟩ v).run P w = .ok () (w.setCells b o v.cells.toList) := by
  have := run_storeCells_cells (P := P) b o v.cells.toList 0 w (fun j hj => by simpa using (ht j (by simpa using hj)).1) (fun j hj => by simpa using (ht j (by simpa using hj)).2)
    (fun v hv => (Array.all_eq_true_iff_forall_mem.1 h1) v (by simpa using hv))
  cases hq : P.info? ty with
  | none => simp [hq] at hi
  | some i =>
    have hs : v.cells.size = i.size := by simp [hq] at hi; omega
    simp only [Nat.add_zero] at this; simp [storeVar, sizeOf, typeInfo, hq, hs, this]
theorem box_there {w : World} {X : Nat} {cs : Array Value} {T : TypeId} (h : BoxAt w X cs T) (j m : Nat) (hm : j + m ≤ cs.size) : w.there X j m := fun i hi => by
  refine ⟨?_, h.frozen _⟩; rw [h.cells, Array.getElem?_eq_getElem (by omega)]; rfl
theorem fr_put (F : FrL n L a) {w0 : World} {B : List Box} {R : List Row} (HK : Keep w0 B R w) (i : Nat) {X : Nat} {old : Array Value} {T : TypeId} (hi : B[i]? = some (X, old, T)) (hg : o.guard = none) (hd : o.dst = none) (ty : TypeId) (x y : Operand) (ho : o.op = .store ty x y) (j : Nat) (v : Value)
    (hx : ∀ a', FrL n L a' → a'.eval x = .pointer (some ⟨X, j, none⟩)) (hy : ∀ a', FrL n L a' → a'.eval y = v) (hz : (P.info? ty).map (·.size) = some v.cells.size) (hfit : j + v.cells.size ≤ old.size) (h1 : v.cells.all (·.oneCell') = true)
    (k : ∀ a' w', FrL n L a' → Keep w0 (B.set i (X, setMany old j v.cells.toList, T)) R w' → wpList P ops Q rest a' w') : wpList P ops Q (o :: rest) a w :=
  wpList_plain hg fun K hK => by
    have hb := HK.at i hi; unfold Oper.wp execOp; simp only [ho, hx a F, hy a F, Instr.storeAt, Instr.sureAddr, Sem.run_bind, Sem.run_pure, Result.andThen_ok, run_put w X j ty v (box_there hb j _ hfit) hz h1]; show K (a.put o.dst undef) _; rw [hd]; exact hK _ _ (k _ _ F (keep_setCells _ _ _ _ _ HK hi))
theorem run_load_box {P : Program} {w : World} {o : Oper} {ρ : Operand → Value} {ty : TypeId} {x : Operand} {X : Nat} {cs : Array Value} {T : TypeId} {d : TypeDesc} (ho : o.op = .load ty x) (hx : ρ x = .pointer (some ⟨X, 0, none⟩)) (hb : BoxAt w X cs T)
    (hu : P.underlying ty = some d) (hd : (match d with | .struct _ | .array _ _ => true | _ => false) = true) (hi : (P.info? ty).map (·.size) = some cs.size) : (execOp ρ o).run P w = .ok (.value (.agg cs)) w := by
  unfold execOp; simp only [ho, hx, Instr.loadAt, Instr.sureAddr, Sem.run_bind, Sem.run_pure, Result.andThen_ok, run_loadVar_row w X T ty cs (0, 0) d hb hu hd hi]
theorem fr_store (F : FrL n L a) {w0 : World} {B : List Box} {R : List Row} (HK : Keep w0 B R w) (i : Nat) {X : Nat} {old : Array Value} {T : TypeId} (hi : B[i]? = some (X, old, T)) (hg : o.guard = none) (hd : o.dst = none) (ty : TypeId) (x y : Operand) (ho : o.op = .store ty x y) (cs : Array Value)
    (hx : ∀ a', FrL n L a' → a'.eval x = .pointer (some ⟨X, 0, none⟩)) (hy : ∀ a', FrL n L a' → a'.eval y = .agg cs) (hz : (P.info? ty).map (·.size) = some cs.size) (hold : old.size = cs.size) (h1 : cs.all (·.oneCell') = true)
    (k : ∀ a' w', FrL n L a' → Keep w0 (B.set i (X, cs, T)) R w' → wpList P ops Q rest a' w') : wpList P ops Q (o :: rest) a w := by
  refine wpList_store_box hg ty x y ho X cs (hx a F) (hy a F) T old (HK.at i hi) hz hold h1 ?_; intro w' hbx hon; rw [hd]; exact k _ _ F (HK.only hi hon hbx)
theorem FrL.nil (h1 : a.tmps.size = n) (h2 : a.defers = []) : FrL n [] a := ⟨h1, h2, fun i v h => by simp at h⟩
theorem FrL.add (F : FrL n L a) (i : Nat) (v : Value) (h : a.tmps[i]? = some v) : FrL n ((i, v) :: L) a := ⟨F.size, F.defers, fun j u hj => by
  rw [List.lookup_cons] at hj; by_cases e : j = i
  · subst e
    rw [beq_self_eq_true] at hj; injection hj with hj
    subst hj; exact h
  · rw [beq_eq_false_iff_ne.2 e] at hj
    exact F.at' j u hj⟩
theorem wp_forget {x : Code} (F : FrL n L a) (h : ∀ a', FrL n L a' → x.wp P Q a' w) : x.wp P Q a w := h a F
theorem wp_meet {x : Code} {K : Act → World → Prop} (I : Act → World → Prop) (h1 : x.wp P (Exit.then I Q) a w) (h2 : ∀ a' w', I a' w' → K a' w') : x.wp P (Exit.then K Q) a w :=
  Code.wp_mono (fun e a w q => by cases e <;> first | exact h2 _ _ q | exact q) h1
theorem wp_seq_meet {x y : Code} (I : Act → World → Prop) (h1 : x.wp P (Exit.then I Q) a w) (h2 : ∀ a' w', I a' w' → y.wp P Q a' w') : (Code.seq x y).wp P Q a w :=
  wp_seq (Code.wp_mono (fun e a w q => by cases e <;> first | exact h2 _ _ q | exact q) h1)
end
def alone (P : Program) {α : Type} : Sem α → Option α
  | .pure a => some a
  | .program k => alone P (k P)
  | .mark _ k => alone P k
  | _ => none
theorem alone_run {P : Program} {α : Type} (s : Sem α) : ∀ (x : α), alone P s = some x → ∀ w, s.run P w = .ok x w := by
  induction s with
  | pure a => intro x h w; simp only [alone, Option.some.injEq] at h; subst h; rfl
  | program k ih => intro x h w; exact ih P x h w
  | mark m k ih => intro x h w; exact ih x h w
  | _ => intro x h w; cases h
def known (L : List (Nat × Value)) : Operand → Value
  | .tmp t => (L.lookup t).getD undef
  | .const v => v
  | .global g => .pointer (some ⟨g, 0, none⟩)
  | .func f => .func (.func f) #[] #[]
def inDom (L : List (Nat × Value)) : Operand → Bool
  | .tmp t => (L.lookup t).isSome
  | _ => true
def wants (ops : Array Oper) (L : List (Nat × Value)) (o : Oper) : Option Bool :=
  match o.guard with
  | none => some true
  | some (g, want) => match (ops[g]?).bind (·.dst) with
    | none => none
    | some t => match L.lookup t with
      | some (.bool b) => some (b == want)
      | _ => none
def noSel (o : Op) : Bool := match o with | .select .. => false | _ => true
def stp (P : Program) (ops : Array Oper) (n : Nat) (L : List (Nat × Value)) (o : Oper) : Option (Nat × Value) :=
  match o.dst with
  | none => none
  | some s => if Nat.blt s n then
      match wants ops L o with
      | none => none
      | some false => some (s, undef)
      | some true => if noSel o.op && o.op.operands.toList.all (inDom L) then
          match alone P (execOp (known L) o) with
          | some (.value v) => some (s, v)
          | _ => none
        else none
    else none
def chn (P : Program) (ops : Array Oper) (n : Nat) : Nat → List Oper → List (Nat × Value) → Option (List (Nat × Value))
  | 0, _, L => some L
  | _ + 1, [], _ => none
  | k + 1, o :: r, L => match stp P ops n L o with
    | none => none
    | some x => chn P ops n k r (x :: L)
def picks (L : List (Nat × Value)) : List Nat → Option (List (Nat × Value))
  | [] => some []
  | i :: r => match L.lookup i with
    | none => none
    | some v => match picks L r with
      | none => none
      | some N => some ((i, v) :: N)
def dsts : Nat → List Oper → List Nat
  | 0, _ => []
  | _ + 1, [] => []
  | k + 1, o :: r => match o.dst with
    | some s => s :: dsts k r
    | none => dsts k r
def run (P : Program) (ops : Array Oper) (n k : Nat) (os : List Oper) (L : List (Nat × Value)) (ids : List Nat) : Option (List (Nat × Value)) :=
  if (dsts k os).all (fun s => ids.contains s || !(L.lookup s).isSome) then
    match chn P ops n k os L with
    | none => none
    | some L2 => picks L2 ids
  else none
section
variable {P : Program} {ops : Array Oper} {a : Act} {w : World} {Q : Exit → Act → World → Prop} {n : Nat} {L : List (Nat × Value)}
theorem known_ev (F : FrL n L a) {x : Operand} (h : inDom L x = true) : a.eval x = known L x := by
  cases x with
  | tmp t =>
    have h2 : (L.lookup t).isSome = true := h; obtain ⟨v, hv⟩ := Option.isSome_iff_exists.1 h2; rw [F.ev t hv]; show v = (L.lookup t).getD undef; rw [hv]; rfl
  | const v => rfl
  | global g => rfl
  | func f => rfl
theorem wants_spec (F : FrL n L a) {o : Oper} {b : Bool} (h : wants ops L o = some b) : Region.wanted o (yielded ops a.tmps) = b := by
  unfold wants at h; split at h
  · rename_i hg
    injection h with h
    rw [← h]; exact free_want hg
  · rename_i g want hg
    split at h
    · cases h
    · rename_i t ht
      split at h
      · rename_i b2 hb
        injection h with h
        rw [← h]; exact wanted_at F hg ht hb
      · cases h
theorem stp_spec (F : FrL n L a) {o : Oper} {rest : List Oper} {s : Nat} {v : Value} (h : stp P ops n L o = some (s, v)) (k : ∀ a', FrL n ((s, v) :: L) a' → wpList P ops Q rest a' w) : wpList P ops Q (o :: rest) a w := by
  unfold stp at h; split at h
  · cases h
  · rename_i s' hd
    split at h
    · rename_i hs
      have hs' : s' < n := Nat.le_of_ble_eq_true hs; split at h
      · cases h
      · rename_i hw
        injection h with h
        injection h with h1 h2
        subst h1 h2; exact fr_left F (wants_spec F hw) s' hd hs' k
      · rename_i hw
        split at h
        · rename_i hc
          split at h
          · rename_i v' he
            injection h with h
            injection h with h1 h2
            subst h1 h2; rw [Bool.and_eq_true] at hc; refine fr_do F (wants_spec F hw) s' hd hs' v' (fun a' F' => ?_) k; rw [execOp_congr o (fun cs b e => by have h3 := hc.1; rw [e] at h3; cases h3) (fun x hx => known_ev F' (List.all_eq_true.1 hc.2 x (by simpa using hx)))]; exact alone_run _ _ he w
          · cases h
        · cases h
    · cases h
theorem chn_spec : ∀ (k : Nat) (os : List Oper) (L : List (Nat × Value)) (a : Act) (L2 : List (Nat × Value)), FrL n L a → chn P ops n k os L = some L2 → (∀ a', FrL n L2 a' → wpList P ops Q (os.drop k) a' w) → wpList P ops Q os a w
  | 0, os, L, a, L2, F, h, kont => by
    simp only [chn, Option.some.injEq] at h; subst h; exact kont a F
  | k + 1, [], L, a, L2, F, h, kont => by cases h
  | k + 1, o :: r, L, a, L2, F, h, kont => by
    simp only [chn] at h; split at h
    · cases h
    · rename_i x hx
      obtain ⟨s, v⟩ := x; exact stp_spec F hx fun a' F' => chn_spec k r _ a' L2 F' h kont
theorem picks_spec (F : FrL n L a) : ∀ (ids : List Nat) (N : List (Nat × Value)), picks L ids = some N → (∀ i v, N.lookup i = some v → L.lookup i = some v) ∧ N.map (·.1) = ids
  | [], N, h => by
    simp only [picks, Option.some.injEq] at h; subst h; exact ⟨fun i v h => by simp at h, rfl⟩
  | i :: r, N, h => by
    simp only [picks] at h; split at h
    · cases h
    · rename_i v hv
      split at h
      · cases h
      · rename_i N' hN
        injection h with h
        subst h; obtain ⟨h1, h2⟩ := picks_spec F r N' hN; refine ⟨fun j u hj => ?_, by rw [List.map_cons, h2]⟩; rw [List.lookup_cons] at hj; by_cases e : j = i
        · subst e
          rw [beq_self_eq_true] at hj; injection hj with hj
          subst hj; exact hv
        · rw [beq_eq_false_iff_ne.2 e] at hj
          exact h1 j u hj
theorem lookup_none_of {i : Nat} : ∀ (N : List (Nat × Value)), N.lookup i = none → i ∉ N.map (·.1)
  | [], _ => by simp
  | (j, u) :: r, h => by
    rw [List.lookup_cons] at h; by_cases e : i = j
    · subst e; rw [beq_self_eq_true] at h; cases h
    · rw [beq_eq_false_iff_ne.2 e] at h
      simp only [List.map_cons, List.mem_cons, not_or]; exact ⟨e, lookup_none_of r h⟩
theorem lookup_app : ∀ (N L : List (Nat × Value)) (i : Nat) (v : Value), (N ++ L).lookup i = some v → N.lookup i = some v ∨ (N.lookup i = none ∧ L.lookup i = some v)
  | [], L, i, v, h => Or.inr ⟨rfl, h⟩
  | (j, u) :: r, L, i, v, h => by
    rw [List.cons_append, List.lookup_cons] at h; rw [List.lookup_cons]; by_cases e : i = j
    · subst e
      rw [beq_self_eq_true] at h ⊢; exact Or.inl h
    · rw [beq_eq_false_iff_ne.2 e] at h ⊢
      exact lookup_app r L i v h
theorem chn_old : ∀ (k : Nat) (os : List Oper) (L L2 : List (Nat × Value)), chn P ops n k os L = some L2 → ∀ i v, L.lookup i = some v → i ∉ dsts k os → L2.lookup i = some v
  | 0, os, L, L2, h, i, v, hv, _ => by
    simp only [chn, Option.some.injEq] at h; subst h; exact hv
  | k + 1, [], L, L2, h, i, v, hv, _ => by cases h
  | k + 1, o :: r, L, L2, h, i, v, hv, hi => by
    simp only [chn] at h; split at h
    · cases h
    · rename_i x hx
      obtain ⟨s, u⟩ := x; have hd : o.dst = some s := by
        unfold stp at hx; split at hx
        · cases hx
        · rename_i s' hd
          rw [hd]; split at hx
          · split at hx
            · cases hx
            · injection hx with hx; injection hx with h1 _; rw [h1]
            · split at hx
              · split at hx
                · injection hx with hx; injection hx with h1 _; rw [h1]
                · cases hx
              · cases hx
          · cases hx
      simp only [dsts, hd, List.mem_cons, not_or] at hi; refine chn_old k r _ L2 h i v ?_ hi.2; rw [List.lookup_cons, beq_eq_false_iff_ne.2 hi.1]; exact hv
theorem fr_ch {os : List Oper} (F : FrL n L a) (k : Nat) (N : List (Nat × Value)) (h : run P ops n k os L (N.map (·.1)) = some N) (kont : ∀ a', FrL n (N ++ L) a' → wpList P ops Q (os.drop k) a' w) : wpList P ops Q os a w := by
  unfold run at h; split at h
  · rename_i hall
    split at h
    · cases h
    · rename_i L2 hL2
      refine chn_spec k os L a L2 F hL2 fun a' F' => kont a' ?_
      obtain ⟨h1, _⟩ := picks_spec F' _ N h; refine ⟨F'.size, F'.defers, fun i v hv => F'.at' i v ?_⟩; rcases lookup_app N L i v hv with h2 | ⟨h2, h3⟩
      · exact h1 i v h2
      · refine chn_old k os L L2 hL2 i v h3 (fun hm => ?_)
        have h4 := List.all_eq_true.1 hall i hm; rw [h3] at h4; simp only [Option.isSome_some, Bool.not_true, Bool.or_false, List.contains_iff_mem] at h4; exact lookup_none_of N h2 h4
  · cases h
theorem FrL.cut (F : FrL n L a) (N : List (Nat × Value)) (h : picks L (N.map (·.1)) = some N) : FrL n N a := ⟨F.size, F.defers, fun i v hv => F.at' i v ((picks_spec F _ N h).1 i v hv)⟩
end
end Go.Proofs.YtnnpokndajpkiaaDoor
namespace Go.Proofs.YtnnpokndajpkiaaDoor
open Go.RowKit
theorem z_u8 : (Tryd.prog.info? 5).map (·.size) = some 1 := by kernel_rfl
theorem z_u16 : (Tryd.prog.info? 35).map (·.size) = some 1 := by kernel_rfl
theorem z_bool : (Tryd.prog.info? 4).map (·.size) = some 1 := by kernel_rfl
theorem z_str : (Tryd.prog.info? 9).map (·.size) = some 1 := by kernel_rfl
theorem z_subs : (Tryd.prog.info? 38).map (·.size) = some 1 := by kernel_rfl
theorem z_msg : (Tryd.prog.info? 37).map (·.size) = some 4 := by kernel_rfl
theorem run_build_to {P : Program} {w : World} {o : Oper} {ρ : Operand → Value} {t : TypeId} {parts : Array (Nat × Operand)} {cells : Array Value} (ho : o.op = .build t parts) (hf : P.built t (parts.map fun (i, x) => (i, ρ x)).toList = some cells) : (execOp ρ o).run P w = .ok (.value (.agg cells)) w := by
  unfold execOp; simp only [ho, Sem.run_bind, run_build w t _ cells hf, Result.andThen_ok, Sem.run_pure]
end Go.Proofs.YtnnpokndajpkiaaDoor
