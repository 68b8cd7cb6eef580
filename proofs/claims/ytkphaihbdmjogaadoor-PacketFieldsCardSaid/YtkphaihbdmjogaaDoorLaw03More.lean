/- The walk of law03's more: a packet with one field another one, and the types that have that field. Conditions: a machine's bounds on the packet's sizes. -/
import Derived.Test.YtkphaihbdmjogaaDoorLaw03Great
import Derived.Laws.ResultCell
namespace Go.Proofs.YtkphaihbdmjogaaDoor
open Go.RowKit

/-- The types that have a field, as the law tells them. -/
def kindsB (f : Nat) : ByteArray := if f = 3 then b1 [51, 52, 53, 54, 55, 56, 57, 97, 98] else if f = 15 ∨ f = 16 then b1 [50] else if f = 0 ∨ f = 1 ∨ f = 2 ∨ f = 4 ∨ f = 5 then b1 [51] else if f < 15 then b1 [49] else b1 [57]
theorem results_cell_row2 {P : Program} {fn : Func} {p u : Tmp} {ty : TypeId} (h : fn.results = #[.cell p ty, .tmp u]) (tmps : Array Value) (w : World) (g : Nat) (t : TypeId) (cs : Array Value) (fr : Nat × Nat) (d : TypeDesc)
    (hp : tmps.getD p undef = .pointer (some ⟨g, 0, none⟩)) (hg : w.heap[g]? = some (.cells cs t fr))
    (hu : P.underlying ty = some d) (hd : (match d with | .struct _ | .array _ _ => true | _ => false) = true) (hi : (P.info? ty).map (·.size) = some cs.size) (v : Value) (hv : tmps.getD u undef = v) :
    (results fn tmps).run P w = .ok (.tuple #[.agg cs, v]) w := by
  have hp' : tmps[p]?.getD undef = .pointer (some ⟨g, 0, none⟩) := by simpa using hp
  have hv' : tmps[u]?.getD undef = v := by simpa using hv
  simp [results, h, hp', hv', asAddr, run_loadVar_row w g t ty cs fr d hg hu hd hi]
theorem wrap8 (n : Nat) : IntKind.u8.wrap ((n : Int) + 1) = (((n + 1) % 256 : Nat) : Int) := by
  show (((n : Int) + 1) % 256) = _
  omega
theorem wrap16 (n : Nat) : IntKind.u16.wrap ((n : Int) + 1) = (((n + 1) % 65536 : Nat) : Int) := by
  show (((n : Int) + 1) % 65536) = _
  omega

set_option maxRecDepth 100000 in
set_option maxHeartbeats 1000000 in
theorem more_0 (p : Pk) (a : Option Addr) (c : Nat) (w : World) (hE : Env w) (hp : PkOk p) : Calls Tryd.prog 26 #[.agg (pkV p a c), .int .i64 0] w fun e w' => e = .returned (.tuple #[.agg (pkV (moreF p 0) a c), .string (kindsB 0)]) ∧ Below w.heap.size w w' := by
  have HK := Lib.hid (((Keep.begin hE [] (by intro r hr; cases hr)).alloc' (pkV p a c) 27 w.heap.size rfl).alloc' (pkV Pk.zero none 0) 27 (w.heap.size + 1) (by simp))
  clear hp hE
  obtain ⟨k0, k1, k2, k3, k4, k5, k6, k7, k8, k9, k10, k11, k12, k13, k14, k15, k16, k17, k18, k19, k20, k21, k22, k23⟩ := pk_at p a c
  go_enter Tryd.func26, Tryd.ntmps26
  go_upto_region 1 with (fail)
  show Code.wp _ _ _ _ ((w.alloc (.cells (pkV p a c) 27)).alloc (.cells (pkV Pk.zero none 0) 27))
  generalize World.alloc (World.alloc w _) _ = w1 at HK ⊢
  have hX1 := (HK.out.at 1 rfl).cells
  have hF1 := (HK.out.at 1 rfl).frozen
  go_wp2_with (first
    | ((with_reducible show wpList _ _ _ (⟨some 13, _, _, _, _, _⟩ :: _) _ _); replace HK := Lib.hid (HK.out.set (i := 1) (cs := pkV (moreF p 0) a c) rfl 1 (.bool (!p.dup)) rfl); generalize hgw : World.setCell _ _ _ = w2 at HK ⊢; clear hgw; refine wpList_load_box rfl 27 _ rfl _ rfl 27 _ (HK.out.at 1 rfl) _ Tryd.underlying27 rfl (pk_size _ _ _) ?_)
    | ((with_reducible show wpList _ _ _ (⟨none, .store 27 _ _, _, _, _, _⟩ :: _) _ _); refine wpList_store_box rfl 27 _ _ rfl (w.heap.size + 1) (pkV (moreF p 0) a c) rfl rfl 27 (pkV Pk.zero none 0) (HK.out.at 0 rfl) (pk_size _ _ _) rfl (pk_one _ _ _) ?_; intro w3 hbx hon; replace HK := Lib.hid (HK.out.only (i := 0) rfl hon hbx)))
  exact bodyPost_ret (results_cell_row2 rfl _ _ (w.heap.size + 1) 27 _ (0, 0) _ rfl (HK.out.at 0 rfl) Tryd.underlying27 rfl (pk_size _ _ _) _ rfl) rfl ⟨rfl, HK.out.low⟩

set_option maxRecDepth 100000 in
set_option maxHeartbeats 1000000 in
theorem more_1 (p : Pk) (a : Option Addr) (c : Nat) (w : World) (hE : Env w) (hp : PkOk p) : Calls Tryd.prog 26 #[.agg (pkV p a c), .int .i64 1] w fun e w' => e = .returned (.tuple #[.agg (pkV (moreF p 1) a c), .string (kindsB 1)]) ∧ Below w.heap.size w w' := by
  have HK := Lib.hid (((Keep.begin hE [] (by intro r hr; cases hr)).alloc' (pkV p a c) 27 w.heap.size rfl).alloc' (pkV Pk.zero none 0) 27 (w.heap.size + 1) (by simp))
  obtain ⟨q, hq⟩ : ∃ q, (p.qos + 1) % 256 = q := ⟨_, rfl⟩
  have hwr := wrap8 p.qos
  rw [hq] at hwr
  have HM := Lib.hid (show moreF p 1 = { p with qos := q } by show ({ p with qos := _ } : Pk) = _; rw [hq])
  clear hq
  clear hp hE
  obtain ⟨k0, k1, k2, k3, k4, k5, k6, k7, k8, k9, k10, k11, k12, k13, k14, k15, k16, k17, k18, k19, k20, k21, k22, k23⟩ := pk_at p a c
  go_enter Tryd.func26, Tryd.ntmps26
  go_upto_region 1 with (fail)
  show Code.wp _ _ _ _ ((w.alloc (.cells (pkV p a c) 27)).alloc (.cells (pkV Pk.zero none 0) 27))
  generalize World.alloc (World.alloc w _) _ = w1 at HK ⊢
  have hX1 := (HK.out.at 1 rfl).cells
  have hF1 := (HK.out.at 1 rfl).frozen
  go_wp2_with (first
    | ((with_reducible show wpList _ _ _ (⟨some 20, _, _, _, _, _⟩ :: _) _ _); replace HK := Lib.hid (HK.out.set (i := 1) (cs := pkV { p with qos := q } a c) rfl 2 (.int .u8 (q : Int)) rfl); generalize hgw : World.setCell _ _ _ = w2 at HK ⊢; clear hgw; refine wpList_load_box rfl 27 _ rfl _ rfl 27 _ (HK.out.at 1 rfl) _ Tryd.underlying27 rfl (pk_size _ _ _) ?_)
    | ((with_reducible show wpList _ _ _ (⟨none, .store 27 _ _, _, _, _, _⟩ :: _) _ _); refine wpList_store_box rfl 27 _ _ rfl (w.heap.size + 1) (pkV { p with qos := q } a c) rfl rfl 27 (pkV Pk.zero none 0) (HK.out.at 0 rfl) (pk_size _ _ _) rfl (pk_one _ _ _) ?_; intro w3 hbx hon; replace HK := Lib.hid (HK.out.only (i := 0) rfl hon hbx)))
  rw [HM.out]
  exact bodyPost_ret (results_cell_row2 rfl _ _ (w.heap.size + 1) 27 _ (0, 0) _ rfl (HK.out.at 0 rfl) Tryd.underlying27 rfl (pk_size _ _ _) _ rfl) rfl ⟨rfl, HK.out.low⟩

set_option maxRecDepth 100000 in
set_option maxHeartbeats 1000000 in
theorem more_2 (p : Pk) (a : Option Addr) (c : Nat) (w : World) (hE : Env w) (hp : PkOk p) : Calls Tryd.prog 26 #[.agg (pkV p a c), .int .i64 2] w fun e w' => e = .returned (.tuple #[.agg (pkV (moreF p 2) a c), .string (kindsB 2)]) ∧ Below w.heap.size w w' := by
  have HK := Lib.hid (((Keep.begin hE [] (by intro r hr; cases hr)).alloc' (pkV p a c) 27 w.heap.size rfl).alloc' (pkV Pk.zero none 0) 27 (w.heap.size + 1) (by simp))
  clear hp hE
  obtain ⟨k0, k1, k2, k3, k4, k5, k6, k7, k8, k9, k10, k11, k12, k13, k14, k15, k16, k17, k18, k19, k20, k21, k22, k23⟩ := pk_at p a c
  go_enter Tryd.func26, Tryd.ntmps26
  go_upto_region 1 with (fail)
  show Code.wp _ _ _ _ ((w.alloc (.cells (pkV p a c) 27)).alloc (.cells (pkV Pk.zero none 0) 27))
  generalize World.alloc (World.alloc w _) _ = w1 at HK ⊢
  have hX1 := (HK.out.at 1 rfl).cells
  have hF1 := (HK.out.at 1 rfl).frozen
  go_wp2_with (first
    | ((with_reducible show wpList _ _ _ (⟨some 27, _, _, _, _, _⟩ :: _) _ _); replace HK := Lib.hid (HK.out.set (i := 1) (cs := pkV (moreF p 2) a c) rfl 3 (.bool (!p.ret)) rfl); generalize hgw : World.setCell _ _ _ = w2 at HK ⊢; clear hgw; refine wpList_load_box rfl 27 _ rfl _ rfl 27 _ (HK.out.at 1 rfl) _ Tryd.underlying27 rfl (pk_size _ _ _) ?_)
    | ((with_reducible show wpList _ _ _ (⟨none, .store 27 _ _, _, _, _, _⟩ :: _) _ _); refine wpList_store_box rfl 27 _ _ rfl (w.heap.size + 1) (pkV (moreF p 2) a c) rfl rfl 27 (pkV Pk.zero none 0) (HK.out.at 0 rfl) (pk_size _ _ _) rfl (pk_one _ _ _) ?_; intro w3 hbx hon; replace HK := Lib.hid (HK.out.only (i := 0) rfl hon hbx)))
  exact bodyPost_ret (results_cell_row2 rfl _ _ (w.heap.size + 1) 27 _ (0, 0) _ rfl (HK.out.at 0 rfl) Tryd.underlying27 rfl (pk_size _ _ _) _ rfl) rfl ⟨rfl, HK.out.low⟩

set_option maxRecDepth 100000 in
set_option maxHeartbeats 1000000 in
theorem more_3 (p : Pk) (a : Option Addr) (c : Nat) (w : World) (hE : Env w) (hp : PkOk p) : Calls Tryd.prog 26 #[.agg (pkV p a c), .int .i64 3] w fun e w' => e = .returned (.tuple #[.agg (pkV (moreF p 3) a c), .string (kindsB 3)]) ∧ Below w.heap.size w w' := by
  have HK := Lib.hid (((Keep.begin hE [] (by intro r hr; cases hr)).alloc' (pkV p a c) 27 w.heap.size rfl).alloc' (pkV Pk.zero none 0) 27 (w.heap.size + 1) (by simp))
  obtain ⟨q, hq⟩ : ∃ q, (p.id + 1) % 65536 = q := ⟨_, rfl⟩
  have hwr := wrap16 p.id
  rw [hq] at hwr
  have HM := Lib.hid (show moreF p 3 = { p with id := q } by show ({ p with id := _ } : Pk) = _; rw [hq])
  clear hq
  clear hp hE
  obtain ⟨k0, k1, k2, k3, k4, k5, k6, k7, k8, k9, k10, k11, k12, k13, k14, k15, k16, k17, k18, k19, k20, k21, k22, k23⟩ := pk_at p a c
  go_enter Tryd.func26, Tryd.ntmps26
  go_upto_region 1 with (fail)
  show Code.wp _ _ _ _ ((w.alloc (.cells (pkV p a c) 27)).alloc (.cells (pkV Pk.zero none 0) 27))
  generalize World.alloc (World.alloc w _) _ = w1 at HK ⊢
  have hX1 := (HK.out.at 1 rfl).cells
  have hF1 := (HK.out.at 1 rfl).frozen
  go_wp2_with (first
    | ((with_reducible show wpList _ _ _ (⟨some 34, _, _, _, _, _⟩ :: _) _ _); replace HK := Lib.hid (HK.out.set (i := 1) (cs := pkV { p with id := q } a c) rfl 4 (.int .u16 (q : Int)) rfl); generalize hgw : World.setCell _ _ _ = w2 at HK ⊢; clear hgw; refine wpList_load_box rfl 27 _ rfl _ rfl 27 _ (HK.out.at 1 rfl) _ Tryd.underlying27 rfl (pk_size _ _ _) ?_)
    | ((with_reducible show wpList _ _ _ (⟨none, .store 27 _ _, _, _, _, _⟩ :: _) _ _); refine wpList_store_box rfl 27 _ _ rfl (w.heap.size + 1) (pkV { p with id := q } a c) rfl rfl 27 (pkV Pk.zero none 0) (HK.out.at 0 rfl) (pk_size _ _ _) rfl (pk_one _ _ _) ?_; intro w3 hbx hon; replace HK := Lib.hid (HK.out.only (i := 0) rfl hon hbx)))
  rw [HM.out]
  exact bodyPost_ret (results_cell_row2 rfl _ _ (w.heap.size + 1) 27 _ (0, 0) _ rfl (HK.out.at 0 rfl) Tryd.underlying27 rfl (pk_size _ _ _) _ rfl) rfl ⟨rfl, HK.out.low⟩

set_option maxRecDepth 100000 in
set_option maxHeartbeats 1000000 in
theorem more_4 (p : Pk) (a : Option Addr) (c : Nat) (w : World) (hE : Env w) (hp : PkOk p) : Calls Tryd.prog 26 #[.agg (pkV p a c), .int .i64 4] w fun e w' => e = .returned (.tuple #[.agg (pkV (moreF p 4) a c), .string (kindsB 4)]) ∧ Below w.heap.size w w' := by
  have HK := Lib.hid (((Keep.begin hE [] (by intro r hr; cases hr)).alloc' (pkV p a c) 27 w.heap.size rfl).alloc' (pkV Pk.zero none 0) 27 (w.heap.size + 1) (by simp))
  have hsz := hp.topic
  clear hp hE
  obtain ⟨k0, k1, k2, k3, k4, k5, k6, k7, k8, k9, k10, k11, k12, k13, k14, k15, k16, k17, k18, k19, k20, k21, k22, k23⟩ := pk_at p a c
  go_enter Tryd.func26, Tryd.ntmps26
  go_upto_region 1 with (fail)
  show Code.wp _ _ _ _ ((w.alloc (.cells (pkV p a c) 27)).alloc (.cells (pkV Pk.zero none 0) 27))
  generalize World.alloc (World.alloc w _) _ = w1 at HK ⊢
  have hX1 := (HK.out.at 1 rfl).cells
  have hF1 := (HK.out.at 1 rfl).frozen
  go_wp2_with (first
    | ((with_reducible show wpList _ _ _ (⟨some 41, _, _, _, _, _⟩ :: _) _ _); replace HK := Lib.hid (HK.out.set (i := 1) (cs := pkV (moreF p 4) a c) rfl 5 (.string (p.topic ++ ⟨#[116]⟩)) rfl); generalize hgw : World.setCell _ _ _ = w2 at HK ⊢; clear hgw; refine wpList_load_box rfl 27 _ rfl _ rfl 27 _ (HK.out.at 1 rfl) _ Tryd.underlying27 rfl (pk_size _ _ _) ?_)
    | ((with_reducible show wpList _ _ _ (⟨none, .store 27 _ _, _, _, _, _⟩ :: _) _ _); refine wpList_store_box rfl 27 _ _ rfl (w.heap.size + 1) (pkV (moreF p 4) a c) rfl rfl 27 (pkV Pk.zero none 0) (HK.out.at 0 rfl) (pk_size _ _ _) rfl (pk_one _ _ _) ?_; intro w3 hbx hon; replace HK := Lib.hid (HK.out.only (i := 0) rfl hon hbx)))
  exact bodyPost_ret (results_cell_row2 rfl _ _ (w.heap.size + 1) 27 _ (0, 0) _ rfl (HK.out.at 0 rfl) Tryd.underlying27 rfl (pk_size _ _ _) _ rfl) rfl ⟨rfl, HK.out.low⟩

set_option maxRecDepth 100000 in
set_option maxHeartbeats 1000000 in
theorem more_5 (p : Pk) (a : Option Addr) (c : Nat) (w : World) (hE : Env w) (hp : PkOk p) : Calls Tryd.prog 26 #[.agg (pkV p a c), .int .i64 5] w fun e w' => e = .returned (.tuple #[.agg (pkV (moreF p 5) a c), .string (kindsB 5)]) ∧ Below w.heap.size w w' := by
  have HK := Lib.hid (((Keep.begin hE [] (by intro r hr; cases hr)).alloc' (pkV p a c) 27 w.heap.size rfl).alloc' (pkV Pk.zero none 0) 27 (w.heap.size + 1) (by simp))
  have hsz := hp.payload
  clear hp hE
  obtain ⟨k0, k1, k2, k3, k4, k5, k6, k7, k8, k9, k10, k11, k12, k13, k14, k15, k16, k17, k18, k19, k20, k21, k22, k23⟩ := pk_at p a c
  go_enter Tryd.func26, Tryd.ntmps26
  go_upto_region 1 with (fail)
  show Code.wp _ _ _ _ ((w.alloc (.cells (pkV p a c) 27)).alloc (.cells (pkV Pk.zero none 0) 27))
  generalize World.alloc (World.alloc w _) _ = w1 at HK ⊢
  have hX1 := (HK.out.at 1 rfl).cells
  have hF1 := (HK.out.at 1 rfl).frozen
  go_wp2_with (first
    | ((with_reducible show wpList _ _ _ (⟨some 48, _, _, _, _, _⟩ :: _) _ _); replace HK := Lib.hid (HK.out.set (i := 1) (cs := pkV (moreF p 5) a c) rfl 6 (.string (p.payload ++ ⟨#[112]⟩)) rfl); generalize hgw : World.setCell _ _ _ = w2 at HK ⊢; clear hgw; refine wpList_load_box rfl 27 _ rfl _ rfl 27 _ (HK.out.at 1 rfl) _ Tryd.underlying27 rfl (pk_size _ _ _) ?_)
    | ((with_reducible show wpList _ _ _ (⟨none, .store 27 _ _, _, _, _, _⟩ :: _) _ _); refine wpList_store_box rfl 27 _ _ rfl (w.heap.size + 1) (pkV (moreF p 5) a c) rfl rfl 27 (pkV Pk.zero none 0) (HK.out.at 0 rfl) (pk_size _ _ _) rfl (pk_one _ _ _) ?_; intro w3 hbx hon; replace HK := Lib.hid (HK.out.only (i := 0) rfl hon hbx)))
  exact bodyPost_ret (results_cell_row2 rfl _ _ (w.heap.size + 1) 27 _ (0, 0) _ rfl (HK.out.at 0 rfl) Tryd.underlying27 rfl (pk_size _ _ _) _ rfl) rfl ⟨rfl, HK.out.low⟩

set_option maxRecDepth 100000 in
set_option maxHeartbeats 1000000 in
theorem more_6 (p : Pk) (a : Option Addr) (c : Nat) (w : World) (hE : Env w) (hp : PkOk p) : Calls Tryd.prog 26 #[.agg (pkV p a c), .int .i64 6] w fun e w' => e = .returned (.tuple #[.agg (pkV (moreF p 6) a c), .string (kindsB 6)]) ∧ Below w.heap.size w w' := by
  have HK := Lib.hid (((Keep.begin hE [] (by intro r hr; cases hr)).alloc' (pkV p a c) 27 w.heap.size rfl).alloc' (pkV Pk.zero none 0) 27 (w.heap.size + 1) (by simp))
  obtain ⟨q, hq⟩ : ∃ q, (p.level + 1) % 256 = q := ⟨_, rfl⟩
  have hwr := wrap8 p.level
  rw [hq] at hwr
  have HM := Lib.hid (show moreF p 6 = { p with level := q } by show ({ p with level := _ } : Pk) = _; rw [hq])
  clear hq
  clear hp hE
  obtain ⟨k0, k1, k2, k3, k4, k5, k6, k7, k8, k9, k10, k11, k12, k13, k14, k15, k16, k17, k18, k19, k20, k21, k22, k23⟩ := pk_at p a c
  go_enter Tryd.func26, Tryd.ntmps26
  go_upto_region 1 with (fail)
  show Code.wp _ _ _ _ ((w.alloc (.cells (pkV p a c) 27)).alloc (.cells (pkV Pk.zero none 0) 27))
  generalize World.alloc (World.alloc w _) _ = w1 at HK ⊢
  have hX1 := (HK.out.at 1 rfl).cells
  have hF1 := (HK.out.at 1 rfl).frozen
  go_wp2_with (first
    | ((with_reducible show wpList _ _ _ (⟨some 55, _, _, _, _, _⟩ :: _) _ _); replace HK := Lib.hid (HK.out.set (i := 1) (cs := pkV { p with level := q } a c) rfl 7 (.int .u8 (q : Int)) rfl); generalize hgw : World.setCell _ _ _ = w2 at HK ⊢; clear hgw; refine wpList_load_box rfl 27 _ rfl _ rfl 27 _ (HK.out.at 1 rfl) _ Tryd.underlying27 rfl (pk_size _ _ _) ?_)
    | ((with_reducible show wpList _ _ _ (⟨none, .store 27 _ _, _, _, _, _⟩ :: _) _ _); refine wpList_store_box rfl 27 _ _ rfl (w.heap.size + 1) (pkV { p with level := q } a c) rfl rfl 27 (pkV Pk.zero none 0) (HK.out.at 0 rfl) (pk_size _ _ _) rfl (pk_one _ _ _) ?_; intro w3 hbx hon; replace HK := Lib.hid (HK.out.only (i := 0) rfl hon hbx)))
  rw [HM.out]
  exact bodyPost_ret (results_cell_row2 rfl _ _ (w.heap.size + 1) 27 _ (0, 0) _ rfl (HK.out.at 0 rfl) Tryd.underlying27 rfl (pk_size _ _ _) _ rfl) rfl ⟨rfl, HK.out.low⟩

set_option maxRecDepth 100000 in
set_option maxHeartbeats 1000000 in
theorem more_7 (p : Pk) (a : Option Addr) (c : Nat) (w : World) (hE : Env w) (hp : PkOk p) : Calls Tryd.prog 26 #[.agg (pkV p a c), .int .i64 7] w fun e w' => e = .returned (.tuple #[.agg (pkV (moreF p 7) a c), .string (kindsB 7)]) ∧ Below w.heap.size w w' := by
  have HK := Lib.hid (((Keep.begin hE [] (by intro r hr; cases hr)).alloc' (pkV p a c) 27 w.heap.size rfl).alloc' (pkV Pk.zero none 0) 27 (w.heap.size + 1) (by simp))
  clear hp hE
  obtain ⟨k0, k1, k2, k3, k4, k5, k6, k7, k8, k9, k10, k11, k12, k13, k14, k15, k16, k17, k18, k19, k20, k21, k22, k23⟩ := pk_at p a c
  go_enter Tryd.func26, Tryd.ntmps26
  go_upto_region 1 with (fail)
  show Code.wp _ _ _ _ ((w.alloc (.cells (pkV p a c) 27)).alloc (.cells (pkV Pk.zero none 0) 27))
  generalize World.alloc (World.alloc w _) _ = w1 at HK ⊢
  have hX1 := (HK.out.at 1 rfl).cells
  have hF1 := (HK.out.at 1 rfl).frozen
  go_wp2_with (first
    | ((with_reducible show wpList _ _ _ (⟨some 62, _, _, _, _, _⟩ :: _) _ _); replace HK := Lib.hid (HK.out.set (i := 1) (cs := pkV (moreF p 7) a c) rfl 8 (.bool (!p.clean)) rfl); generalize hgw : World.setCell _ _ _ = w2 at HK ⊢; clear hgw; refine wpList_load_box rfl 27 _ rfl _ rfl 27 _ (HK.out.at 1 rfl) _ Tryd.underlying27 rfl (pk_size _ _ _) ?_)
    | ((with_reducible show wpList _ _ _ (⟨none, .store 27 _ _, _, _, _, _⟩ :: _) _ _); refine wpList_store_box rfl 27 _ _ rfl (w.heap.size + 1) (pkV (moreF p 7) a c) rfl rfl 27 (pkV Pk.zero none 0) (HK.out.at 0 rfl) (pk_size _ _ _) rfl (pk_one _ _ _) ?_; intro w3 hbx hon; replace HK := Lib.hid (HK.out.only (i := 0) rfl hon hbx)))
  exact bodyPost_ret (results_cell_row2 rfl _ _ (w.heap.size + 1) 27 _ (0, 0) _ rfl (HK.out.at 0 rfl) Tryd.underlying27 rfl (pk_size _ _ _) _ rfl) rfl ⟨rfl, HK.out.low⟩

set_option maxRecDepth 100000 in
set_option maxHeartbeats 1000000 in
theorem more_8 (p : Pk) (a : Option Addr) (c : Nat) (w : World) (hE : Env w) (hp : PkOk p) : Calls Tryd.prog 26 #[.agg (pkV p a c), .int .i64 8] w fun e w' => e = .returned (.tuple #[.agg (pkV (moreF p 8) a c), .string (kindsB 8)]) ∧ Below w.heap.size w w' := by
  have HK := Lib.hid (((Keep.begin hE [] (by intro r hr; cases hr)).alloc' (pkV p a c) 27 w.heap.size rfl).alloc' (pkV Pk.zero none 0) 27 (w.heap.size + 1) (by simp))
  obtain ⟨q, hq⟩ : ∃ q, (p.keep + 1) % 65536 = q := ⟨_, rfl⟩
  have hwr := wrap16 p.keep
  rw [hq] at hwr
  have HM := Lib.hid (show moreF p 8 = { p with keep := q } by show ({ p with keep := _ } : Pk) = _; rw [hq])
  clear hq
  clear hp hE
  obtain ⟨k0, k1, k2, k3, k4, k5, k6, k7, k8, k9, k10, k11, k12, k13, k14, k15, k16, k17, k18, k19, k20, k21, k22, k23⟩ := pk_at p a c
  go_enter Tryd.func26, Tryd.ntmps26
  go_upto_region 1 with (fail)
  show Code.wp _ _ _ _ ((w.alloc (.cells (pkV p a c) 27)).alloc (.cells (pkV Pk.zero none 0) 27))
  generalize World.alloc (World.alloc w _) _ = w1 at HK ⊢
  have hX1 := (HK.out.at 1 rfl).cells
  have hF1 := (HK.out.at 1 rfl).frozen
  go_wp2_with (first
    | ((with_reducible show wpList _ _ _ (⟨some 69, _, _, _, _, _⟩ :: _) _ _); replace HK := Lib.hid (HK.out.set (i := 1) (cs := pkV { p with keep := q } a c) rfl 9 (.int .u16 (q : Int)) rfl); generalize hgw : World.setCell _ _ _ = w2 at HK ⊢; clear hgw; refine wpList_load_box rfl 27 _ rfl _ rfl 27 _ (HK.out.at 1 rfl) _ Tryd.underlying27 rfl (pk_size _ _ _) ?_)
    | ((with_reducible show wpList _ _ _ (⟨none, .store 27 _ _, _, _, _, _⟩ :: _) _ _); refine wpList_store_box rfl 27 _ _ rfl (w.heap.size + 1) (pkV { p with keep := q } a c) rfl rfl 27 (pkV Pk.zero none 0) (HK.out.at 0 rfl) (pk_size _ _ _) rfl (pk_one _ _ _) ?_; intro w3 hbx hon; replace HK := Lib.hid (HK.out.only (i := 0) rfl hon hbx)))
  rw [HM.out]
  exact bodyPost_ret (results_cell_row2 rfl _ _ (w.heap.size + 1) 27 _ (0, 0) _ rfl (HK.out.at 0 rfl) Tryd.underlying27 rfl (pk_size _ _ _) _ rfl) rfl ⟨rfl, HK.out.low⟩

set_option maxRecDepth 100000 in
set_option maxHeartbeats 1000000 in
theorem more_9 (p : Pk) (a : Option Addr) (c : Nat) (w : World) (hE : Env w) (hp : PkOk p) : Calls Tryd.prog 26 #[.agg (pkV p a c), .int .i64 9] w fun e w' => e = .returned (.tuple #[.agg (pkV (moreF p 9) a c), .string (kindsB 9)]) ∧ Below w.heap.size w w' := by
  have HK := Lib.hid (((Keep.begin hE [] (by intro r hr; cases hr)).alloc' (pkV p a c) 27 w.heap.size rfl).alloc' (pkV Pk.zero none 0) 27 (w.heap.size + 1) (by simp))
  have hsz := hp.client
  clear hp hE
  obtain ⟨k0, k1, k2, k3, k4, k5, k6, k7, k8, k9, k10, k11, k12, k13, k14, k15, k16, k17, k18, k19, k20, k21, k22, k23⟩ := pk_at p a c
  go_enter Tryd.func26, Tryd.ntmps26
  go_upto_region 1 with (fail)
  show Code.wp _ _ _ _ ((w.alloc (.cells (pkV p a c) 27)).alloc (.cells (pkV Pk.zero none 0) 27))
  generalize World.alloc (World.alloc w _) _ = w1 at HK ⊢
  have hX1 := (HK.out.at 1 rfl).cells
  have hF1 := (HK.out.at 1 rfl).frozen
  go_wp2_with (first
    | ((with_reducible show wpList _ _ _ (⟨some 76, _, _, _, _, _⟩ :: _) _ _); replace HK := Lib.hid (HK.out.set (i := 1) (cs := pkV (moreF p 9) a c) rfl 10 (.string (p.client ++ ⟨#[99]⟩)) rfl); generalize hgw : World.setCell _ _ _ = w2 at HK ⊢; clear hgw; refine wpList_load_box rfl 27 _ rfl _ rfl 27 _ (HK.out.at 1 rfl) _ Tryd.underlying27 rfl (pk_size _ _ _) ?_)
    | ((with_reducible show wpList _ _ _ (⟨none, .store 27 _ _, _, _, _, _⟩ :: _) _ _); refine wpList_store_box rfl 27 _ _ rfl (w.heap.size + 1) (pkV (moreF p 9) a c) rfl rfl 27 (pkV Pk.zero none 0) (HK.out.at 0 rfl) (pk_size _ _ _) rfl (pk_one _ _ _) ?_; intro w3 hbx hon; replace HK := Lib.hid (HK.out.only (i := 0) rfl hon hbx)))
  exact bodyPost_ret (results_cell_row2 rfl _ _ (w.heap.size + 1) 27 _ (0, 0) _ rfl (HK.out.at 0 rfl) Tryd.underlying27 rfl (pk_size _ _ _) _ rfl) rfl ⟨rfl, HK.out.low⟩

set_option maxRecDepth 100000 in
set_option maxHeartbeats 1000000 in
theorem more_10 (p : Pk) (a : Option Addr) (c : Nat) (w : World) (hE : Env w) (hp : PkOk p) : Calls Tryd.prog 26 #[.agg (pkV p a c), .int .i64 10] w fun e w' => e = .returned (.tuple #[.agg (pkV (moreF p 10) a c), .string (kindsB 10)]) ∧ Below w.heap.size w w' := by
  have HK := Lib.hid (((Keep.begin hE [] (by intro r hr; cases hr)).alloc' (pkV p a c) 27 w.heap.size rfl).alloc' (pkV Pk.zero none 0) 27 (w.heap.size + 1) (by simp))
  clear hp hE
  obtain ⟨k0, k1, k2, k3, k4, k5, k6, k7, k8, k9, k10, k11, k12, k13, k14, k15, k16, k17, k18, k19, k20, k21, k22, k23⟩ := pk_at p a c
  go_enter Tryd.func26, Tryd.ntmps26
  go_upto_region 1 with (fail)
  show Code.wp _ _ _ _ ((w.alloc (.cells (pkV p a c) 27)).alloc (.cells (pkV Pk.zero none 0) 27))
  generalize World.alloc (World.alloc w _) _ = w1 at HK ⊢
  have hX1 := (HK.out.at 1 rfl).cells
  have hF1 := (HK.out.at 1 rfl).frozen
  go_wp2_with (first
    | ((with_reducible show wpList _ _ _ (⟨some 83, _, _, _, _, _⟩ :: _) _ _); replace HK := Lib.hid (HK.out.set (i := 1) (cs := pkV (moreF p 10) a c) rfl 11 (.bool (!p.hasWill)) rfl); generalize hgw : World.setCell _ _ _ = w2 at HK ⊢; clear hgw; refine wpList_load_box rfl 27 _ rfl _ rfl 27 _ (HK.out.at 1 rfl) _ Tryd.underlying27 rfl (pk_size _ _ _) ?_)
    | ((with_reducible show wpList _ _ _ (⟨none, .store 27 _ _, _, _, _, _⟩ :: _) _ _); refine wpList_store_box rfl 27 _ _ rfl (w.heap.size + 1) (pkV (moreF p 10) a c) rfl rfl 27 (pkV Pk.zero none 0) (HK.out.at 0 rfl) (pk_size _ _ _) rfl (pk_one _ _ _) ?_; intro w3 hbx hon; replace HK := Lib.hid (HK.out.only (i := 0) rfl hon hbx)))
  exact bodyPost_ret (results_cell_row2 rfl _ _ (w.heap.size + 1) 27 _ (0, 0) _ rfl (HK.out.at 0 rfl) Tryd.underlying27 rfl (pk_size _ _ _) _ rfl) rfl ⟨rfl, HK.out.low⟩

set_option maxRecDepth 100000 in
set_option maxHeartbeats 1000000 in
theorem more_11 (p : Pk) (a : Option Addr) (c : Nat) (w : World) (hE : Env w) (hp : PkOk p) : Calls Tryd.prog 26 #[.agg (pkV p a c), .int .i64 11] w fun e w' => e = .returned (.tuple #[.agg (pkV (moreF p 11) a c), .string (kindsB 11)]) ∧ Below w.heap.size w w' := by
  have HK := Lib.hid (((Keep.begin hE [] (by intro r hr; cases hr)).alloc' (pkV p a c) 27 w.heap.size rfl).alloc' (pkV Pk.zero none 0) 27 (w.heap.size + 1) (by simp))
  clear hp hE
  obtain ⟨k0, k1, k2, k3, k4, k5, k6, k7, k8, k9, k10, k11, k12, k13, k14, k15, k16, k17, k18, k19, k20, k21, k22, k23⟩ := pk_at p a c
  go_enter Tryd.func26, Tryd.ntmps26
  go_upto_region 1 with (fail)
  show Code.wp _ _ _ _ ((w.alloc (.cells (pkV p a c) 27)).alloc (.cells (pkV Pk.zero none 0) 27))
  generalize World.alloc (World.alloc w _) _ = w1 at HK ⊢
  have hX1 := (HK.out.at 1 rfl).cells
  have hF1 := (HK.out.at 1 rfl).frozen
  go_wp2_with (first
    | ((with_reducible show wpList _ _ _ (⟨some 92, _, _, _, _, _⟩ :: _) _ _); replace HK := Lib.hid (HK.out.set (i := 1) (cs := pkV (moreF p 11) a c) rfl 15 (.bool (!p.wret)) rfl); generalize hgw : World.setCell _ _ _ = w2 at HK ⊢; clear hgw; refine wpList_load_box rfl 27 _ rfl _ rfl 27 _ (HK.out.at 1 rfl) _ Tryd.underlying27 rfl (pk_size _ _ _) ?_)
    | ((with_reducible show wpList _ _ _ (⟨none, .store 27 _ _, _, _, _, _⟩ :: _) _ _); refine wpList_store_box rfl 27 _ _ rfl (w.heap.size + 1) (pkV (moreF p 11) a c) rfl rfl 27 (pkV Pk.zero none 0) (HK.out.at 0 rfl) (pk_size _ _ _) rfl (pk_one _ _ _) ?_; intro w3 hbx hon; replace HK := Lib.hid (HK.out.only (i := 0) rfl hon hbx)))
  exact bodyPost_ret (results_cell_row2 rfl _ _ (w.heap.size + 1) 27 _ (0, 0) _ rfl (HK.out.at 0 rfl) Tryd.underlying27 rfl (pk_size _ _ _) _ rfl) rfl ⟨rfl, HK.out.low⟩

set_option maxRecDepth 100000 in
set_option maxHeartbeats 1000000 in
theorem more_12 (p : Pk) (a : Option Addr) (c : Nat) (w : World) (hE : Env w) (hp : PkOk p) : Calls Tryd.prog 26 #[.agg (pkV p a c), .int .i64 12] w fun e w' => e = .returned (.tuple #[.agg (pkV (moreF p 12) a c), .string (kindsB 12)]) ∧ Below w.heap.size w w' := by
  have HK := Lib.hid (((Keep.begin hE [] (by intro r hr; cases hr)).alloc' (pkV p a c) 27 w.heap.size rfl).alloc' (pkV Pk.zero none 0) 27 (w.heap.size + 1) (by simp))
  have hsz := hp.user
  clear hp hE
  obtain ⟨k0, k1, k2, k3, k4, k5, k6, k7, k8, k9, k10, k11, k12, k13, k14, k15, k16, k17, k18, k19, k20, k21, k22, k23⟩ := pk_at p a c
  go_enter Tryd.func26, Tryd.ntmps26
  go_upto_region 1 with (fail)
  show Code.wp _ _ _ _ ((w.alloc (.cells (pkV p a c) 27)).alloc (.cells (pkV Pk.zero none 0) 27))
  generalize World.alloc (World.alloc w _) _ = w1 at HK ⊢
  have hX1 := (HK.out.at 1 rfl).cells
  have hF1 := (HK.out.at 1 rfl).frozen
  go_wp2_with (first
    | ((with_reducible show wpList _ _ _ (⟨some 99, _, _, _, _, _⟩ :: _) _ _); replace HK := Lib.hid (HK.out.set (i := 1) (cs := pkV (moreF p 12) a c) rfl 18 (.string (p.user ++ ⟨#[117]⟩)) rfl); generalize hgw : World.setCell _ _ _ = w2 at HK ⊢; clear hgw; refine wpList_load_box rfl 27 _ rfl _ rfl 27 _ (HK.out.at 1 rfl) _ Tryd.underlying27 rfl (pk_size _ _ _) ?_)
    | ((with_reducible show wpList _ _ _ (⟨none, .store 27 _ _, _, _, _, _⟩ :: _) _ _); refine wpList_store_box rfl 27 _ _ rfl (w.heap.size + 1) (pkV (moreF p 12) a c) rfl rfl 27 (pkV Pk.zero none 0) (HK.out.at 0 rfl) (pk_size _ _ _) rfl (pk_one _ _ _) ?_; intro w3 hbx hon; replace HK := Lib.hid (HK.out.only (i := 0) rfl hon hbx)))
  exact bodyPost_ret (results_cell_row2 rfl _ _ (w.heap.size + 1) 27 _ (0, 0) _ rfl (HK.out.at 0 rfl) Tryd.underlying27 rfl (pk_size _ _ _) _ rfl) rfl ⟨rfl, HK.out.low⟩

set_option maxRecDepth 100000 in
set_option maxHeartbeats 1000000 in
theorem more_13 (p : Pk) (a : Option Addr) (c : Nat) (w : World) (hE : Env w) (hp : PkOk p) : Calls Tryd.prog 26 #[.agg (pkV p a c), .int .i64 13] w fun e w' => e = .returned (.tuple #[.agg (pkV (moreF p 13) a c), .string (kindsB 13)]) ∧ Below w.heap.size w w' := by
  have HK := Lib.hid (((Keep.begin hE [] (by intro r hr; cases hr)).alloc' (pkV p a c) 27 w.heap.size rfl).alloc' (pkV Pk.zero none 0) 27 (w.heap.size + 1) (by simp))
  clear hp hE
  obtain ⟨k0, k1, k2, k3, k4, k5, k6, k7, k8, k9, k10, k11, k12, k13, k14, k15, k16, k17, k18, k19, k20, k21, k22, k23⟩ := pk_at p a c
  go_enter Tryd.func26, Tryd.ntmps26
  go_upto_region 1 with (fail)
  show Code.wp _ _ _ _ ((w.alloc (.cells (pkV p a c) 27)).alloc (.cells (pkV Pk.zero none 0) 27))
  generalize World.alloc (World.alloc w _) _ = w1 at HK ⊢
  have hX1 := (HK.out.at 1 rfl).cells
  have hF1 := (HK.out.at 1 rfl).frozen
  go_wp2_with (first
    | ((with_reducible show wpList _ _ _ (⟨some 106, _, _, _, _, _⟩ :: _) _ _); replace HK := Lib.hid (HK.out.set (i := 1) (cs := pkV (moreF p 13) a c) rfl 16 (.bool (!p.hasUser)) rfl); generalize hgw : World.setCell _ _ _ = w2 at HK ⊢; clear hgw; refine wpList_load_box rfl 27 _ rfl _ rfl 27 _ (HK.out.at 1 rfl) _ Tryd.underlying27 rfl (pk_size _ _ _) ?_)
    | ((with_reducible show wpList _ _ _ (⟨none, .store 27 _ _, _, _, _, _⟩ :: _) _ _); refine wpList_store_box rfl 27 _ _ rfl (w.heap.size + 1) (pkV (moreF p 13) a c) rfl rfl 27 (pkV Pk.zero none 0) (HK.out.at 0 rfl) (pk_size _ _ _) rfl (pk_one _ _ _) ?_; intro w3 hbx hon; replace HK := Lib.hid (HK.out.only (i := 0) rfl hon hbx)))
  exact bodyPost_ret (results_cell_row2 rfl _ _ (w.heap.size + 1) 27 _ (0, 0) _ rfl (HK.out.at 0 rfl) Tryd.underlying27 rfl (pk_size _ _ _) _ rfl) rfl ⟨rfl, HK.out.low⟩

set_option maxRecDepth 100000 in
set_option maxHeartbeats 1000000 in
theorem more_14 (p : Pk) (a : Option Addr) (c : Nat) (w : World) (hE : Env w) (hp : PkOk p) : Calls Tryd.prog 26 #[.agg (pkV p a c), .int .i64 14] w fun e w' => e = .returned (.tuple #[.agg (pkV (moreF p 14) a c), .string (kindsB 14)]) ∧ Below w.heap.size w w' := by
  have HK := Lib.hid (((Keep.begin hE [] (by intro r hr; cases hr)).alloc' (pkV p a c) 27 w.heap.size rfl).alloc' (pkV Pk.zero none 0) 27 (w.heap.size + 1) (by simp))
  have hsz := hp.pass
  clear hp hE
  obtain ⟨k0, k1, k2, k3, k4, k5, k6, k7, k8, k9, k10, k11, k12, k13, k14, k15, k16, k17, k18, k19, k20, k21, k22, k23⟩ := pk_at p a c
  go_enter Tryd.func26, Tryd.ntmps26
  go_upto_region 1 with (fail)
  show Code.wp _ _ _ _ ((w.alloc (.cells (pkV p a c) 27)).alloc (.cells (pkV Pk.zero none 0) 27))
  generalize World.alloc (World.alloc w _) _ = w1 at HK ⊢
  have hX1 := (HK.out.at 1 rfl).cells
  have hF1 := (HK.out.at 1 rfl).frozen
  go_wp2_with (first
    | ((with_reducible show wpList _ _ _ (⟨some 113, _, _, _, _, _⟩ :: _) _ _); replace HK := Lib.hid (HK.out.set (i := 1) (cs := pkV (moreF p 14) a c) rfl 19 (.string (p.pass ++ ⟨#[115]⟩)) rfl); generalize hgw : World.setCell _ _ _ = w2 at HK ⊢; clear hgw; refine wpList_load_box rfl 27 _ rfl _ rfl 27 _ (HK.out.at 1 rfl) _ Tryd.underlying27 rfl (pk_size _ _ _) ?_)
    | ((with_reducible show wpList _ _ _ (⟨none, .store 27 _ _, _, _, _, _⟩ :: _) _ _); refine wpList_store_box rfl 27 _ _ rfl (w.heap.size + 1) (pkV (moreF p 14) a c) rfl rfl 27 (pkV Pk.zero none 0) (HK.out.at 0 rfl) (pk_size _ _ _) rfl (pk_one _ _ _) ?_; intro w3 hbx hon; replace HK := Lib.hid (HK.out.only (i := 0) rfl hon hbx)))
  exact bodyPost_ret (results_cell_row2 rfl _ _ (w.heap.size + 1) 27 _ (0, 0) _ rfl (HK.out.at 0 rfl) Tryd.underlying27 rfl (pk_size _ _ _) _ rfl) rfl ⟨rfl, HK.out.low⟩

set_option maxRecDepth 100000 in
set_option maxHeartbeats 1000000 in
theorem more_15 (p : Pk) (a : Option Addr) (c : Nat) (w : World) (hE : Env w) (hp : PkOk p) : Calls Tryd.prog 26 #[.agg (pkV p a c), .int .i64 15] w fun e w' => e = .returned (.tuple #[.agg (pkV (moreF p 15) a c), .string (kindsB 15)]) ∧ Below w.heap.size w w' := by
  have HK := Lib.hid (((Keep.begin hE [] (by intro r hr; cases hr)).alloc' (pkV p a c) 27 w.heap.size rfl).alloc' (pkV Pk.zero none 0) 27 (w.heap.size + 1) (by simp))
  clear hp hE
  obtain ⟨k0, k1, k2, k3, k4, k5, k6, k7, k8, k9, k10, k11, k12, k13, k14, k15, k16, k17, k18, k19, k20, k21, k22, k23⟩ := pk_at p a c
  go_enter Tryd.func26, Tryd.ntmps26
  go_upto_region 1 with (fail)
  show Code.wp _ _ _ _ ((w.alloc (.cells (pkV p a c) 27)).alloc (.cells (pkV Pk.zero none 0) 27))
  generalize World.alloc (World.alloc w _) _ = w1 at HK ⊢
  have hX1 := (HK.out.at 1 rfl).cells
  have hF1 := (HK.out.at 1 rfl).frozen
  go_wp2_with (first
    | ((with_reducible show wpList _ _ _ (⟨some 120, _, _, _, _, _⟩ :: _) _ _); replace HK := Lib.hid (HK.out.set (i := 1) (cs := pkV (moreF p 15) a c) rfl 20 (.bool (!p.present)) rfl); generalize hgw : World.setCell _ _ _ = w2 at HK ⊢; clear hgw; refine wpList_load_box rfl 27 _ rfl _ rfl 27 _ (HK.out.at 1 rfl) _ Tryd.underlying27 rfl (pk_size _ _ _) ?_)
    | ((with_reducible show wpList _ _ _ (⟨none, .store 27 _ _, _, _, _, _⟩ :: _) _ _); refine wpList_store_box rfl 27 _ _ rfl (w.heap.size + 1) (pkV (moreF p 15) a c) rfl rfl 27 (pkV Pk.zero none 0) (HK.out.at 0 rfl) (pk_size _ _ _) rfl (pk_one _ _ _) ?_; intro w3 hbx hon; replace HK := Lib.hid (HK.out.only (i := 0) rfl hon hbx)))
  exact bodyPost_ret (results_cell_row2 rfl _ _ (w.heap.size + 1) 27 _ (0, 0) _ rfl (HK.out.at 0 rfl) Tryd.underlying27 rfl (pk_size _ _ _) _ rfl) rfl ⟨rfl, HK.out.low⟩

set_option maxRecDepth 100000 in
set_option maxHeartbeats 1000000 in
theorem more_16 (p : Pk) (a : Option Addr) (c : Nat) (w : World) (hE : Env w) (hp : PkOk p) : Calls Tryd.prog 26 #[.agg (pkV p a c), .int .i64 16] w fun e w' => e = .returned (.tuple #[.agg (pkV (moreF p 16) a c), .string (kindsB 16)]) ∧ Below w.heap.size w w' := by
  have HK := Lib.hid (((Keep.begin hE [] (by intro r hr; cases hr)).alloc' (pkV p a c) 27 w.heap.size rfl).alloc' (pkV Pk.zero none 0) 27 (w.heap.size + 1) (by simp))
  obtain ⟨q, hq⟩ : ∃ q, (p.code + 1) % 256 = q := ⟨_, rfl⟩
  have hwr := wrap8 p.code
  rw [hq] at hwr
  have HM := Lib.hid (show moreF p 16 = { p with code := q } by show ({ p with code := _ } : Pk) = _; rw [hq])
  clear hq
  clear hp hE
  obtain ⟨k0, k1, k2, k3, k4, k5, k6, k7, k8, k9, k10, k11, k12, k13, k14, k15, k16, k17, k18, k19, k20, k21, k22, k23⟩ := pk_at p a c
  go_enter Tryd.func26, Tryd.ntmps26
  go_upto_region 1 with (fail)
  show Code.wp _ _ _ _ ((w.alloc (.cells (pkV p a c) 27)).alloc (.cells (pkV Pk.zero none 0) 27))
  generalize World.alloc (World.alloc w _) _ = w1 at HK ⊢
  have hX1 := (HK.out.at 1 rfl).cells
  have hF1 := (HK.out.at 1 rfl).frozen
  go_wp2_with (first
    | ((with_reducible show wpList _ _ _ (⟨some 127, _, _, _, _, _⟩ :: _) _ _); replace HK := Lib.hid (HK.out.set (i := 1) (cs := pkV { p with code := q } a c) rfl 21 (.int .u8 (q : Int)) rfl); generalize hgw : World.setCell _ _ _ = w2 at HK ⊢; clear hgw; refine wpList_load_box rfl 27 _ rfl _ rfl 27 _ (HK.out.at 1 rfl) _ Tryd.underlying27 rfl (pk_size _ _ _) ?_)
    | ((with_reducible show wpList _ _ _ (⟨none, .store 27 _ _, _, _, _, _⟩ :: _) _ _); refine wpList_store_box rfl 27 _ _ rfl (w.heap.size + 1) (pkV { p with code := q } a c) rfl rfl 27 (pkV Pk.zero none 0) (HK.out.at 0 rfl) (pk_size _ _ _) rfl (pk_one _ _ _) ?_; intro w3 hbx hon; replace HK := Lib.hid (HK.out.only (i := 0) rfl hon hbx)))
  rw [HM.out]
  exact bodyPost_ret (results_cell_row2 rfl _ _ (w.heap.size + 1) 27 _ (0, 0) _ rfl (HK.out.at 0 rfl) Tryd.underlying27 rfl (pk_size _ _ _) _ rfl) rfl ⟨rfl, HK.out.low⟩

set_option maxRecDepth 100000 in
set_option maxHeartbeats 1000000 in
theorem more_17 (p : Pk) (a : Option Addr) (c : Nat) (w : World) (hE : Env w) (hp : PkOk p) : Calls Tryd.prog 26 #[.agg (pkV p a c), .int .i64 17] w fun e w' => e = .returned (.tuple #[.agg (pkV (moreF p 17) a c), .string (kindsB 17)]) ∧ Below w.heap.size w w' := by
  have HK := Lib.hid (((Keep.begin hE [] (by intro r hr; cases hr)).alloc' (pkV p a c) 27 w.heap.size rfl).alloc' (pkV Pk.zero none 0) 27 (w.heap.size + 1) (by simp))
  have hsz := hp.codes
  clear hp hE
  obtain ⟨k0, k1, k2, k3, k4, k5, k6, k7, k8, k9, k10, k11, k12, k13, k14, k15, k16, k17, k18, k19, k20, k21, k22, k23⟩ := pk_at p a c
  go_enter Tryd.func26, Tryd.ntmps26
  go_upto_region 1 with (fail)
  show Code.wp _ _ _ _ ((w.alloc (.cells (pkV p a c) 27)).alloc (.cells (pkV Pk.zero none 0) 27))
  generalize World.alloc (World.alloc w _) _ = w1 at HK ⊢
  have hX1 := (HK.out.at 1 rfl).cells
  have hF1 := (HK.out.at 1 rfl).frozen
  go_wp2_with (first
    | ((with_reducible show wpList _ _ _ (⟨some 132, _, _, _, _, _⟩ :: _) _ _); replace HK := Lib.hid (HK.out.set (i := 1) (cs := pkV (moreF p 17) a c) rfl 23 (.string (p.codes ++ ⟨#[0]⟩)) rfl); generalize hgw : World.setCell _ _ _ = w2 at HK ⊢; clear hgw; refine wpList_load_box rfl 27 _ rfl _ rfl 27 _ (HK.out.at 1 rfl) _ Tryd.underlying27 rfl (pk_size _ _ _) ?_)
    | ((with_reducible show wpList _ _ _ (⟨none, .store 27 _ _, _, _, _, _⟩ :: _) _ _); refine wpList_store_box rfl 27 _ _ rfl (w.heap.size + 1) (pkV (moreF p 17) a c) rfl rfl 27 (pkV Pk.zero none 0) (HK.out.at 0 rfl) (pk_size _ _ _) rfl (pk_one _ _ _) ?_; intro w3 hbx hon; replace HK := Lib.hid (HK.out.only (i := 0) rfl hon hbx)))
  exact bodyPost_ret (results_cell_row2 rfl _ _ (w.heap.size + 1) 27 _ (0, 0) _ rfl (HK.out.at 0 rfl) Tryd.underlying27 rfl (pk_size _ _ _) _ rfl) rfl ⟨rfl, HK.out.low⟩

theorem law03_more (p : Pk) (a : Option Addr) (c f : Nat) (w : World) (hE : Env w) (hp : PkOk p) (hf : f < 18) : Calls Tryd.prog 26 #[.agg (pkV p a c), .int .i64 (f : Int)] w fun e w' => e = .returned (.tuple #[.agg (pkV (moreF p f) a c), .string (kindsB f)]) ∧ Below w.heap.size w w' := by
  match f, hf with
  | 0, _ => exact more_0 p a c w hE hp
  | 1, _ => exact more_1 p a c w hE hp
  | 2, _ => exact more_2 p a c w hE hp
  | 3, _ => exact more_3 p a c w hE hp
  | 4, _ => exact more_4 p a c w hE hp
  | 5, _ => exact more_5 p a c w hE hp
  | 6, _ => exact more_6 p a c w hE hp
  | 7, _ => exact more_7 p a c w hE hp
  | 8, _ => exact more_8 p a c w hE hp
  | 9, _ => exact more_9 p a c w hE hp
  | 10, _ => exact more_10 p a c w hE hp
  | 11, _ => exact more_11 p a c w hE hp
  | 12, _ => exact more_12 p a c w hE hp
  | 13, _ => exact more_13 p a c w hE hp
  | 14, _ => exact more_14 p a c w hE hp
  | 15, _ => exact more_15 p a c w hE hp
  | 16, _ => exact more_16 p a c w hE hp
  | 17, _ => exact more_17 p a c w hE hp
  | n + 18, h => exact absurd h (by omega)
end Go.Proofs.YtkphaihbdmjogaaDoor
