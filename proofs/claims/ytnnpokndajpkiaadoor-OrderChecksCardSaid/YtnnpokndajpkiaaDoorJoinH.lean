import Derived.Test.YtnnpokndajpkiaaDoorJoinB
import Derived.Test.YtnnpokndajpkiaaDoorJoinI
import Derived.Test.YtnnpokndajpkiaaDoorJoinC
namespace Go.Proofs.YtnnpokndajpkiaaDoor
open Go.RowKit
def pkV (p : Pk) (a : Option Addr) (c : Nat) : Array Value :=
  #[.int .u8 (p.ty : Int), .bool p.dup, .int .u8 (p.qos : Int), .bool p.ret, .int .u16 (p.id : Int), .string p.topic, .string p.payload, .int .u8 (p.level : Int), .bool p.clean, .int .u16 (p.keep : Int), .string p.client, .bool p.hasWill,
    .string p.wtopic, .string p.wpayload, .int .u8 (p.wqos : Int), .bool p.wret, .bool p.hasUser, .bool p.hasPass, .string p.user, .string p.pass, .bool p.present, .int .u8 (p.code : Int), .slice a p.subs.length c, .string p.codes]
theorem infoPk : (Tryd.prog.info? 40).map (·.size) = some 24 := by kernel_rfl
theorem infoPkR : (Tryd.prog.info? 40).map (fun i => (i.zero, i.size, i.bytes)) = some (some (.agg (pkV Pk.zero none 0)), 24, 200) := by kernel_rfl
theorem pk_at (p : Pk) (a : Option Addr) (c : Nat) : (pkV p a c)[0]? = some (Value.int .u8 (p.ty : Int)) ∧ (pkV p a c)[1]? = some (Value.bool p.dup) ∧ (pkV p a c)[2]? = some (Value.int .u8 (p.qos : Int)) ∧ (pkV p a c)[3]? = some (Value.bool p.ret) ∧ (pkV p a c)[4]? = some (Value.int .u16 (p.id : Int)) ∧ (pkV p a c)[5]? = some (Value.string p.topic) ∧ (pkV p a c)[6]? = some (Value.string p.payload) ∧ (pkV p a c)[7]? = some (Value.int .u8 (p.level : Int)) ∧ (pkV p a c)[8]? = some (Value.bool p.clean) ∧ (pkV p a c)[9]? = some (Value.int .u16 (p.keep : Int)) ∧ (pkV p a c)[10]? = some (Value.string p.client) ∧ (pkV p a c)[11]? = some (Value.bool p.hasWill) ∧ (pkV p a c)[12]? = some (Value.string p.wtopic) ∧ (pkV p a c)[13]? = some (Value.string p.wpayload) ∧ (pkV p a c)[14]? = some (Value.int .u8 (p.wqos : Int)) ∧ (pkV p a c)[15]? = some (Value.bool p.wret) ∧ (pkV p a c)[16]? = some (Value.bool p.hasUser) ∧ (pkV p a c)[17]? = some (Value.bool p.hasPass) ∧ (pkV p a c)[18]? = some (Value.string p.user) ∧ (pkV p a c)[19]? = some (Value.string p.pass) ∧ (pkV p a c)[20]? = some (Value.bool p.present) ∧ (pkV p a c)[21]? = some (Value.int .u8 (p.code : Int)) ∧ (pkV p a c)[22]? = some (Value.slice a p.subs.length c) ∧ (pkV p a c)[23]? = some (Value.string p.codes) :=
  ⟨rfl, rfl, rfl, rfl, rfl, rfl, rfl, rfl, rfl, rfl, rfl, rfl, rfl, rfl, rfl, rfl, rfl, rfl, rfl, rfl, rfl, rfl, rfl, rfl⟩
theorem pk_size (p : Pk) (a : Option Addr) (c : Nat) : (Tryd.prog.info? 40).map (·.size) = some (pkV p a c).size := infoPk
end Go.Proofs.YtnnpokndajpkiaaDoor
namespace Go.Proofs.YtnnpokndajpkiaaDoor
open Go.RowKit
end Go.Proofs.YtnnpokndajpkiaaDoor
namespace Go.Proofs.YtnnpokndajpkiaaDoor
open Go.RowKit
end Go.Proofs.YtnnpokndajpkiaaDoor
namespace Go.Proofs.YtnnpokndajpkiaaDoor
open Go.RowKit
theorem infoFlat : (Tryd.prog.info? 136).map (·.size) = some 23 := by kernel_rfl
theorem fl_size (p : Pk) : (Tryd.prog.info? 136).map (·.size) = some (flV p).size := infoFlat
set_option maxRecDepth 100000 in
set_option maxHeartbeats 4000000 in
theorem packet_plain (p : Pk) (a : Option Addr) (c : Nat) (w : World) : Calls Tryd.prog 69 #[.agg (pkV p a c)] w fun e w' => e = .returned (.agg (flV p)) ∧ Below w.heap.size w w' := by
  obtain ⟨k0, k1, k2, k3, k4, k5, k6, k7, k8, k9, k10, k11, k12, k13, k14, k15, k16, k17, k18, k19, k20, k21, k22, k23⟩ := pk_at p a c; have hone : (flV p).all (·.oneCell') = true := by unfold flV; simp [Value.oneCell']
  have HONE := Lib.hid hone; clear hone; go_enter Tryd.func69, Tryd.ntmps69
  go_wp2_with (first
    | ((with_reducible show wpList _ _ _ (⟨some 43, _, _, _, _, _⟩ :: _) _ _); refine wpList_build_to (o := ⟨some 43, _, _, _, _, _⟩) rfl 136 _ rfl (flV p) (by kernel_rfl) ?_)
    | ((with_reducible show wpList _ _ _ (⟨none, .store 136 _ _, _, _, _, _⟩ :: _) _ _); refine wpList_store_box rfl 136 (.tmp 2) (.tmp 43) rfl (w.heap.size + 1) (flV p) rfl rfl 136 _ (BoxAt.new2 _ _ _ _) (fl_size p) rfl HONE.out ?_; intro w2 hbx hon))
  have hbw : Below w.heap.size w w2 := Below.trans (by go_grown) (hon.below (B := w.heap.size) (by simp; omega) (fun k e => by omega)); exact bodyPost_ret (v := .agg (flV p)) (results_cell_row rfl _ w2 (w.heap.size + 1) 136 (flV p) (0, 0) _ rfl hbx Tryd.underlying136 rfl (fl_size p)) rfl ⟨rfl, hbw⟩
end Go.Proofs.YtnnpokndajpkiaaDoor
