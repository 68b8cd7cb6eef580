/- The walks of the program's package packet: each type's rest. Conditions: a machine's bounds on the packet's sizes; its list in its cells; the decoder's tables lie as Go lays them. -/
import Derived.Test.YtcghokbcjbbbhaaDoorJoinB
import Derived.Test.YtcghokbcjbbbhaaDoorPacketText
namespace Go.Proofs.YtcghokbcjbbbhaaDoor
open Go.RowKit

/-- A packet's cells, its list at a, of capacity c. -/
def pkV (p : Pk) (a : Option Addr) (c : Nat) : Array Value :=
  #[.int .u8 (p.ty : Int), .bool p.dup, .int .u8 (p.qos : Int), .bool p.ret, .int .u16 (p.id : Int), .string p.topic, .string p.payload, .int .u8 (p.level : Int), .bool p.clean, .int .u16 (p.keep : Int), .string p.client, .bool p.hasWill,
    .string p.wtopic, .string p.wpayload, .int .u8 (p.wqos : Int), .bool p.wret, .bool p.hasUser, .bool p.hasPass, .string p.user, .string p.pass, .bool p.present, .int .u8 (p.code : Int), .slice a p.subs.length c, .string p.codes]

theorem infoPk : (Tryd.prog.info? 27).map (·.size) = some 24 := by kernel_rfl
theorem pk_at (p : Pk) (a : Option Addr) (c : Nat) : (pkV p a c)[0]? = some (Value.int .u8 (p.ty : Int)) ∧ (pkV p a c)[1]? = some (Value.bool p.dup) ∧ (pkV p a c)[2]? = some (Value.int .u8 (p.qos : Int)) ∧ (pkV p a c)[3]? = some (Value.bool p.ret) ∧ (pkV p a c)[4]? = some (Value.int .u16 (p.id : Int)) ∧ (pkV p a c)[5]? = some (Value.string p.topic) ∧ (pkV p a c)[6]? = some (Value.string p.payload) ∧ (pkV p a c)[7]? = some (Value.int .u8 (p.level : Int)) ∧ (pkV p a c)[8]? = some (Value.bool p.clean) ∧ (pkV p a c)[9]? = some (Value.int .u16 (p.keep : Int)) ∧ (pkV p a c)[10]? = some (Value.string p.client) ∧ (pkV p a c)[11]? = some (Value.bool p.hasWill) ∧ (pkV p a c)[12]? = some (Value.string p.wtopic) ∧ (pkV p a c)[13]? = some (Value.string p.wpayload) ∧ (pkV p a c)[14]? = some (Value.int .u8 (p.wqos : Int)) ∧ (pkV p a c)[15]? = some (Value.bool p.wret) ∧ (pkV p a c)[16]? = some (Value.bool p.hasUser) ∧ (pkV p a c)[17]? = some (Value.bool p.hasPass) ∧ (pkV p a c)[18]? = some (Value.string p.user) ∧ (pkV p a c)[19]? = some (Value.string p.pass) ∧ (pkV p a c)[20]? = some (Value.bool p.present) ∧ (pkV p a c)[21]? = some (Value.int .u8 (p.code : Int)) ∧ (pkV p a c)[22]? = some (Value.slice a p.subs.length c) ∧ (pkV p a c)[23]? = some (Value.string p.codes) :=
  ⟨rfl, rfl, rfl, rfl, rfl, rfl, rfl, rfl, rfl, rfl, rfl, rfl, rfl, rfl, rfl, rfl, rfl, rfl, rfl, rfl, rfl, rfl, rfl, rfl⟩
theorem pk_size (p : Pk) (a : Option Addr) (c : Nat) : (Tryd.prog.info? 27).map (·.size) = some (pkV p a c).size := infoPk
/-- All cells that were there read as before. -/
theorem bcell {W w1 : World} (hb : Below W.heap.size W w1) : ∀ b o, b < W.heap.size → w1.cell? ⟨b, o, none⟩ = W.cell? ⟨b, o, none⟩ := fun b o h => hb.cell (p := ⟨b, o, none⟩) h

theorem packet_id (p : Pk) (a : Option Addr) (c : Nat) (w : World) : Calls Tryd.prog 64 #[.agg (pkV p a c)] w fun e w' => e = .returned (.int .i64 (idN p)) ∧ Below w.heap.size w w' := by
  unfold pkV
  by_cases h : p.id = 0
  · have k : ((p.id : Int) == 0) = true := by rw [h]; rfl
    have HI := Lib.hid (show idN p = -1 by unfold idN; rw [if_pos h])
    clear h
    go_enter Tryd.func64, Tryd.ntmps64
    go_wp2_with fail
    go_ret
    exact ⟨by rw [HI.out]; rfl, by go_grown⟩
  · have k : ((p.id : Int) == 0) = false := by rw [beq_eq_false_iff_ne]; omega
    have HI := Lib.hid (show idN p = 2 by unfold idN; rw [if_neg h])
    clear h
    go_enter Tryd.func64, Tryd.ntmps64
    go_wp2_with fail
    go_ret
    exact ⟨by rw [HI.out]; rfl, by go_grown⟩

theorem packet_publish (p : Pk) (a : Option Addr) (c : Nat) (w : World) (hE : Env w) (hp : PkOk p) : Calls Tryd.prog 63 #[.agg (pkV p a c)] w fun e w' => e = .returned (.int .i64 (publishN p)) ∧ Below w.heap.size w w' := by
  have h1 := hp.topic
  have h2 := hp.payload
  have HN := Lib.hid (fun w1 (hb : Below w.heap.size w w1) => packet_name p.topic w1 (hE.below hb) (by omega))
  have FIN := Lib.hid (show ∀ (n : Int) (w' : World), publishN p = n → Below w.heap.size w w' → Ending.returned (.int .i64 n) = .returned (.int .i64 (publishN p)) ∧ Below w.heap.size w w' from by rintro n w' rfl h; exact ⟨rfl, h⟩)
  clear hp hE
  unfold pkV
  cases hn : nameL (bl p.topic) <;> rw [hn] at HN <;> cases hd : p.dup
  all_goals
    have HNN := Lib.hid (And.intro hn hd)
    clear hn hd
    go_enter Tryd.func63, Tryd.ntmps63
    go_wp2_with (go_at_call 96; refine Calls.mono (HN.out _ (by go_grown)) ?_; rintro e w1 ⟨rfl, hb1⟩; have hb : Below w.heap.size w w1 := Below.then (by go_grown) hb1; have hc1 := bcell hb1)
  all_goals go_ret
  all_goals (refine FIN.out _ _ ?_ hb; obtain ⟨k1, k2⟩ := HNN.out; unfold publishN; rw [k1, k2]; clear FIN HN HNN; (repeat' split) <;> first | rfl | omega | (simp_all; done) | (simp_all; omega))
end Go.Proofs.YtcghokbcjbbbhaaDoor
