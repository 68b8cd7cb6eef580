/- The walk of SubsPlays. Conditions: the acts lie in their cells; the decoder's tables lie as Go lays them. -/
import Derived.Test.YtbhmflkhcadaeaaDoorSubsAwake
namespace Go.Proofs.YtbhmflkhcadaeaaDoor
open Go.RowKit

/-- Both lists, one list, in memory from block B on. -/
def Pair (w : World) (B gl gr : Nat) (S : List Sb) : Prop := ∃ vl vr, LAt w B gl vl S ∧ RAt w B gr vr S ∧ (∀ k, Foot gl vl k → ¬ Foot gr vr k) ∧ Fine S
theorem Pair.below {w w' : World} {B gl gr : Nat} {S : List Sb} (h : Pair w B gl gr S) (k : Below w.heap.size w w') : Pair w' B gl gr S := by
  obtain ⟨vl, vr, h1, h2, h3, h4⟩ := h
  exact ⟨vl, vr, h1.below k, h2.below k, h3, h4⟩
theorem pair_start {w w1 : World} {B gl : Nat} (hL : LAt w B gl (.slice none 0 0) []) (hB : B ≤ w.heap.size) (h : w.alloc (.cells #[.slice none 0 0] 30) = w1) : Pair w1 B gl w.heap.size [] := by
  subst h
  have hlt := hL.blk.lt
  refine ⟨_, _, hL.below ((Below.refl _ _).alloc (Nat.le_refl _) _), ⟨OneAt.new _ _ _, RowAt.of_own (World.ownsRow_nil _ _ _ _), hB⟩, ?_, fine_nil⟩
  rintro k (e | e) (e' | e')
  · omega
  · simp [Value.ownBlock] at e'
  · simp [Value.ownBlock] at e
  · simp [Value.ownBlock] at e
theorem greatA_no {L : List Ac} (h : greatA L = false) : L.length ≤ 80 ∧ ∀ x ∈ L, x.f.size ≤ 300 ∧ x.n.size ≤ 300 := by
  unfold greatA at h
  rw [Bool.or_eq_false_iff, decide_eq_false_iff_not, List.any_eq_false] at h
  refine ⟨by omega, fun x hx => ?_⟩
  have := h.1 x hx
  unfold longA at this
  simp at this
  omega
theorem pair_does {B gl gr : Nat} {S : List Sb} {x : Ac} {w : World} (hE : ∀ w', Below B w w' → Env w') (h : Pair w B gl gr S) (hB : B ≤ w.heap.size) (hf : x.f.size ≤ 300) (hn : x.n.size ≤ 300) (hq : x.q < 256) :
    Calls Tryd.prog 12 #[.pointer (some ⟨gl, 0, none⟩), .pointer (some ⟨gr, 0, none⟩), .agg #[.int .u8 (x.d : Int), .string x.f, .int .u8 (x.q : Int), .string x.n]] w fun e w' => e = .returned (.bool true) ∧ Pair w' B gl gr (actS S x) ∧ Below B w w' := by
  obtain ⟨vl, vr, h1, h2, h3, h4⟩ := h
  refine (law15_does B gl gr vl vr S x w hE h1 h2 h3 h4 hB hf hn hq).mono ?_
  rintro e w' ⟨vl', vr', rfl, k1, k2, k3, k4⟩
  exact ⟨rfl, ⟨vl', vr', k1, k2, k3, actS_fine h4 x hf⟩, k4⟩

set_option maxRecDepth 100000 in
theorem law15_SubsPlays (a : Option Addr) (c : Nat) (L : List Ac) (w : World) (hE : Env w) (hn : L.length ≤ 9223372036854775807) (hq : ∀ x ∈ L, x.q < 256) (ha : CellsA w a (acCells L)) :
    Calls Tryd.prog 3 #[.slice a L.length c] w fun e w' => e = .returned (.bool true) ∧ Below w.heap.size w w' := by
  have HG := law15_GreatActs a c L w hn ha
  have HAW := Lib.hid (fun (w : World) hE => law15_awake w hE)
  cases hg : greatA L with
  | true =>
    rw [hg] at HG
    replace HG := Lib.hid HG
    clear hg
    go_enter Tryd.func3, Tryd.ntmps3
    go_wp2_with (first
      | (go_at_call 9; refine Calls.mono HG.out ?_; rintro e w1 ⟨rfl, rfl⟩)
      | (go_at_call 10; refine Calls.mono (HAW.out _ hE) ?_; rintro e w2 ⟨rfl, hb⟩))
    go_ret
    exact ⟨rfl, hb⟩
  | false =>
    rw [hg] at HG
    replace HG := Lib.hid HG
    obtain ⟨hn80, hsm⟩ := greatA_no hg
    have HSM := Lib.hid hsm
    clear hg hsm
    go_enter Tryd.func3, Tryd.ntmps3
    go_wp2_with (first
      | (go_at_call 9; refine Calls.mono HG.out ?_; rintro e w1 ⟨rfl, rfl⟩)
      | (go_at_call 11; refine (subs_New _).mono ?_; rintro e w1 ⟨rfl, hL, hb⟩))
    obtain ⟨w2, hw2⟩ : ∃ w2, w1.alloc (.cells #[.slice none 0 0] 30) = w2 := ⟨_, rfl⟩
    have HP0 := Lib.hid (pair_start hL hb.size hw2)
    have hb0 : Below w.heap.size w w2 := hw2 ▸ hb.alloc hb.size _
    rw [hw2]
    clear hL hw2
    go_loopw [5] (fun i wr => ∃ (k : Nat) (S : List Sb), k ≤ L.length ∧ i = .int .i64 k ∧ Hid (Pair wr w.heap.size w.heap.size w1.heap.size S) ∧ Below w.heap.size w wr) (fun i _ => L.length - (intOf i).toNat)
    case atStart => exact ⟨0, [], by omega, rfl, HP0.out, hb0⟩
    case round =>
      obtain ⟨k, S, hk, rfl, HP, hbr⟩ := hrel
      by_cases hlt : k < L.length
      · obtain ⟨x, hx⟩ : ∃ x, L[k]? = some x := ⟨_, List.getElem?_eq_getElem hlt⟩
        obtain ⟨b, o, rfl, c1, c2, c3, c4⟩ := (ha.below hbr).act hx
        have hm := List.mem_of_getElem? hx
        have HD := Lib.hid (pair_does (fun w' h => hE.below (hbr.trans h)) HP.out hbr.size (HSM.out x hm).1 (HSM.out x hm).2 (hq x hm))
        clear hx hm
        go_wp2_with (first
          | (go_at_call 12; refine Calls.mono HD.out ?_; rintro e w3 ⟨rfl, hp, hb3⟩))
        go_roundw
        case rel => exact ⟨k + 1, actS S x, by omega, by first | rfl | go_num, hp, hbr.trans hb3⟩
        case measure => simp [intOf]; omega
      · have : k = L.length := by omega
        subst this
        go_wp2_with (first
          | (go_at_call 10; refine Calls.mono (HAW.out _ (hE.below hbr)) ?_; rintro e w4 ⟨rfl, hb4⟩))
        go_ret
        exact ⟨rfl, Below.then hbr hb4⟩
end Go.Proofs.YtbhmflkhcadaeaaDoor
