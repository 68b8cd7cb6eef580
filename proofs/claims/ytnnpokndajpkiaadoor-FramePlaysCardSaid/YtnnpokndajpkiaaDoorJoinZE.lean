import Derived.Test.YtnnpokndajpkiaaDoorJoinZA
import Derived.Test.YtnnpokndajpkiaaDoorJoinD
namespace Go.Proofs.YtnnpokndajpkiaaDoor
open Go.RowKit
theorem wrK {x : Int} {k : Nat} (h : x = (k : Int)) (hk : k ≤ 4000000000) : Value.int .i64 (IntKind.i64.wrap x) = .int .i64 (k : Int) := by
  congr 1; rw [IntKind.wrap_i64]; omega
theorem bB_ext (L : Bs) (i j : Nat) : (bB L).extract i j = bB ((L.drop i).take (j - i)) := by
  apply ByteArray.ext
  rw [ByteArray.data_extract]; unfold bB; simp [List.extract]
theorem bB_app (L M : Bs) : bB L ++ bB M = bB (L ++ M) := by
  apply ByteArray.ext
  rw [ByteArray.data_append]; unfold bB; simp
def ixT (v i : Value) (ty : TypeId) : Sem Next := opT [v, i] (.index 9 (.tmp 0) (.tmp 1)) ty
def tlT (v lo : Value) (ty : TypeId) : Sem Next := opT [v, lo] (.slice 9 (.tmp 0) (some (.tmp 1)) none none) ty
def mdT (v lo hi : Value) (ty : TypeId) : Sem Next := opT [v, lo, hi] (.slice 9 (.tmp 0) (some (.tmp 1)) (some (.tmp 2)) none) ty
def hdT' (v hi : Value) (ty : TypeId) : Sem Next := opT [v, hi] (.slice 9 (.tmp 0) none (some (.tmp 1)) none) ty
theorem ix_run {w : World} {L : Bs} {i : Nat} {b : UInt8} (h : L[i]? = some b) (ty : TypeId) : (ixT (.string (bB L)) (.int .i64 (i : Int)) ty).run Tryd.prog w = .ok (.value (.int .u8 (b.toNat : Int))) w := by
  have hl := (List.getElem?_eq_some_iff.1 h).1; unfold ixT opT; unfold execOp; have e0 : ∀ y l, known (numL 0 (y :: l)) (.tmp 0) = y := fun _ _ => rfl
  have e1 : ∀ x y l, known (numL 0 (x :: y :: l)) (.tmp 1) = y := fun _ _ _ => rfl
  have e2 : (bB L).data[i]? = some b := by unfold bB; simpa using h
  have e3 : (bB L).size = L.length := rfl; go_simp; have hb := (List.getElem?_eq_some_iff.1 h).2; show ((L[i].toNat : Nat) : Int) = _; rw [hb]
theorem tl_run {w : World} {L : Bs} {i : Nat} (h : i ≤ L.length) (ty : TypeId) : (tlT (.string (bB L)) (.int .i64 (i : Int)) ty).run Tryd.prog w = .ok (.value (.string (bB (L.drop i)))) w := by
  unfold tlT opT; unfold execOp; have e0 : ∀ y l, known (numL 0 (y :: l)) (.tmp 0) = y := fun _ _ => rfl
  have e1 : ∀ x y l, known (numL 0 (x :: y :: l)) (.tmp 1) = y := fun _ _ _ => rfl
  have e3 : (bB L).size = L.length := rfl; have e4 : (bB L).extract i (bB L).size = bB (L.drop i) := by rw [bB_ext, e3, List.take_of_length_le (by rw [List.length_drop]; exact Nat.le_refl _)]
  go_simp; exact e4
theorem md_run {w : World} {L : Bs} {i j : Nat} (h1 : i ≤ j) (h2 : j ≤ L.length) (h3 : L.length ≤ 4000000000) (ty : TypeId) : (mdT (.string (bB L)) (.int .i64 (i : Int)) (.int .i64 (j : Int)) ty).run Tryd.prog w = .ok (.value (.string (bB ((L.drop i).take (j - i))))) w := by
  have e3 : (bB L).size = L.length := rfl; unfold mdT opT; unfold execOp; have e0 : ∀ y l, known (numL 0 (y :: l)) (.tmp 0) = y := fun _ _ => rfl
  have e1 : ∀ x y l, known (numL 0 (x :: y :: l)) (.tmp 1) = y := fun _ _ _ => rfl
  have e2 : ∀ x y z l, known (numL 0 (x :: y :: z :: l)) (.tmp 2) = z := fun _ _ _ _ => rfl
  go_simp; first | done | rw [bB_ext]
theorem md_run' {w : World} {L M : Bs} {i j : Nat} (h1 : i ≤ j) (h2 : j ≤ L.length) (h3 : L.length ≤ 4000000000) (hM : (L.drop i).take (j - i) = M) (ty : TypeId) : (mdT (.string (bB L)) (.int .i64 (i : Int)) (.int .i64 (j : Int)) ty).run Tryd.prog w = .ok (.value (.string (bB M))) w := hM ▸ md_run h1 h2 h3 ty
theorem tl_run' {w : World} {L M : Bs} {i : Nat} (h : i ≤ L.length) (hM : L.drop i = M) (ty : TypeId) : (tlT (.string (bB L)) (.int .i64 (i : Int)) ty).run Tryd.prog w = .ok (.value (.string (bB M))) w := hM ▸ tl_run h ty
theorem hd_run {w : World} {L : Bs} {j : Nat} (h2 : j ≤ L.length) (h3 : L.length ≤ 4000000000) (ty : TypeId) : (hdT' (.string (bB L)) (.int .i64 (j : Int)) ty).run Tryd.prog w = .ok (.value (.string (bB (L.take j)))) w := by
  have e3 : (bB L).size = L.length := rfl; unfold hdT' opT; unfold execOp; have e0 : ∀ y l, known (numL 0 (y :: l)) (.tmp 0) = y := fun _ _ => rfl
  have e1 : ∀ x y l, known (numL 0 (x :: y :: l)) (.tmp 1) = y := fun _ _ _ => rfl
  go_simp; first | done | rw [bB_ext]
  simp
theorem qI {x d : Nat} (h : x ≤ 4000000000) : Value.int .i64 (IntKind.i64.wrap (Int.tdiv (x : Int) (d : Int))) = .int .i64 ((x / d : Nat) : Int) := by
  have e : Int.tdiv (x : Int) (d : Int) = ((x / d : Nat) : Int) := by rw [Int.tdiv_eq_ediv_of_nonneg (by omega)]; rfl
  have h2 := Nat.div_le_self x d; congr 1; rw [e, IntKind.wrap_i64]; generalize x / d = y at h2; omega
theorem rM {K : IntKind} {x d : Nat} : Value.int K (Int.tmod (x : Int) (d : Int)) = .int K ((x % d : Nat) : Int) := by rw [Int.tmod_eq_emod_of_nonneg (by omega)]; rfl
theorem qU {x d : Nat} (h : x < 256) : Value.int .u8 (IntKind.u8.wrap (Int.tdiv (x : Int) (d : Int))) = .int .u8 ((x / d : Nat) : Int) := by
  have e : Int.tdiv (x : Int) (d : Int) = ((x / d : Nat) : Int) := by rw [Int.tdiv_eq_ediv_of_nonneg (by omega)]; rfl
  have h2 := Nat.div_le_self x d; congr 1; rw [e, IntKind.wrap_u8]; generalize x / d = y at h2; omega
theorem cI {x : Nat} (h : x ≤ 4000000000) : Value.int .i64 (IntKind.i64.wrap (x : Int)) = .int .i64 (x : Int) := wrK rfl h
theorem cU {x : Nat} (h : x < 256) : Value.int .u8 (IntKind.u8.wrap (x : Int)) = .int .u8 (x : Int) := by
  congr 1; rw [IntKind.wrap_u8]; omega
theorem cW {x : Nat} (h : x < 65536) : Value.int .u16 (IntKind.u16.wrap (x : Int)) = .int .u16 (x : Int) := by
  congr 1; rw [IntKind.wrap_u16]; omega
def adT (a b : Value) (ty : TypeId) : Sem Next := opT [a, b] (.binOp .add 9 (.tmp 0) (.tmp 1) 9) ty
theorem ad_run {L M : Bs} (h : L.length + M.length ≤ 9223372036854775807) {w : World} (ty : TypeId) : (adT (.string (bB L)) (.string (bB M)) ty).run Tryd.prog w = .ok (.value (.string (bB (L ++ M)))) w := by
  have e3 : (bB L).size = L.length := rfl; have e5 : (bB M).size = M.length := rfl; unfold adT opT; unfold execOp; have e0 : ∀ y l, known (numL 0 (y :: l)) (.tmp 0) = y := fun _ _ => rfl
  have e1 : ∀ x y l, known (numL 0 (x :: y :: l)) (.tmp 1) = y := fun _ _ _ => rfl
  go_simp; first | done | rw [bB_app] | simp [bB_app]
  first | done | rw [if_neg (by omega)]
end Go.Proofs.YtnnpokndajpkiaaDoor
namespace Go.Proofs.YtnnpokndajpkiaaDoor
open Go.RowKit
section
variable {P : Program}
def stT (T : TypeId) (g j : Nat) (v : Value) (ty : TypeId) : Sem Next := opT [.pointer (some ⟨g, j, none⟩), v] (.store T (.tmp 0) (.tmp 1)) ty
theorem ops_set (T ty e : TypeId) {size n cap g j : Nat} {xs : List Value} (v : Value) (hz : (P.info? T).map (·.size) = some v.cells.size) (hv : v.cells = #[v]) (h1 : v.oneCell' = true) (hj : j < xs.length) :
    OpS P (stT T g j v ty) [] [rowO e size (.slice (some ⟨g, 0, none⟩) n cap) n xs] (fun _ : Unit => undef) (fun _ => []) (fun _ => [rowO e size (.slice (some ⟨g, 0, none⟩) n cap) n (xs.set j v)]) := by
  intro wb w H; have hx : w.ownsRow 0 e size (.slice (some ⟨g, 0, none⟩) n cap) n xs := is_at H.is 0 (c := rowO e size (.slice (some ⟨g, 0, none⟩) n cap) n xs) rfl; have hx0 := hx; rcases hx.2 with ⟨hq, _⟩ | ⟨g', cap', cur, hq, hb, hg, h3, h4, h5, h6⟩
  · simp at hq
  simp only [Value.slice.injEq, Option.some.injEq, Addr.mk.injEq, and_true, true_and] at hq; obtain ⟨rfl, rfl⟩ := hq; have hl : j < cur.size := by
    have h7 := congrArg List.length h6; rw [List.length_take, Array.length_toList] at h7; omega
  have ht : w.there g j v.cells.size := box_there (show BoxAt w g cur e from hg) j _ (by rw [hv]; exact hl); have hr := run_put (P := P) w g j T v ht hz (by rw [hv]; simp [h1]); have hw : w.setCells g j v.cells.toList = w.setCell ⟨g, j, none⟩ v := by rw [hv]; rfl
  refine ⟨(), w.setCell ⟨g, j, none⟩ v, .skip, ?_, Or.inr ⟨rfl, rfl⟩, (Kp.begin H).turn (Only.setCell (F := (rowO e size (.slice (some ⟨g, 0, none⟩) n cap) n xs).fp) (Only.refl _ _) (p := ⟨g, j, none⟩) (Or.inl (show (Value.slice (some ⟨g, 0, none⟩) n cap).ownBlock = some g from rfl)) v) ?_ (fun i hi => Or.inl hi)⟩
  · unfold stT opT execOp
    have e0 : ∀ y l, known (numL 0 (y :: l)) (.tmp 0) = y := fun _ _ => rfl
    have e1 : ∀ x y l, known (numL 0 (x :: y :: l)) (.tmp 1) = y := fun _ _ _ => rfl
    simp only [e0, e1, Instr.storeAt, Instr.sureAddr, Sem.run_bind, Sem.run_pure, Result.andThen_ok, hr, hw]
  · refine ⟨by simpa using hx0.1, .inr ⟨g, cap, cur.setIfInBounds j v, rfl, hb, heap_setCell_same w g j cur e v hg, h3, h4, by simpa using h5, ?_⟩⟩
    rw [Array.toList_setIfInBounds, ← h6, List.take_set]
end
end Go.Proofs.YtnnpokndajpkiaaDoor
