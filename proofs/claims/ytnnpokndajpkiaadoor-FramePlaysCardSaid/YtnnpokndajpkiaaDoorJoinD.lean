import Derived.Test.YtnnpokndajpkiaaDoorJoinB
import Derived.Test.YtnnpokndajpkiaaDoorJoinC
import Derived.Lib.AppendStr
namespace Go.Proofs.YtnnpokndajpkiaaDoor
open Go.RowKit
def u8V (L : Bs) : List Value := L.map fun b => Value.int .u8 (b.toNat : Int)
theorem u8V_append (A B : Bs) : u8V (A ++ B) = u8V A ++ u8V B := List.map_append
theorem u8V_one (A : Bs) : ∀ u ∈ u8V A, u.oneCell' = true := by
  intro u hu; obtain ⟨n, _, rfl⟩ := List.mem_map.1 hu; rfl
theorem u8V_nat (A : Bs) : u8V A = natV (A.map UInt8.toNat) := by unfold u8V natV; rw [List.map_map]; rfl
def bB (L : Bs) : ByteArray := ⟨L.toArray⟩
theorem bl_bB (L : Bs) : bl (bB L) = L := rfl
theorem bB_size (L : Bs) : (bB L).size = L.length := rfl
theorem strN_u8 (A : Bs) : strN (A.map UInt8.toNat) = bB A := by
  unfold strN bB; rw [List.map_map]; have : (UInt8.ofNat ∘ UInt8.toNat) = id := by funext x; simp
  rw [this, List.map_id]
def Out (w : World) (B : Nat) (v : Value) (L : Bs) : Prop := w.ownsRow B 5 1 v L.length (u8V L)
def OnlyU (B : Nat) (w w' : World) : Prop := Only (fun j => B ≤ j ∧ ∃ cur fr, w.heap[j]? = some (.cells cur 5 fr)) w w'
theorem OnlyU.refl (B : Nat) (w : World) : OnlyU B w w := Only.refl _ _
theorem OnlyU.trans {B : Nat} {a b c : World} (h : OnlyU B a b) (k : OnlyU B b c) : OnlyU B a c :=
  Only.trans h k (fun j hj ⟨h1, cur, fr, h2⟩ => by
    refine ⟨h1, ?_⟩; by_cases hF : B ≤ j ∧ ∃ cur fr, a.heap[j]? = some (.cells cur 5 fr)
    · exact hF.2
    · rw [h.block j hj hF] at h2
      exact ⟨cur, fr, h2⟩)
theorem OnlyU.of_below {B : Nat} {w w' : World} (h : Below w.heap.size w w') : OnlyU B w w' := Only.of_below h _
theorem OnlyU.then {B : Nat} {a b c : World} (h : OnlyU B a b) (k : Below b.heap.size b c) : OnlyU B a c := h.trans (OnlyU.of_below k)
theorem OnlyU.low {B : Nat} {w w' : World} (h : OnlyU B w w') (hB : B ≤ w.heap.size) : Below B w w' := Only.below h hB (fun _ hk => hk.1)
theorem OnlyU.box {B : Nat} {w w' : World} (h : OnlyU B w w') {X : Nat} {cs : Array Value} {T : TypeId} (hb : BoxAt w X cs T) (hT : T ≠ 5) : BoxAt w' X cs T :=
  hb.only h (fun ⟨_, cur, fr, e⟩ => by
    unfold BoxAt at hb; rw [hb] at e; injection e with e
    injection e with _ e _
    exact hT e)
theorem own_u8 {w : World} {B n : Nat} {v : Value} {xs : List Value} (h : w.ownsRow B 5 1 v n xs) {g : Nat} (hg : v.ownBlock = some g) : B ≤ g ∧ ∃ cur fr, w.heap[g]? = some (.cells cur 5 fr) := by
  rcases h.2 with ⟨rfl, _⟩ | ⟨g', cap, cur, rfl, hB, hh, _⟩
  · simp [Value.ownBlock] at hg
  · have : g' = g := by simpa [Value.ownBlock] using hg
    subst this; exact ⟨hB, cur, _, hh⟩
theorem OnlyU.grown {B n : Nat} {w w' : World} {v : Value} {xs : List Value} (h : w.ownsRow B 5 1 v n xs) (k : w.grownBy w' v.ownBlock) : OnlyU B w w' :=
  (only_grown k).weaken (fun _j hj => own_u8 h hj)
theorem Out.below {w w' : World} {B : Nat} {v : Value} {L : Bs} (h : Out w B v L) (k : Below w.heap.size w w') : Out w' B v L := own_only h (Only.of_below k (fun _ => False)) (fun _ _ h => h)
end Go.Proofs.YtnnpokndajpkiaaDoor
namespace Go.Proofs.YtnnpokndajpkiaaDoor
open Go.RowKit
theorem wrap_u8 (n : Nat) : IntKind.u8.wrap (n : Int) = ((n % 256 : Nat) : Int) := by
  show ((n : Int) % 256) = _; omega
end Go.Proofs.YtnnpokndajpkiaaDoor
namespace Go.Proofs.YtnnpokndajpkiaaDoor
open Go.RowKit
end Go.Proofs.YtnnpokndajpkiaaDoor
