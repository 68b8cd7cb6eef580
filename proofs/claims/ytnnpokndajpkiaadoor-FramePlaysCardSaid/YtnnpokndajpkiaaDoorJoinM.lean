import Derived.Test.YtnnpokndajpkiaaDoorJoinH
import Derived.Test.YtnnpokndajpkiaaDoorJoinC
import Derived.Test.YtnnpokndajpkiaaDoorJoinF
import Derived.Test.YtnnpokndajpkiaaDoorJoinA
import Derived.Test.YtnnpokndajpkiaaDoorJoinI
import Derived.Test.YtnnpokndajpkiaaDoorJoinW
import Derived.Test.YtnnpokndajpkiaaDoorJoinQ
import Derived.Test.YtnnpokndajpkiaaDoorJoinE
import Derived.Test.YtnnpokndajpkiaaDoorCardRows
import Derived.Test.YtnnpokndajpkiaaDoorJoinB
import Derived.Test.YtnnpokndajpkiaaDoorWriteAll
namespace Go.Proofs.YtnnpokndajpkiaaDoor
open Go.RowKit
structure Ms where
  topic : ByteArray
  payload : ByteArray
  qos : Nat
  ret : Bool
deriving DecidableEq
def Ms.zero : Ms := ⟨e0, e0, 0, false⟩
structure Nt where
  kind : Nat
  op : Int
  conn : Int
  client : ByteArray
  p : Pk
  msg : Ms
  codes : ByteArray
  present : Bool
  qos : Nat
deriving DecidableEq
def Nt.zero : Nt := ⟨0, 0, 0, e0, Pk.zero, Ms.zero, e0, false, 0⟩
end Go.Proofs.YtnnpokndajpkiaaDoor
namespace Go.Proofs.YtnnpokndajpkiaaDoor
open Go.RowKit
section
variable {P : Program} {α : Type} {f : α → Value} {kt : TypeId} {d : TypeDesc}
def kvE (e : MapEntry) : Value × Value := (e.key, e.val)
def fkE (f : α → Value) (x : α × Value) : Value × Value := (f x.1, x.2)
def MapAt (w : World) (b : Nat) (f : α → Value) (es : List (α × Value)) : Prop := ∃ (arr : Array MapEntry) (c : Nat), w.heap[b]? = some (.map arr c) ∧ arr.toList.map kvE = es.map (fkE f)
theorem MapAt.lt {w : World} {b : Nat} {es : List (α × Value)} (h : MapAt w b f es) : b < w.heap.size := by
  obtain ⟨arr, c, h1, _⟩ := h; exact (Array.getElem?_eq_some_iff.1 h1).1
theorem MapAt.only {F : Nat → Prop} {w w' : World} {b : Nat} {es : List (α × Value)} (h : MapAt w b f es) (k : Only F w w') (hF : ¬ F b) : MapAt w' b f es := by
  have hlt := h.lt; obtain ⟨arr, c, h1, h2⟩ := h; exact ⟨arr, c, by rw [k.block b hlt hF]; exact h1, h2⟩
theorem MapAt.below {w w' : World} {b : Nat} {es : List (α × Value)} (h : MapAt w b f es) (k : Below w.heap.size w w') : MapAt w' b f es := h.only (Only.of_below k (fun _ => False)) (fun h => h)
variable [DecidableEq α]
end
section
variable {P : Program} {ops : Array Oper} {rest : List Oper} {a : Act} {w : World} {Q : Exit → Act → World → Prop} {n : Nat} {L : List (Nat × Value)} {o : Oper} {md : Region.Mode} {S : World → Prop} {z : Nat}
variable {α : Type} [DecidableEq α] {f : α → Value} {kt : TypeId} {d : TypeDesc}
end
end Go.Proofs.YtnnpokndajpkiaaDoor
namespace Go.Proofs.YtnnpokndajpkiaaDoor
end Go.Proofs.YtnnpokndajpkiaaDoor
namespace Go.Proofs.YtnnpokndajpkiaaDoor
open Go.RowKit
end Go.Proofs.YtnnpokndajpkiaaDoor
namespace Go.Proofs.YtnnpokndajpkiaaDoor
open Go.RowKit
structure St where
  client : ByteArray
  s : Nat
  g : Nat
  v : Value
  conn : Int
  clean : Bool
  S : List Sb
def stV (x : St) : Array Value := #[.pointer (some ⟨x.g, 0, none⟩), .int .i64 x.conn, .bool x.clean]
def FootS (x : St) (k : Nat) : Prop := k = x.s ∨ Foot x.g x.v k
structure StAt (w : World) (B : Nat) (x : St) : Prop where
  box : BoxAt w x.s (stV x) 157
  list : LAt w B x.g x.v x.S
  fine : Fine x.S
  lo : B ≤ x.s
theorem StAt.only {F : Nat → Prop} {w w' : World} {B : Nat} {x : St} (h : StAt w B x) (k : Only F w w') (hF : ∀ j, FootS x j → ¬ F j) : StAt w' B x :=
  ⟨h.box.only k (hF _ (Or.inl rfl)), h.list.only k (hF _ (Or.inr (Or.inl rfl))) (fun r hr => hF r (Or.inr (Or.inr hr))), h.fine, h.lo⟩
theorem LAt.foot {w : World} {B g : Nat} {v : Value} {S : List Sb} (h : LAt w B g v S) {k : Nat} (hk : Foot g v k) : k < w.heap.size := by
  rcases hk with rfl | hk
  · exact h.blk.lt
  · exact (h.own.lt hk).1
theorem StAt.foot {w : World} {B : Nat} {x : St} (h : StAt w B x) {k : Nat} (hk : FootS x k) : k < w.heap.size := by
  rcases hk with rfl | hk
  · exact h.box.lt
  · exact h.list.foot hk
def putL : List St → St → List St
  | [], y => [y]
  | x :: r, y => if y.client = x.client then y :: r else x :: putL r y
def entM (L : List St) : List (ByteArray × Value) := L.map fun x => (x.client, .pointer (some ⟨x.s, 0, none⟩))
theorem put_mem : ∀ {L : List St} {y z : St}, (L.map (·.client)).Nodup → z ∈ putL L y → z = y ∨ (z ∈ L ∧ z.client ≠ y.client)
  | [], y, z, _, h => by
    left
    simpa [putL] using h
  | x :: r, y, z, hn, h => by
    rw [List.map_cons, List.nodup_cons] at hn; unfold putL at h; split at h
    · rename_i e
      rcases List.mem_cons.1 h with h | h
      · exact Or.inl h
      · right
        refine ⟨List.mem_cons_of_mem _ h, fun e2 => hn.1 ?_⟩; rw [← e, ← e2]; exact List.mem_map_of_mem h
    · rename_i e
      rcases List.mem_cons.1 h with rfl | h
      · exact Or.inr ⟨List.mem_cons_self .., fun e2 => e e2.symm⟩
      · rcases put_mem hn.2 h with h | ⟨h, h2⟩
        · exact Or.inl h
        · exact Or.inr ⟨List.mem_cons_of_mem _ h, h2⟩
theorem put_clients : ∀ (L : List St) (y : St), (y.client ∈ L.map (·.client) ∧ (putL L y).map (·.client) = L.map (·.client)) ∨ (y.client ∉ L.map (·.client) ∧ (putL L y).map (·.client) = L.map (·.client) ++ [y.client])
  | [], y => Or.inr ⟨by simp, rfl⟩
  | x :: r, y => by
    unfold putL; split
    · rename_i e
      left
      rw [List.map_cons, List.map_cons, e]; exact ⟨List.mem_cons_self .., rfl⟩
    · rename_i e
      rw [List.map_cons, List.map_cons]; rcases put_clients r y with ⟨h1, h2⟩ | ⟨h1, h2⟩
      · exact Or.inl ⟨List.mem_cons_of_mem _ h1, by rw [h2]⟩
      · exact Or.inr ⟨by rw [List.mem_cons, not_or]; exact ⟨e, h1⟩, by rw [h2]; rfl⟩
theorem put_nd {L : List St} {y : St} (h : (L.map (·.client)).Nodup) : ((putL L y).map (·.client)).Nodup := by
  rcases put_clients L y with ⟨_, h2⟩ | ⟨hm, h2⟩
  · rw [h2]; exact h
  · rw [h2, List.nodup_append]
    refine ⟨h, by simp, fun a ha b hb e => ?_⟩; simp at hb
    subst hb; exact hm (e ▸ ha)
structure MoAt (w : World) (B m M K KM : Nat) (L : List St) : Prop where
  box : BoxAt w m #[.map (some M), .pointer (some ⟨K, 0, none⟩)] 92
  map : MapAt w M Value.string (entM L)
  kbox : BoxAt w K #[.map (some KM)] 134
  kmap : ∃ es, MapAt w KM Value.string (es : List (ByteArray × Value))
  st : ∀ x ∈ L, StAt w B x
  nd : (L.map (·.client)).Nodup
  apart : ∀ x ∈ L, ∀ z ∈ L, x.client ≠ z.client → ∀ k, FootS x k → ¬ FootS z k
  far : ∀ x ∈ L, ∀ k, FootS x k → k ≠ m ∧ k ≠ M ∧ k ≠ K ∧ k ≠ KM
  lo : B ≤ m ∧ B ≤ M ∧ B ≤ K ∧ B ≤ KM
  ne : m ≠ M ∧ m ≠ K ∧ m ≠ KM ∧ M ≠ K ∧ M ≠ KM ∧ K ≠ KM
def FootM (m M K KM : Nat) (L : List St) (k : Nat) : Prop := k = m ∨ k = M ∨ k = K ∨ k = KM ∨ ∃ x ∈ L, FootS x k
section
variable {w w' : World} {B m M K KM : Nat} {L : List St}
theorem MoAt.only {F : Nat → Prop} (h : MoAt w B m M K KM L) (k : Only F w w') (hF : ∀ j, FootM m M K KM L j → ¬ F j) : MoAt w' B m M K KM L :=
  ⟨h.box.only k (hF _ (Or.inl rfl)), h.map.only k (hF _ (Or.inr (Or.inl rfl))), h.kbox.only k (hF _ (Or.inr (Or.inr (Or.inl rfl)))), (by obtain ⟨es, he⟩ := h.kmap; exact ⟨es, he.only k (hF _ (Or.inr (Or.inr (Or.inr (Or.inl rfl)))))⟩),
   fun x hx => (h.st x hx).only k (fun j hj => hF j (Or.inr (Or.inr (Or.inr (Or.inr ⟨x, hx, hj⟩))))), h.nd, h.apart, h.far, h.lo, h.ne⟩
theorem MoAt.below (h : MoAt w B m M K KM L) (k : Below w.heap.size w w') : MoAt w' B m M K KM L := h.only (Only.of_below k (fun _ => False)) (fun _ _ h => h)
theorem MoAt.foot (h : MoAt w B m M K KM L) {k : Nat} (hk : FootM m M K KM L k) : k < w.heap.size := by
  rcases hk with rfl | rfl | rfl | rfl | ⟨x, hx, hk⟩
  · exact h.box.lt
  · exact h.map.lt
  · exact h.kbox.lt
  · obtain ⟨es, he⟩ := h.kmap; exact he.lt
  · exact (h.st x hx).foot hk
theorem MoAt.put {F : Nat → Prop} {y : St} (h : MoAt w B m M K KM L) (k : Only F w w') (hF : ∀ j, F j → j < w.heap.size → j = M ∨ ∃ x ∈ L, x.client = y.client ∧ FootS x j) (hmap : MapAt w' M Value.string (entM (putL L y)))
    (hy : StAt w' B y) (hfar : ∀ j, FootS y j → (∃ x ∈ L, x.client = y.client ∧ FootS x j) ∨ ¬ FootM m M K KM L j) : MoAt w' B m M K KM (putL L y) := by
  have hno : ∀ j, (j = m ∨ j = K ∨ j = KM) → ¬ F j := by
    intro j hj hf; have hlt : j < w.heap.size := h.foot (by rcases hj with rfl | rfl | rfl; exact Or.inl rfl; exact Or.inr (Or.inr (Or.inl rfl)); exact Or.inr (Or.inr (Or.inr (Or.inl rfl)))); obtain ⟨h1, h2, h3, h4, h5, h6⟩ := h.ne; rcases hF j hf hlt with rfl | ⟨x, hx, _, hk⟩
    · rcases hj with rfl | rfl | rfl
      · exact h1 rfl
      · exact h4 rfl
      · exact h5 rfl
    · obtain ⟨g1, g2, g3, g4⟩ := h.far x hx j hk
      rcases hj with rfl | rfl | rfl
      · exact g1 rfl
      · exact g3 rfl
      · exact g4 rfl
  have hother : ∀ z ∈ L, z.client ≠ y.client → ∀ j, FootS z j → ¬ F j := by
    intro z hz hne j hj hf; rcases hF j hf ((h.st z hz).foot hj) with rfl | ⟨x, hx, hxc, hk⟩
    · exact (h.far z hz _ hj).2.1 rfl
    · exact h.apart x hx z hz (by rw [hxc]; exact fun e => hne e.symm) j hk hj
  have hyfar : ∀ z ∈ L, z.client ≠ y.client → ∀ j, FootS y j → ¬ FootS z j := by
    intro z hz hne j hj hk; rcases hfar j hj with ⟨x, hx, hxc, hx2⟩ | hge
    · exact h.apart x hx z hz (by rw [hxc]; exact fun e => hne e.symm) j hx2 hk
    · exact hge (Or.inr (Or.inr (Or.inr (Or.inr ⟨z, hz, hk⟩))))
  refine ⟨h.box.only k (hno _ (Or.inl rfl)), hmap, h.kbox.only k (hno _ (Or.inr (Or.inl rfl))), (by obtain ⟨es, he⟩ := h.kmap; exact ⟨es, he.only k (hno _ (Or.inr (Or.inr rfl)))⟩), ?_, put_nd h.nd, ?_, ?_, h.lo, h.ne⟩
  · intro z hz
    rcases put_mem h.nd hz with rfl | ⟨hz, hne⟩
    · exact hy
    · exact (h.st z hz).only k (hother z hz hne)
  · intro x hx z hz hne j hj hk
    rcases put_mem h.nd hx with e | ⟨hx, hxn⟩
    · rcases put_mem h.nd hz with e2 | ⟨hz, hzn⟩
      · exact hne (by rw [e, e2])
      · exact hyfar z hz hzn j (e ▸ hj) hk
    · rcases put_mem h.nd hz with e2 | ⟨hz, hzn⟩
      · exact hyfar x hx hxn j (e2 ▸ hk) hj
      · exact h.apart x hx z hz hne j hj hk
  · intro x hx j hj
    rcases put_mem h.nd hx with rfl | ⟨hx, _⟩
    · rcases hfar j hj with ⟨z, hz, _, hz2⟩ | hge
      · exact h.far z hz j hz2
      · exact ⟨fun e => hge (Or.inl e), fun e => hge (Or.inr (Or.inl e)), fun e => hge (Or.inr (Or.inr (Or.inl e))), fun e => hge (Or.inr (Or.inr (Or.inr (Or.inl e))))⟩
    · exact h.far x hx j hj
end
end Go.Proofs.YtnnpokndajpkiaaDoor
namespace Go.Proofs.YtnnpokndajpkiaaDoor
open Go.RowKit
end Go.Proofs.YtnnpokndajpkiaaDoor
