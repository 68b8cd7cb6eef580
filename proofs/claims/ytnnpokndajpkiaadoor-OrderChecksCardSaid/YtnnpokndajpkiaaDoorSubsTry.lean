import Derived.Test.YtnnpokndajpkiaaDoorJoinQ
import Derived.Test.YtnnpokndajpkiaaDoorJoinK
import Derived.Test.YtnnpokndajpkiaaDoorJoinA
namespace Go.Proofs.YtnnpokndajpkiaaDoor
open Go.RowKit
def SmallS (T : List Sb) : Prop := ∀ x ∈ T, x.1.size ≤ 300 ∧ x.2 < 256
theorem SmallS.take {T : List Sb} (h : SmallS T) (k : Nat) : SmallS (T.take k) := fun x hx => h x (List.mem_of_mem_take hx)
structure TryAt (w : World) (B gl pl : Nat) (vl : Value) (S' : List Sb) (p : Value) (n : Nat) (ns : List Nat) : Prop where
  li : LAt w B gl vl S'
  pt : OneAt w pl 155 (.pointer (some ⟨gl, 0, none⟩))
  out : w.ownsRow B 5 1 p n (natV ns)
theorem TryAt.below {w w' : World} {B gl pl : Nat} {vl : Value} {S' : List Sb} {p : Value} {n : Nat} {ns : List Nat} (h : TryAt w B gl pl vl S' p n ns) (k : Below w.heap.size w w') : TryAt w' B gl pl vl S' p n ns :=
  ⟨h.li.below k, h.pt.below k, own_only h.out (Only.of_below k (fun _ => False)) (fun _ _ h => h)⟩
theorem TryAt.set {w w' : World} {B gl pl : Nat} {vl vl' : Value} {S' S2 : List Sb} {p : Value} {n : Nat} {ns : List Nat} (h : TryAt w B gl pl vl S' p n ns) (h1 : LAt w' B gl vl' S2) (h2 : Only (Foot gl vl) w w') : TryAt w' B gl pl vl' S2 p n ns :=
  ⟨h1, h.pt.only h2 (by
    rintro (e | e)
    · have a := h.pt
      have b := h.li.blk; rw [e] at a; unfold OneAt at a b; rw [a] at b; injection b with b
      injection b with _ b
      exact absurd b (by decide)
    · exact RowAt.ne h.pt h.li.own (by decide) e), own_only h.out h2 (fun r hr => by
    rintro (e | e)
    · subst e
      exact OneAt.ne_own h.li.blk h.out (by decide) hr
    · exact row_ne_own h.li.own h.out (by decide) r hr e)⟩
theorem TryAt.add {w w' : World} {B gl pl : Nat} {vl p p' : Value} {S' : List Sb} {n : Nat} {ns : List Nat} {m : Nat} {ms : List Nat} (h : TryAt w B gl pl vl S' p n ns) (k : w.grownBy w' p.ownBlock) (h1 : w'.ownsRow B 5 1 p' m (natV ms)) : TryAt w' B gl pl vl S' p' m ms :=
  ⟨h.li.only (only_grown k) (fun e => OneAt.ne_own h.li.blk h.out (by decide) e) (fun r hr e => row_ne_own h.li.own h.out (by decide) r e hr),
   h.pt.only (only_grown k) (fun e => OneAt.ne_own h.pt h.out (by decide) e), h1⟩
theorem TryAt.foot {w : World} {B gl pl : Nat} {vl : Value} {S' : List Sb} {p : Value} {n : Nat} {ns : List Nat} (h : TryAt w B gl pl vl S' p n ns) (k : Nat) : Foot gl vl k → B ≤ k := by
  rintro (e | e)
  · rw [e]; exact h.li.lo
  · exact (h.li.own.lt e).2
end Go.Proofs.YtnnpokndajpkiaaDoor
