/- Rows of bytes in memory, and the text that they make. No condition; nothing of the program is named. -/
import Derived.Test.YtkphaihbdmjogaaDoorHeap
import Derived.Laws.BytesArg
namespace Go.Proofs.YtkphaihbdmjogaaDoor
open Go.RowKit

def natV (ns : List Nat) : List Value := ns.map fun (n : Nat) => Value.int .u8 (n : Int)
def strN (ns : List Nat) : ByteArray := ⟨(ns.map UInt8.ofNat).toArray⟩
theorem natV_append (a b : List Nat) : natV (a ++ b) = natV a ++ natV b := List.map_append
theorem natV_len (a : List Nat) : (natV a).length = a.length := List.length_map _
theorem natV_one (ns : List Nat) : ∀ u ∈ natV ns, u.oneCell' = true := by
  intro u hu
  obtain ⟨n, _, rfl⟩ := List.mem_map.1 hu
  rfl
/-- string(b), b any slice that reads so. -/
theorem conv_nats {P : Program} (w : World) (src e : TypeId) (hs : P.underlying src = some (.slice e)) (he : P.underlying e = some (.int .u8)) (a : Option Addr) (c : Nat) (ns : List Nat) (n : Nat) (hn : n = ns.length) (h : CellsA w a (natV ns)) :
    ∀ dst, P.underlying dst = some .string → (convert src dst (.slice a n c)).run P w = .ok (.string (strN ns)) w := by
  subst hn
  intro dst hd
  cases a with
  | none =>
    cases ns with
    | nil => exact run_convert_bytes_nil (P := P) w src e hs he 0 c dst hd
    | cons n r => obtain ⟨b, o, hb, _⟩ := h 0 _ rfl; cases hb
  | some ad =>
    cases ns with
    | nil =>
      rw [run_convert_bytes_string w src dst e _ _ c hs he hd, List.length_nil, run_bytesToString w ad 0 c [] (by simpa using run_loadCells_list (P := P) w ad [] (fun j v hj => by simp at hj))]
      rfl
    | cons n r =>
      obtain ⟨b, o, hb, _⟩ := h 0 _ rfl
      injection hb with hb
      subst hb
      have hx := run_convert_bytes_arg (P := P) w src e hs he b o (n :: r).length c ((n :: r).map fun (m : Nat) => (m : Int)) (by simp) (fun i hi => by
        obtain ⟨b', o', hb', hc⟩ := h i (.int .u8 (((n :: r)[i]'hi : Nat) : Int)) (by unfold natV; rw [List.getElem?_map, List.getElem?_eq_getElem hi]; rfl)
        injection hb' with hb'
        injection hb' with e1 e2
        subst e1 e2
        rw [hc]
        congr 2
        rw [List.getD_eq_getElem?_getD, List.getElem?_map, List.getElem?_eq_getElem hi]; rfl) dst hd
      rw [hx]
      congr 2
      unfold strOfNums strN
      congr 1
      rw [List.map_map]
      congr 1

end Go.Proofs.YtkphaihbdmjogaaDoor
