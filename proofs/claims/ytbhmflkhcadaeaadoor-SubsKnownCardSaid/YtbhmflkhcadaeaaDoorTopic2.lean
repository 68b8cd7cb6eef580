/- The walks of the program's package topic, further: names, first levels, what covers what. Conditions: the decoder's tables lie as Go lays them; texts shorter than the model's bound for a search. -/
import Derived.Test.YtbhmflkhcadaeaaDoorTopic
namespace Go.Proofs.YtbhmflkhcadaeaaDoor
open Go.RowKit

theorem topic_Name (s : ByteArray) (w : World) (hE : Env w) (hs : s.size < 4294967281) :
    Calls Tryd.prog 35 #[.string s] w fun e w' => e = .returned (.bool (nameL (bl s))) ∧ Below w.heap.size w w' := by
  have hV := Lib.hid (text_Valid s w hE (by omega))
  have hC := Lib.hid (fun w1 => ContainsAny_pm s w1 hs)
  rw [show s.data.toList = bl s from rfl] at hV hC
  cases hemp : (bl s).isEmpty
  · have h1 : s.toList.isEmpty = false := by rw [empty_toList]; exact hemp
    cases hv : validL (bl s)
    · rw [hv] at hV
      go_enter Tryd.func35, Tryd.ntmps35
      go_wp2_with (first | (go_at_call 37; refine hV.out.mono ?_; rintro e w1 ⟨rfl, hb⟩))
      go_ret
      exact ⟨ret_bool (by unfold nameL; rw [hv]; simp), hb⟩
    · rw [hv] at hV
      go_enter Tryd.func35, Tryd.ntmps35
      go_wp2_with (first | (go_at_call 37; refine hV.out.mono ?_; rintro e w1 ⟨rfl, hb⟩) | (go_at_call 46; refine (hC.out _).mono ?_; rintro e w2 ⟨rfl, hb2⟩; replace hb2 := Below.then hb hb2))
      go_ret
      exact ⟨ret_bool (by unfold nameL; rw [hv, hemp]; simp), hb2⟩
  · have h1 : s.toList.isEmpty = true := by rw [empty_toList]; exact hemp
    go_enter Tryd.func35, Tryd.ntmps35
    go_wp2_with fail
    go_ret
    exact ⟨ret_bool (by unfold nameL; rw [hemp]; rfl), Below.refl _ _⟩

/-- The first one of the levels. -/
theorem head_of {L : List ByteArray} {T : List Bs} (h : L.map bl = T) (hne : T ≠ []) : ∃ x, L[0]? = some x ∧ T.headD [] = bl x ∧ 0 < L.length := by
  cases L with
  | nil => subst h; exact absurd rfl hne
  | cons x r => subst h; exact ⟨x, rfl, rfl, by simp⟩

theorem topic_wild (s : ByteArray) (w : World) (hE : Env w) (hs : s.size < 4294967281) :
    Calls Tryd.prog 47 #[.string s] w fun e w' => e = .returned (.bool (wildL (bl s))) ∧ Below w.heap.size w w' := by
  have hL := Lib.hid (topic_Levels s w hE hs)
  go_enter Tryd.func47, Tryd.ntmps47
  go_wp2_with (first | (go_at_call 38; refine hL.out.mono ?_; rintro e w1 ⟨L, a, c, rfl, hT, hcells, hb⟩; obtain ⟨x, hx, hh, hlen⟩ := head_of hT (levelsL_ne _); obtain ⟨b, o, rfl, hcell⟩ := hcells.text hx; rw [Nat.add_zero] at hcell; have HH := Lib.hid hh; clear hT hh hx hcells))
  all_goals go_ret
  all_goals (refine ⟨ret_bool ?_, hb⟩)
  all_goals (unfold wildL headL; rw [HH.out]; unfold bl; simp only [Lib.toList_data] at *; try simp_all)

/-- What First leaves. -/
def RetFirst (p : Bs × Bool) (w : World) (e : Ending) (w' : World) : Prop := ∃ r : ByteArray, e = .returned (.tuple #[.string r, .bool p.2]) ∧ bl r = p.1 ∧ Below w.heap.size w w'


theorem coversLv_cons (x : Bs) (a b : List Bs) : coversLv (x :: a) b = if x == [35] then true else match b with
    | [] => false
    | y :: b => if y == [35] then false else (x == [43] || x == y) && coversLv a b := by cases b <;> rfl
theorem coversLv_step (A B : List Bs) (i : Nat) (x : Bs) (hx : A[i]? = some x) : coversLv (A.drop i) (B.drop i) =
    if x == [35] then true else match B[i]? with
      | none => false
      | some y => if y == [35] then false else (x == [43] || x == y) && coversLv (A.drop (i + 1)) (B.drop (i + 1)) := by
  obtain ⟨hk, hx'⟩ := List.getElem?_eq_some_iff.1 hx
  rw [List.drop_eq_getElem_cons hk, hx', coversLv_cons]
  by_cases hi : i < B.length
  · rw [List.drop_eq_getElem_cons hi, List.getElem?_eq_getElem hi]
  · rw [List.drop_eq_nil_of_le (by omega), List.getElem?_eq_none (by omega)]
theorem coversLv_end (A B : List Bs) : coversLv (A.drop A.length) B = B.isEmpty := by simp [coversLv]

/-- What the closure that calls itself finds in the variables that it has caught. -/
structure Caught (w : World) (pa pb pf : Nat) (a b : Option Addr) (ca cb : Nat) (A B : List ByteArray) : Prop where
  va : w.cell? ⟨pa, 0, none⟩ = some (.slice a A.length ca)
  vb : w.cell? ⟨pb, 0, none⟩ = some (.slice b B.length cb)
  vf : w.cell? ⟨pf, 0, none⟩ = some (.func (.func 58) #[] #[.pointer (some ⟨pa, 0, none⟩), .pointer (some ⟨pb, 0, none⟩), .pointer (some ⟨pf, 0, none⟩)])
  ta : CellsA w a (A.map Value.string)
  tb : CellsA w b (B.map Value.string)

def Quiet (v : Bool) (w : World) (e : Ending) (w' : World) : Prop := e = .returned (.bool v) ∧ ∃ n, w' = w.drewN n
theorem cell_draws (w : World) (n : Nat) (p : Addr) : (w.drewN n).cell? p = w.cell? p := rfl
theorem Caught.draws {w : World} {pa pb pf : Nat} {a b : Option Addr} {ca cb : Nat} {A B : List ByteArray} (h : Caught w pa pb pf a b ca cb A B) (n : Nat) : Caught (w.drewN n) pa pb pf a b ca cb A B :=
  ⟨h.va, h.vb, h.vf, h.ta, h.tb⟩

theorem eq35 (x : ByteArray) (v : Bool) (h : (bl x == [35]) = v) : (x.toList == [35]) = v := by rw [Lib.toList_data]; exact h
theorem eq43 (x : ByteArray) (v : Bool) (h : (bl x == [43]) = v) : (x.toList == [43]) = v := by rw [Lib.toList_data]; exact h
theorem eqTwo (x y : ByteArray) (v : Bool) (h : (bl x == bl y) = v) : (x.toList == y.toList) = v := by rw [Lib.toList_data, Lib.toList_data]; exact h

set_option maxRecDepth 100000 in
theorem covers_from (pa pb pf : Nat) (a b : Option Addr) (ca cb : Nat) (A B : List ByteArray) (hA : A.length ≤ 4294967281) (hB : B.length ≤ 4294967281) : ∀ (n i : Nat) (w : World), i + n = A.length → i ≤ B.length → Caught w pa pb pf a b ca cb A B →
    Calls Tryd.prog 58 #[.int .i64 i, .pointer (some ⟨pa, 0, none⟩), .pointer (some ⟨pb, 0, none⟩), .pointer (some ⟨pf, 0, none⟩)] w (Quiet (coversLv ((A.map bl).drop i) ((B.map bl).drop i)) w) := by
  intro n
  induction n with
  | zero =>
    intro i w hi hiB hc
    obtain ⟨c1, c2, c3, h4, h5⟩ := hc
    have : i = A.length := by omega
    subst this
    have e : coversLv ((A.map bl).drop A.length) ((B.map bl).drop A.length) = ((A.length : Int) == (B.length : Int)) := by
      have h := coversLv_end (A.map bl) ((B.map bl).drop A.length)
      rw [List.length_map] at h
      rw [h, Bool.eq_iff_iff]
      simp; omega
    rw [e]
    have hz : ((A.length : Int) == (A.length : Int)) = true := by simp
    clear h4 h5 hi e
    go_enter Tryd.func58, Tryd.ntmps58
    go_wp2_with fail
    go_ret
    exact ⟨rfl, 0, rfl⟩
  | succ n ih =>
    intro i w hi hiB hc
    have hst : i < A.length := by omega
    obtain ⟨x, hx⟩ : ∃ x, A[i]? = some x := ⟨_, List.getElem?_eq_getElem hst⟩
    have hS := coversLv_step (A.map bl) (B.map bl) i (bl x) (by rw [List.getElem?_map, hx]; rfl)
    obtain ⟨c1, c2, c3, h4, h5⟩ := id hc
    obtain ⟨ba, oa, rfl, hcx⟩ := h4.text hx
    have hne : ((i : Int) == (A.length : Int)) = false := by rw [beq_eq_false_iff_ne]; omega
    have IH := Lib.hid ih
    have HC := Lib.hid hc
    clear ih hc hx
    cases hx35 : bl x == [35]
    · have e35 := eq35 x _ hx35
      rw [hx35] at hS
      by_cases hb : i < B.length
      · obtain ⟨y, hy⟩ : ∃ y, B[i]? = some y := ⟨_, List.getElem?_eq_getElem hb⟩
        obtain ⟨bb, ob, rfl, hcy⟩ := h5.text hy
        have hyT : (B.map bl)[i]? = some (bl y) := by rw [List.getElem?_map, hy]; rfl
        rw [hyT] at hS
        simp only [Bool.false_eq_true, if_false] at hS
        have hne2 : ((i : Int) == (B.length : Int)) = false := by rw [beq_eq_false_iff_ne]; omega
        clear hy hyT h4 h5
        cases hy35 : bl y == [35]
        · have f35 := eq35 y _ hy35
          rw [hy35] at hS
          have e43 := eq43 x _ rfl
          have exy := eqTwo x y _ rfl
          rw [if_neg Bool.false_ne_true] at hS
          cases hx43 : bl x == [43]
          · rw [hx43] at hS e43
            cases hxy : bl x == bl y
            · rw [hxy] at hS exy
              have HS := Lib.hid hS
              clear hS hx43 hxy hx35 hy35
              go_enter Tryd.func58, Tryd.ntmps58
              go_wp2_with fail
              go_quiet (fail)
              go_wp2_with fail
              go_ret
              exact ⟨ret_bool (by rw [HS.out]; rfl), _, rfl⟩
            · rw [hxy] at hS exy
              have HS := Lib.hid hS
              clear hS hx43 hxy hx35 hy35
              go_enter Tryd.func58, Tryd.ntmps58
              go_wp2_with fail
              go_quiet ((go_at_call 58; exact Calls.quiet_of (IH.out (i + 1) _ (by omega) (by omega) (HC.out.draws _))))
              go_wp2_with fail
              go_ret
              exact ⟨ret_bool (by rw [HS.out]; rfl), _, rfl⟩
          · rw [hx43] at hS e43
            have HS := Lib.hid hS
            clear hS hx43 hx35 hy35 exy
            go_enter Tryd.func58, Tryd.ntmps58
            go_wp2_with fail
            go_quiet ((go_at_call 58; exact Calls.quiet_of (IH.out (i + 1) _ (by omega) (by omega) (HC.out.draws _))))
            go_wp2_with fail
            go_ret
            exact ⟨ret_bool (by rw [HS.out]; rfl), _, rfl⟩
        · have f35 := eq35 y _ hy35
          rw [hy35] at hS
          have HS := Lib.hid hS
          clear hS
          go_enter Tryd.func58, Tryd.ntmps58
          go_wp2_with fail
          go_ret
          exact ⟨ret_bool (by rw [HS.out]; rfl), 0, rfl⟩
      · have hyT : (B.map bl)[i]? = none := List.getElem?_eq_none (by simp; omega)
        rw [hyT] at hS
        have hne2 : ((i : Int) == (B.length : Int)) = true := by rw [beq_iff_eq]; omega
        have HS := Lib.hid hS
        clear hS hyT h4 h5
        go_enter Tryd.func58, Tryd.ntmps58
        go_wp2_with fail
        go_ret
        exact ⟨ret_bool (by rw [HS.out]; rfl), 0, rfl⟩
    · have e35 := eq35 x _ hx35
      rw [hx35] at hS
      have HS := Lib.hid hS
      clear hS h4 h5
      go_enter Tryd.func58, Tryd.ntmps58
      go_wp2_with fail
      go_ret
      exact ⟨ret_bool (by rw [HS.out]; rfl), 0, rfl⟩
end Go.Proofs.YtbhmflkhcadaeaaDoor
