/- The walk of the list's Try. Conditions: the list lies behind its pointer, the filters that are tried in their cells; the decoder's tables lie as Go lays them. -/
import Derived.Test.YtbhmflkhcadaeaaDoorSubsClear
import Derived.Test.YtbhmflkhcadaeaaDoorRefSubs2
import Derived.Test.YtbhmflkhcadaeaaDoorBytes
namespace Go.Proofs.YtbhmflkhcadaeaaDoor
open Go.RowKit

/-- The closure that sets on the copy: its pointer lies in block p. -/
theorem subs_try2 (B g p : Nat) (v : Value) (S : List Sb) (f : ByteArray) (q : Nat) (w : World) (hE : Env w) (hL : LAt w B g v S) (hS : Fine S) (hB : B ≤ w.heap.size) (hf : f.size ≤ 300) (hq : q < 256) (hp : w.cell? ⟨p, 0, none⟩ = some (.pointer (some ⟨g, 0, none⟩))) :
    Calls Tryd.prog 32 #[.agg #[.string f, .int .u8 (q : Int)], .pointer (some ⟨p, 0, none⟩)] w (RetSet B g v (setS S f q).1 (setS S f q).2 w) := by
  have hb0 : Below w.heap.size w (w.alloc (.cells #[.string f, .int .u8 (q : Int)] 33)) := (Below.refl _ _).alloc (Nat.le_refl _) _
  have HS := Lib.hid (subs_Set B g v S f q _ (hE.below hb0) (hL.below hb0) hS (Nat.le_trans hB hb0.size) hf hq)
  have FIN := Lib.hid (show ∀ e w', RetSet B g v (setS S f q).1 (setS S f q).2 (w.alloc (.cells #[.string f, .int .u8 (q : Int)] 33)) e w' → RetSet B g v (setS S f q).1 (setS S f q).2 w e w' from by
    rintro e w' ⟨v', h1, h2, h3, h4⟩
    refine ⟨v', h1, h2, (Only.of_below hb0 _).trans h3 (fun _ _ h => h), fun r hr => ?_⟩
    rcases h4 r hr with h | h
    · exact Or.inl h
    · exact Or.inr (Nat.le_trans hb0.size h))
  have hplt := World.block_lt_of_cell? _ _ hp
  clear hb0 hL hS
  go_enter Tryd.func32, Tryd.ntmps32
  go_wp2_with (go_at_call 20; refine Calls.mono HS.out ?_; rintro e w1 h9; have H9 := Lib.hid (FIN.out _ _ h9); obtain ⟨v', rfl, _⟩ := h9)
  go_ret
  exact H9.out

/-- The list behind some sets. -/
def runS (S T : List Sb) : List Sb := T.foldl (fun S x => (setS S x.1 x.2).2) S
theorem runS_snoc (S T : List Sb) (x : Sb) : runS S (T ++ [x]) = (setS (runS S T) x.1 x.2).2 := by unfold runS; rw [List.foldl_append]; rfl
theorem try_snoc : ∀ (T S : List Sb) (x : Sb), tryS S (T ++ [x]) = tryS S T ++ [(setS (runS S T) x.1 x.2).1]
  | [], S, x => rfl
  | y :: r, S, x => by
    have ih := try_snoc r (setS S y.1 y.2).2 x
    rw [List.cons_append, tryS, ih, tryS]; rfl
theorem try_len : ∀ (T S : List Sb), (tryS S T).length = T.length
  | [], S => rfl
  | y :: r, S => by rw [tryS, List.length_cons, try_len r, List.length_cons]
theorem bl_strN (ns : List Nat) : bl (strN ns) = ns.map UInt8.ofNat := rfl
def SmallS (T : List Sb) : Prop := ∀ x ∈ T, x.1.size ≤ 300 ∧ x.2 < 256
theorem runS_fine : ∀ (T S : List Sb), Fine S → SmallS T → Fine (runS S T)
  | [], S, h, _ => h
  | y :: r, S, h, hT => runS_fine r _ (setS_fine h y.1 y.2 (hT y (by simp)).1) (fun x hx => hT x (by simp [hx]))
theorem SmallS.take {T : List Sb} (h : SmallS T) (k : Nat) : SmallS (T.take k) := fun x hx => h x (List.mem_of_mem_take hx)

theorem row_ne_own {w : World} {B B' n m size size' : Nat} {e e' : TypeId} {x y : Value} {xs ys : List Value} (h : RowAt w B e size x n xs) (k : w.ownsRow B' e' size' y m ys) (hne : e ≠ e') (r : Nat) (hr : y.ownBlock = some r) : x.ownBlock ≠ some r := by
  rcases k.2 with ⟨rfl, _⟩ | ⟨g', cap', cur', rfl, _, hh', _⟩
  · simp [Value.ownBlock] at hr
  · rcases h.2 with ⟨rfl, _⟩ | ⟨g, cap, cur, rfl, _, hh, _⟩
    · simp [Value.ownBlock]
    · simp only [Value.ownBlock, Option.some.injEq] at hr ⊢
      subst hr
      intro he
      injection he with he
      subst he
      rw [hh] at hh'
      injection hh' with hh'
      injection hh' with _ ht
      exact hne ht
theorem only_grown {w w' : World} {row : Option Nat} (k : w.grownBy w' row) : Only (fun j => row = some j) w w' := ⟨k.os, k.tape, k.output, k.size, fun i hi hF => k.block i hi (fun e => hF e.symm)⟩

/-- What lies in memory while Try runs: the like list, its pointer's variable, the answers. -/
structure TryAt (w : World) (B gl pl : Nat) (vl : Value) (S' : List Sb) (p : Value) (n : Nat) (ns : List Nat) : Prop where
  li : LAt w B gl vl S'
  pt : OneAt w pl 25 (.pointer (some ⟨gl, 0, none⟩))
  out : w.ownsRow B 5 1 p n (natV ns)
theorem TryAt.below {w w' : World} {B gl pl : Nat} {vl : Value} {S' : List Sb} {p : Value} {n : Nat} {ns : List Nat} (h : TryAt w B gl pl vl S' p n ns) (k : Below w.heap.size w w') : TryAt w' B gl pl vl S' p n ns :=
  ⟨h.li.below k, h.pt.below k, own_only h.out (Only.of_below k (fun _ => False)) (fun _ _ h => h)⟩
theorem TryAt.set {w w' : World} {B gl pl : Nat} {vl vl' : Value} {S' S2 : List Sb} {p : Value} {n : Nat} {ns : List Nat} (h : TryAt w B gl pl vl S' p n ns) (h1 : LAt w' B gl vl' S2) (h2 : Only (Foot gl vl) w w') : TryAt w' B gl pl vl' S2 p n ns :=
  ⟨h1, h.pt.only h2 (by
    rintro (e | e)
    · have a := h.pt
      have b := h.li.blk
      rw [e] at a
      unfold OneAt at a b
      rw [a] at b
      injection b with b
      injection b with _ b
      exact absurd b (by decide)
    · exact RowAt.ne h.pt h.li.own (by decide) e), own_only h.out h2 (fun r hr => by
    rintro (e | e)
    · subst e
      exact OneAt.ne_own h.li.blk h.out (by decide) hr
    · exact row_ne_own h.li.own h.out (by decide) r hr e)⟩
theorem TryAt.add {w w' : World} {B gl pl : Nat} {vl p p' : Value} {S' : List Sb} {n : Nat} {ns : List Nat} {m : Nat} {ms : List Nat} (h : TryAt w B gl pl vl S' p n ns) (k : w.grownBy w' p.ownBlock) (h1 : w'.ownsRow B 5 1 p' m (natV ms)) : TryAt w' B gl pl vl S' p' m ms :=
  ⟨h.li.only (only_grown k) (fun e => OneAt.ne_own h.li.blk h.out (by decide) e) (fun r hr e => row_ne_own h.li.own h.out (by decide) r e hr),
   h.pt.only (only_grown k) (fun e => OneAt.ne_own h.pt h.out (by decide) e), h1⟩
theorem TryAt.foot {w : World} {B gl pl : Nat} {vl : Value} {S' : List Sb} {p : Value} {n : Nat} {ns : List Nat} (h : TryAt w B gl pl vl S' p n ns) (k : Nat) : Foot gl vl k → B ≤ k := by
  rintro (e | e)
  · rw [e]; exact h.li.lo
  · exact (h.li.own.lt e).2

theorem infoU8 : (Tryd.prog.info? 5).map (fun i => (i.zero, i.size, i.bytes)) = some (some (.int .u8 0), 1, 1) := by kernel_rfl

set_option maxRecDepth 100000 in
set_option maxHeartbeats 1000000 in
theorem subs_Try (B g : Nat) (v : Value) (S : List Sb) (a : Option Addr) (c : Nat) (T : List Sb) (w : World) (hE : Env w) (hL : LAt w B g v S) (hS : Fine S) (ha : CellsA w a (subCells T)) (hT : SmallS T) (hn : T.length ≤ 60) :
    Calls Tryd.prog 15 #[.pointer (some ⟨g, 0, none⟩), .slice a T.length c] w fun e w' => e = .returned (.string (strN (tryS S T))) ∧ Below w.heap.size w w' := by
  obtain ⟨i0, hi, hz0, hz1, hz2⟩ := info_parts infoU8
  have HS := Lib.hid (subs_Subs B g v S w hL hS.few)
  have HSET := Lib.hid (fun gl pl vl S' f q w1 => subs_try2 w.heap.size gl pl vl S' f q w1)
  have HF := Lib.hid (fun k => runS_fine (T.take k) S hS (hT.take k))
  have HT := Lib.hid hT
  clear hL hS hT
  go_enter Tryd.func15, Tryd.ntmps15
  go_wp2_with (go_at_call 14; refine Calls.mono HS.out ?_; rintro e w1 ⟨r, rfl, hown, hb⟩; obtain ⟨ar, cr, hr, hcr, _⟩ := own_form hown; rw [hr])
  subst hr
  have hst : TryAt ((w1.alloc (.cells #[.slice ar S.length cr] 54)).alloc (.cells #[.pointer (some ⟨w1.heap.size, 0, none⟩)] 25)) w.heap.size w1.heap.size (w1.heap.size + 1) (.slice ar S.length cr) S (.slice none 0 0) 0 [] :=
    ⟨⟨(OneAt.new _ _ _).below ((Below.refl _ _).alloc (Nat.le_refl _) _), RowAt.of_own ((hown.alloc _).alloc _), hb.size⟩, by
      have := OneAt.new (w1.alloc (.cells #[.slice ar S.length cr] 54)) 25 (.pointer (some ⟨w1.heap.size, 0, none⟩))
      simpa using this, World.ownsRow_nil _ _ _ _⟩
  have HST := Lib.hid hst
  clear hst hown
  have hb0 : Below w.heap.size w ((w1.alloc (.cells #[.slice ar S.length cr] 54)).alloc (.cells #[.pointer (some ⟨w1.heap.size, 0, none⟩)] 25)) := (hb.alloc hb.size _).alloc (by have := hb.size; simp; omega) _
  go_loopw [7, 19] (fun p i wr => ∃ (k : Nat) (vl : Value), k ≤ T.length ∧ i = .int .i64 k ∧ Hid (TryAt wr w.heap.size w1.heap.size (w1.heap.size + 1) vl (runS S (T.take k)) p k (tryS S (T.take k))) ∧ Below w.heap.size w wr) (fun _ i _ => T.length - (intOf i).toNat)
  case atStart => exact ⟨0, _, by omega, rfl, HST.out, hb0⟩
  case round =>
    obtain ⟨k, vl, hk, rfl, HA, hbr⟩ := hrel
    by_cases hlt : k < T.length
    · obtain ⟨x, hx⟩ : ∃ x, T[k]? = some x := ⟨_, List.getElem?_eq_getElem hlt⟩
      obtain ⟨bb, o, rfl, c1, c2⟩ := (ha.below hbr).sub hx
      have hxs := HT.out x (List.mem_of_getElem? hx)
      have htk : T.take (k + 1) = T.take k ++ [x] := by rw [List.take_add_one, hx]; rfl
      have H1 := Lib.hid (show runS S (T.take (k + 1)) = (setS (runS S (T.take k)) x.1 x.2).2 by rw [htk, runS_snoc])
      have H2 := Lib.hid (show tryS S (T.take (k + 1)) = tryS S (T.take k) ++ [(setS (runS S (T.take k)) x.1 x.2).1] by rw [htk, try_snoc])
      obtain ⟨f, q⟩ := x
      dsimp only at *
      have hbx : Below wr.heap.size wr (wr.alloc (.cells #[.string f, .int .u8 (q : Int)] 33)) := (Below.refl _ _).alloc (Nat.le_refl _) _
      have HAX := Lib.hid (HA.out.below hbx)
      have HCALL := Lib.hid (HSET.out w1.heap.size (w1.heap.size + 1) vl (runS S (T.take k)) f q _ (hE.below (Below.then hbr hbx)) HAX.out.li (HF.out k) (Below.then hbr hbx).size hxs.1 hxs.2 HAX.out.pt.cell)
      generalize setS (runS S (T.take k)) f q = sc at *
      obtain ⟨code, S2⟩ := sc
      dsimp only at *
      clear hx htk
      go_wp2_with (first
        | (go_at_call 32; refine Calls.mono HCALL.out ?_; rintro e w2 ⟨v2, rfl, h1, h2, h3⟩; have HB2 := Lib.hid (HAX.out.set h1 h2); have hbw := (Below.then hbr hbx).trans (h2.below (Below.then hbr hbx).size HAX.out.foot); have hszw := hbw.size; clear h1 h2 h3)
        | (at_builtin; refine wpList_append_own _ rfl (.tmp 23) (.tmp 27) 56 rfl w.heap.size 5 i0 _ 1 1 Tryd.underlying56 hi hz0 hz1 hz2 rfl (by decide) _ k (natV (tryS S (T.take k))) rfl (HB2.out.out.alloc _) ⟨w2.heap.size, 0, none⟩ 1 1 (natV [code]) rfl rfl (newsN _ _ _ _ rfl) (natV_one _) (by unfold maxLen; omega) (by omega) (by simp; omega) ?_; intro v3 w3 hown3 hg3 _; have hb3 := Below.grown' (hbw.alloc hszw _) hg3 (by simp; omega) (fun r hr => (own_lt HB2.out.out hr).2); have HC3 := Lib.hid ((HB2.out.below ((Below.refl _ _).alloc (Nat.le_refl _) _)).add hg3 (ms := tryS S (T.take k) ++ [code]) (by rw [natV_append]; exact hown3)); clear hown3 hg3))
      go_roundw
      case rel => exact ⟨k + 1, v2, by omega, by first | rfl | go_num, by rw [Hid, H1.out, H2.out]; exact HC3.out, hb3⟩
      case measure => simp [intOf]; omega
    · have : k = T.length := by omega
      subst this
      have hout := HA.out.out
      rw [List.take_length] at hout
      obtain ⟨ap, cp, rfl, _, hcp⟩ := own_form hout
      have kc := conv_nats (P := Tryd.prog) wr 56 5 Tryd.underlying56 Tryd.underlying5 ap cp _ _ (try_len T S).symm hcp 9 Tryd.underlying9
      clear hout hcp
      go_wp2_with fail
      go_ret
      exact ⟨rfl, hbr⟩
end Go.Proofs.YtbhmflkhcadaeaaDoor
