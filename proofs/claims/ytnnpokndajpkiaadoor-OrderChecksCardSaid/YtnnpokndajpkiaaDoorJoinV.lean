import Derived.Test.YtnnpokndajpkiaaDoorJoinR
import Derived.Test.YtnnpokndajpkiaaDoorCardPk
import Derived.Test.YtnnpokndajpkiaaDoorJoinS
import Derived.Test.YtnnpokndajpkiaaDoorJoinT
import Derived.Test.YtnnpokndajpkiaaDoorWhole
namespace Go.Proofs.YtnnpokndajpkiaaDoor
theorem checkN_spec : ∀ (l : List Nt) (σ : Sess) (π : Int → Pn) (i : Nat), checkN l σ π i = (-1, 0) ∨ ∃ j, j < l.length ∧ (checkN l σ π i).1 = ((i + j : Nat) : Int) ∧ 0 < (checkN l σ π i).2
  | [], _, _, _ => Or.inl rfl
  | n :: r, σ, π, i => by
    unfold checkN; split
    · exact Or.inr ⟨0, by simp, rfl, Nat.zero_lt_one⟩
    · split
      · rename_i h
        exact Or.inr ⟨0, by simp, rfl, Nat.pos_of_ne_zero h⟩
      · rcases checkN_spec r (kindN σ (π n.op) n).2.2 (updP π n.op (kindN σ (π n.op) n).2.1) (i + 1) with h | ⟨j, h1, h2, h3⟩
        · exact Or.inl h
        · refine Or.inr ⟨j + 1, by simpa using h1, ?_, h3⟩
          rw [h2]; congr 1; omega
theorem checkN_take : ∀ (l : List Nt) (σ : Sess) (π : Int → Pn) (i m : Nat), (∃ j, j < m ∧ (checkN l σ π i).1 = ((i + j : Nat) : Int) ∧ checkN (l.take m) σ π i = checkN l σ π i) ∨ ((∀ j, j < m → (checkN l σ π i).1 ≠ ((i + j : Nat) : Int)) ∧ checkN (l.take m) σ π i = (-1, 0))
  | [], σ, π, i, m => Or.inr ⟨fun j _ h => by
      have h2 : (-1 : Int) = ((i + j : Nat) : Int) := h; omega, by rw [List.take_nil]; rfl⟩
  | n :: r, σ, π, i, 0 => Or.inr ⟨fun j h => absurd h (Nat.not_lt_zero _), rfl⟩
  | n :: r, σ, π, i, m + 1 => by
    rw [List.take_succ_cons]; unfold checkN; by_cases h1 : n.kind < 1 ∨ 8 < n.kind
    · rw [if_pos h1, if_pos h1]
      exact Or.inl ⟨0, Nat.succ_pos _, rfl, rfl⟩
    · rw [if_neg h1, if_neg h1]
      by_cases h2 : (kindN σ (π n.op) n).1 ≠ 0
      · rw [if_pos h2, if_pos h2]
        exact Or.inl ⟨0, Nat.succ_pos _, rfl, rfl⟩
      · rw [if_neg h2, if_neg h2]
        have hs := checkN_spec r (kindN σ (π n.op) n).2.2 (updP π n.op (kindN σ (π n.op) n).2.1) (i + 1); rcases checkN_take r (kindN σ (π n.op) n).2.2 (updP π n.op (kindN σ (π n.op) n).2.1) (i + 1) m with ⟨j, h3, h4, h5⟩ | ⟨h3, h4⟩
        · refine Or.inl ⟨j + 1, by omega, ?_, h5⟩
          rw [h4]; congr 1; omega
        · refine Or.inr ⟨fun j hj e => ?_, h4⟩
          rcases hs with hs | ⟨j', _, hs, _⟩
          · rw [hs] at e
            have h6 : (-1 : Int) = ((i + j : Nat) : Int) := e; omega
          · cases j with
            | zero => rw [hs] at e; omega
            | succ j => exact h3 j (by omega) (by rw [e]; congr 1; omega)
theorem begins (l : List Nt) (m : Nat) (_hm : m ≤ l.length) :
    (((checkL l).1 < 0 ∨ (m : Int) ≤ (checkL l).1) → checkL (l.take m) = (-1, 0) ∧ ((checkL l).1 < 0 ↔ (checkL l).2 = 0)) ∧
    (¬ ((checkL l).1 < 0 ∨ (m : Int) ≤ (checkL l).1) → checkL (l.take m) = checkL l ∧ 0 < (checkL l).2) := by
  unfold checkL; have hs := checkN_spec l (fun _ => none) (fun _ => Pn.zero) 0; have ht := checkN_take l (fun _ => none) (fun _ => Pn.zero) 0 m; generalize checkN l (fun _ => none) (fun _ => Pn.zero) 0 = r at *; refine ⟨fun h => ?_, fun h => ?_⟩
  · rcases ht with ⟨j, h1, h2, _⟩ | ⟨_, h2⟩
    · rw [h2] at h; omega
    · refine ⟨h2, ?_⟩
      rcases hs with hs | ⟨j, _, hs, h3⟩
      · rw [hs]; exact ⟨fun _ => rfl, fun _ => by decide⟩
      · rw [hs]; exact ⟨fun h4 => by omega, fun h4 => by omega⟩
  · rcases hs with hs | ⟨j', _, hs, h3⟩
    · rw [hs] at h; exact absurd (Or.inl (by decide)) h
    · refine ⟨?_, h3⟩
      rcases ht with ⟨j, h1, h2, h4⟩ | ⟨h4, _⟩
      · exact h4
      · exact absurd hs (h4 j' (by rw [hs] at h; omega))
end Go.Proofs.YtnnpokndajpkiaaDoor
namespace Go.Proofs.YtnnpokndajpkiaaDoor
open Go.RowKit Go.ChangeShapes Go.WideShapes Go.Deep
section
variable {H : Type} {enc : TypeId × Value → H} {W : World} {base : Nat} {spare : Nat → Bool} {held : Bool} {v : Value} {d : DataW H} {p : List MemPlace}
structure NtArg (W : World) (x : NtE) : Prop where
  wf : NtWf x.1
  row : CellsA W x.2.1 (subCells x.1.p.subs)
set_option maxRecDepth 100000 in
set_option maxHeartbeats 1000000 in
theorem nt_cells {fuel : Nat} {cs : List Value} {y : DataW H × List MemPlace} (h : DataW.trod enc Tryd.prog W base spare held fuel 53 cs = some y) : ∃ x : NtE, cs = ntC x ∧ NtArg W x := by
  obtain ⟨xs, n, _, _, hlen, hxl, hf⟩ := DataW.trod_struct Tryd.underlying53 h; have hl : cs.length = 35 := hlen.trans (by kernel_rfl); have hx2 : xs.length = 9 := hxl.trans (by kernel_rfl); match cs, hl, xs, hx2 with
  | c0 :: c1 :: c2 :: c3 :: c4 :: c5 :: c6 :: c7 :: c8 :: c9 :: c10 :: c11 :: c12 :: c13 :: c14 :: c15 :: c16 :: c17 :: c18 :: c19 :: c20 :: c21 :: c22 :: c23 :: c24 :: c25 :: c26 :: c27 :: c28 :: c29 :: c30 :: c31 :: c32 :: c33 :: c34 :: [], _, [y0, y1, y2, y3, y4, y5, y6, y7, y8], _ =>
    have f0 : DataW.trod enc Tryd.prog W base spare held n 5 (((c0 :: c1 :: c2 :: c3 :: c4 :: c5 :: c6 :: c7 :: c8 :: c9 :: c10 :: c11 :: c12 :: c13 :: c14 :: c15 :: c16 :: c17 :: c18 :: c19 :: c20 :: c21 :: c22 :: c23 :: c24 :: c25 :: c26 :: c27 :: c28 :: c29 :: c30 :: c31 :: c32 :: c33 :: c34 :: [] : List Value).drop 0).take (Tryd.prog.cellsOf 5)) = some y0 := hf 0 _ rfl; have f1 : DataW.trod enc Tryd.prog W base spare held n 3 (((c0 :: c1 :: c2 :: c3 :: c4 :: c5 :: c6 :: c7 :: c8 :: c9 :: c10 :: c11 :: c12 :: c13 :: c14 :: c15 :: c16 :: c17 :: c18 :: c19 :: c20 :: c21 :: c22 :: c23 :: c24 :: c25 :: c26 :: c27 :: c28 :: c29 :: c30 :: c31 :: c32 :: c33 :: c34 :: [] : List Value).drop 1).take (Tryd.prog.cellsOf 3)) = some y1 := hf 1 _ rfl; have f2 : DataW.trod enc Tryd.prog W base spare held n 3 (((c0 :: c1 :: c2 :: c3 :: c4 :: c5 :: c6 :: c7 :: c8 :: c9 :: c10 :: c11 :: c12 :: c13 :: c14 :: c15 :: c16 :: c17 :: c18 :: c19 :: c20 :: c21 :: c22 :: c23 :: c24 :: c25 :: c26 :: c27 :: c28 :: c29 :: c30 :: c31 :: c32 :: c33 :: c34 :: [] : List Value).drop 2).take (Tryd.prog.cellsOf 3)) = some y2 := hf 2 _ rfl; have f3 : DataW.trod enc Tryd.prog W base spare held n 9 (((c0 :: c1 :: c2 :: c3 :: c4 :: c5 :: c6 :: c7 :: c8 :: c9 :: c10 :: c11 :: c12 :: c13 :: c14 :: c15 :: c16 :: c17 :: c18 :: c19 :: c20 :: c21 :: c22 :: c23 :: c24 :: c25 :: c26 :: c27 :: c28 :: c29 :: c30 :: c31 :: c32 :: c33 :: c34 :: [] : List Value).drop 3).take (Tryd.prog.cellsOf 9)) = some y3 := hf 3 _ rfl; have f4 : DataW.trod enc Tryd.prog W base spare held n 40 (((c0 :: c1 :: c2 :: c3 :: c4 :: c5 :: c6 :: c7 :: c8 :: c9 :: c10 :: c11 :: c12 :: c13 :: c14 :: c15 :: c16 :: c17 :: c18 :: c19 :: c20 :: c21 :: c22 :: c23 :: c24 :: c25 :: c26 :: c27 :: c28 :: c29 :: c30 :: c31 :: c32 :: c33 :: c34 :: [] : List Value).drop 4).take (Tryd.prog.cellsOf 40)) = some y4 := hf 4 _ rfl; have f5 : DataW.trod enc Tryd.prog W base spare held n 37 (((c0 :: c1 :: c2 :: c3 :: c4 :: c5 :: c6 :: c7 :: c8 :: c9 :: c10 :: c11 :: c12 :: c13 :: c14 :: c15 :: c16 :: c17 :: c18 :: c19 :: c20 :: c21 :: c22 :: c23 :: c24 :: c25 :: c26 :: c27 :: c28 :: c29 :: c30 :: c31 :: c32 :: c33 :: c34 :: [] : List Value).drop 28).take (Tryd.prog.cellsOf 37)) = some y5 := hf 5 _ rfl; have f6 : DataW.trod enc Tryd.prog W base spare held n 9 (((c0 :: c1 :: c2 :: c3 :: c4 :: c5 :: c6 :: c7 :: c8 :: c9 :: c10 :: c11 :: c12 :: c13 :: c14 :: c15 :: c16 :: c17 :: c18 :: c19 :: c20 :: c21 :: c22 :: c23 :: c24 :: c25 :: c26 :: c27 :: c28 :: c29 :: c30 :: c31 :: c32 :: c33 :: c34 :: [] : List Value).drop 32).take (Tryd.prog.cellsOf 9)) = some y6 := hf 6 _ rfl; have f7 : DataW.trod enc Tryd.prog W base spare held n 4 (((c0 :: c1 :: c2 :: c3 :: c4 :: c5 :: c6 :: c7 :: c8 :: c9 :: c10 :: c11 :: c12 :: c13 :: c14 :: c15 :: c16 :: c17 :: c18 :: c19 :: c20 :: c21 :: c22 :: c23 :: c24 :: c25 :: c26 :: c27 :: c28 :: c29 :: c30 :: c31 :: c32 :: c33 :: c34 :: [] : List Value).drop 33).take (Tryd.prog.cellsOf 4)) = some y7 := hf 7 _ rfl; have f8 : DataW.trod enc Tryd.prog W base spare held n 5 (((c0 :: c1 :: c2 :: c3 :: c4 :: c5 :: c6 :: c7 :: c8 :: c9 :: c10 :: c11 :: c12 :: c13 :: c14 :: c15 :: c16 :: c17 :: c18 :: c19 :: c20 :: c21 :: c22 :: c23 :: c24 :: c25 :: c26 :: c27 :: c28 :: c29 :: c30 :: c31 :: c32 :: c33 :: c34 :: [] : List Value).drop 34).take (Tryd.prog.cellsOf 5)) = some y8 := hf 8 _ rfl; rw [show Tryd.prog.cellsOf 5 = 1 by kernel_rfl] at f0 f8; rw [show Tryd.prog.cellsOf 3 = 1 by kernel_rfl] at f1 f2; rw [show Tryd.prog.cellsOf 9 = 1 by kernel_rfl] at f3 f6; rw [show Tryd.prog.cellsOf 40 = 24 by kernel_rfl] at f4; rw [show Tryd.prog.cellsOf 37 = 4 by kernel_rfl] at f5; rw [show Tryd.prog.cellsOf 4 = 1 by kernel_rfl] at f7; obtain ⟨i0, e0, _, g0⟩ := DataW.trod_int Tryd.underlying5 f0; obtain ⟨s0, rfl, b0⟩ := nat_of_u8 g0; obtain ⟨s1, e1, _, _⟩ := DataW.trod_int Tryd.underlying3 f1; obtain ⟨s2, e2, _, _⟩ := DataW.trod_int Tryd.underlying3 f2; obtain ⟨s3, e3, _, _⟩ := DataW.trod_string Tryd.underlying9 f3; obtain ⟨q, a, c, e4, hq⟩ := pk_cells f4; obtain ⟨mt, mp, mq, mr, e5, b5⟩ := msg_cells f5; obtain ⟨s6, e6, _, _⟩ := DataW.trod_string Tryd.underlying9 f6; obtain ⟨s7, e7, _⟩ := DataW.trod_bool Tryd.underlying4 f7; obtain ⟨i8, e8, _, g8⟩ := DataW.trod_int Tryd.underlying5 f8; obtain ⟨s8, rfl, b8⟩ := nat_of_u8 g8; unfold pkV at e4; simp only [List.drop_zero, List.drop_succ_cons, List.take_succ_cons, List.take_zero, List.cons.injEq, and_true] at e0 e1 e2 e3 e4 e5 e6 e7 e8; obtain ⟨p0, p1, p2, p3, p4, p5, p6, p7, p8, p9, p10, p11, p12, p13, p14, p15, p16, p17, p18, p19, p20, p21, p22, p23⟩ := e4; obtain ⟨w0, w1, w2, w3⟩ := e5; refine ⟨(⟨s0, s1, s2, s3, q, ⟨mt, mp, mq, mr⟩, s6, s7, s8⟩, a, c), ?_, ⟨⟨b0, b8, b5, hq.ty.ty, hq.ty.qos, hq.ty.id, hq.ty.level, hq.ty.keep, hq.ty.wqos, hq.ty.code, hq.ty.each⟩, hq.row⟩⟩; rw [e0, e1, e2, e3, p0, p1, p2, p3, p4, p5, p6, p7, p8, p9, p10, p11, p12, p13, p14, p15, p16, p17, p18, p19, p20, p21, p22, p23, w0, w1, w2, w3, e6, e7, e8]; rfl
set_option maxRecDepth 100000 in
theorem open_notes (h : DataW.Trod enc Tryd.prog W base spare held 22 v d p) (hv : ∃ a l c, v = .slice a l c) :
    ∃ (a : Option Addr) (c : Nat) (T : List NtE), v = .slice a T.length c ∧ (a = none → c = 0) ∧ T.length ≤ c ∧ T.length ≤ 9223372036854775807 ∧ CellsA W a (ntCells T) ∧ ∀ x ∈ T, NtArg W x := by
  obtain ⟨a0, l0, c0, rfl⟩ := hv; obtain ⟨fuel, hf⟩ := h; obtain ⟨a, c, L, hcs, h0, h1, h2, h3, h4⟩ := open_rows (g := ntC) (m := 35) ntC_len (fun x => NtArg W x) Tryd.underlying22 (by kernel_rfl) (fun fuel cs y hy => nt_cells hy) hf; simp [Value.cells] at hcs
  obtain ⟨rfl, rfl, rfl⟩ := hcs; unfold maxLen at h2; exact ⟨_, _, L, rfl, h0, h1, by omega, h3, h4⟩
end
end Go.Proofs.YtnnpokndajpkiaaDoor
namespace Go.Proofs.YtnnpokndajpkiaaDoor
open Go.RowKit
theorem NtGood.below {w w' : World} {n : Nt} {a : Option Addr} (h : NtGood w n a) (k : Below w.heap.size w w') : NtGood w' n a :=
  ⟨⟨h.ok.row.below k, h.ok.small, h.ok.few, h.ok.qos, h.ok.topic⟩, h.pk, h.ms⟩
theorem goods {w : World} {T : List NtE} (ha : ∀ x ∈ T, NtArg w x) (hg : greatNs (T.map (·.1)) = false) : (∀ x ∈ T, NtGood w x.1 x.2.1) ∧ T.length ≤ 200 := by
  unfold greatNs at hg; rw [Bool.or_eq_false_iff] at hg; obtain ⟨h1, h2⟩ := hg; refine ⟨fun x hx => ?_, by have := of_decide_eq_false h2; rw [List.length_map] at this; omega⟩; have h3 := List.any_eq_false.1 h1 x.1 (List.mem_map_of_mem hx); exact great1_good (ha x hx).wf (by simpa using h3) (ha x hx).row
theorem check_at {w w' : World} {T : List NtE} {a : Option Addr} {c m : Nat} {l : List Nt} (hE : Env w') (hb : Below w.heap.size w w') (hc : CellsA w' a (ntCells T)) (hg : ∀ x ∈ T, NtGood w x.1 x.2.1) (hlen : T.length ≤ 1000000) (hm : T.length = m) (hl : T.map (·.1) = l) : Calls Tryd.prog 7 #[.slice a m c] w' fun e w2 => e = .returned (.tuple #[.int .i64 (checkL l).1, .int .u8 ((checkL l).2 : Int)]) ∧ Below w'.heap.size w' w2 := by
  subst hm hl; exact order_Check hE T a c hc (fun x hx => (hg x hx).below hb) hlen
end Go.Proofs.YtnnpokndajpkiaaDoor
namespace Go.Proofs.YtnnpokndajpkiaaDoor
theorem checkN_cons_ok {n : Nt} {r : List Nt} {σ : Sess} {π : Int → Pn} {i : Nat} (h : checkN (n :: r) σ π i = (-1, 0)) : ¬ (n.kind < 1 ∨ 8 < n.kind) ∧ (kindN σ (π n.op) n).1 = 0 ∧ checkN r (kindN σ (π n.op) n).2.2 (updP π n.op (kindN σ (π n.op) n).2.1) (i + 1) = (-1, 0) := by
  unfold checkN at h; split at h
  · have h1 := congrArg Prod.fst h
    simp only at h1
    omega
  · rename_i h0
    split at h
    · have h1 := congrArg Prod.fst h
      simp only at h1
      omega
    · rename_i h2
      exact ⟨h0, by omega, h⟩
theorem checkN_ok_cons {n : Nt} {r : List Nt} {σ : Sess} {π : Int → Pn} {i : Nat} (h0 : ¬ (n.kind < 1 ∨ 8 < n.kind)) (h1 : (kindN σ (π n.op) n).1 = 0) : checkN (n :: r) σ π i = checkN r (kindN σ (π n.op) n).2.2 (updP π n.op (kindN σ (π n.op) n).2.1) (i + 1) := by
  rw [checkN, if_neg h0, if_neg (fun h => h h1)]
theorem updP_at (π : Int → Pn) (i : Int) (y : Pn) : updP π i y i = y := if_pos rfl
theorem updP_ne (π : Int → Pn) {i j : Int} (y : Pn) (h : j ≠ i) : updP π i y j = π j := if_neg h
theorem reason_zero {a b : Bool} (h : reasonN a b = 0) : a = true ∧ b = true := by
  cases a <;> cases b <;> simp [reasonN] at h ⊢
theorem zero_two {σ : Sess} {n : Nt} (h0 : ¬ (n.kind < 1 ∨ 8 < n.kind)) (h1 : n.kind ≠ 1) : (kindN σ Pn.zero n).1 = 2 := by
  have h : n.kind = 2 ∨ n.kind = 3 ∨ n.kind = 4 ∨ n.kind = 5 ∨ n.kind = 6 ∨ n.kind = 7 ∨ n.kind = 8 := by omega
  unfold kindN; rcases h with h | h | h | h | h | h | h <;> rw [h] <;> rfl
def opAt (o : Int) (l : List Nt) : Option Nat := l.findIdx? (fun n => decide (n.op = o))
theorem without {o : Int} : ∀ (r : List Nt) (σ : Sess) (π π' : Int → Pn) (i i' : Nat), checkN r σ π i = (-1, 0) → (π o).asks.isSome = true → π' o = Pn.zero → (∀ j, j ≠ o → π' j = π j) → checkN r σ π' i' = (match opAt o r with | none => (-1, 0) | some k => (((i' + k : Nat) : Int), 2))
  | [], σ, π, π', i, i', _, _, _, _ => rfl
  | n :: r, σ, π, π', i, i', h, ha, hz, he => by
    obtain ⟨h0, h1, h2⟩ := checkN_cons_ok h; by_cases ho : n.op = o
    · have hf : opAt o (n :: r) = some 0 := by
        unfold opAt; rw [List.findIdx?_cons, if_pos (decide_eq_true ho)]
      rw [hf]; have hk : n.kind ≠ 1 := by
        intro hk; rw [ho] at h1; unfold kindN at h1; rw [if_pos hk] at h1; have h3 := (reason_zero h1).1; unfold freshN at h3; have h4 : (π o).asks.isNone = true := by
          cases hq : (π o).asks.isNone
          · rw [hq] at h3; simp at h3
          · rfl
        cases hq : (π o).asks
        · rw [hq] at ha; cases ha
        · rw [hq] at h4; cases h4
      rw [checkN, if_neg h0, ho, hz, zero_two h0 hk, if_pos (by decide)]; rfl
    · have hf : opAt o (n :: r) = (opAt o r).map (· + 1) := by
        unfold opAt; rw [List.findIdx?_cons, if_neg (by rw [decide_eq_false ho]; decide)]
      have hp : π' n.op = π n.op := he _ ho; have h1' : (kindN σ (π' n.op) n).1 = 0 := by rw [hp]; exact h1
      rw [checkN_ok_cons h0 h1', hp]; rw [without r _ _ _ (i + 1) (i' + 1) h2 (by rw [updP_ne _ _ (fun e => ho e.symm)]; exact ha) (by rw [updP_ne _ _ (fun e => ho e.symm)]; exact hz) (fun j hj => by unfold updP; split <;> first | rfl | exact he j hj)]; rw [hf]; cases opAt o r with
      | none => rfl
      | some k => simp only [Option.map_some]; congr 2; omega
end Go.Proofs.YtnnpokndajpkiaaDoor
