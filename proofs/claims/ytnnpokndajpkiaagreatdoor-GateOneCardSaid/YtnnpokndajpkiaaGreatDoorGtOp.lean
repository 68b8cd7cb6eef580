import Derived.Test.YtnnpokndajpkiaaGreatDoorGtSn
namespace Go.Proofs.YtnnpokndajpkiaaGreatDoor
structure OneOk (was is sent : Nat) (S S' : ByteArray) (c : Int) (q : Ac) (ml : List Ml) (nt : List Nt) : Prop where
  shut : was = 6 → is = 6 ∧ S' = S ∧ nt = []
  ask : ∀ x ∈ ml, x.k = 1 ∨ x.k = 2 → q.d = 3 ∧ x.cn = c ∧ (was = 1 ∨ was = 3) ∧ is ≠ 3 ∧ ml.length = 1 ∧ x.lane = 1
  other : ∀ x ∈ ml, ¬ (x.k = 1 ∨ x.k = 2) → x.k = 4 ∧ q.d = 4 ∧ x.lane = 3
  done : was = 2 ∨ was = 4 → is = 3 → q.d = 4 ∧ q.it.k = 14
  leave : was = 5 → is ≠ 3
  fresh : is = 1 → was = 1 ∨ was = 0
theorem st_mod {f : Cn → Cn} (hf : ∀ c, (f c).num = c.num) (G : List Cn) (n : Int) : stG (modG f G n) n = match getG G n with
    | none => 0
    | some c => (f c).st := by
  unfold stG; rw [getG_modG hf, if_pos rfl]; cases getG G n <;> rfl
theorem sent_mod {f : Cn → Cn} (hf : ∀ c, (f c).num = c.num) (G : List Cn) (n : Int) : sentG (modG f G n) n = match getG G n with
    | none => ⟨#[]⟩
    | some c => (f c).sent := by
  unfold sentG; rw [getG_modG hf, if_pos rfl]; cases getG G n <;> rfl
theorem one_mod {f : Cn → Cn} (hf : ∀ c, (f c).num = c.num) {G : List Cn} {n : Int} {q : Ac} (hs : ∀ c, getG G n = some c → (c.st = 6 → (f c).st = 6 ∧ (f c).sent = c.sent) ∧ (c.st = 2 ∨ c.st = 4 → (f c).st = 3 → q.d = 4 ∧ q.it.k = 14) ∧ (c.st = 5 → (f c).st ≠ 3) ∧ ((f c).st = 1 → c.st = 1)) : OneOk (stG G n) (stG (modG f G n) n) 0 (sentG G n) (sentG (modG f G n) n) n q [] [] := by
  rw [st_mod hf, sent_mod hf]; unfold stG sentG; cases hg : getG G n with
  | none => exact ⟨fun h => (by cases h), fun x hx => (by cases hx), fun x hx => (by cases hx), fun h => (by rcases h with h | h <;> cases h), fun h => (by cases h), fun h => (by cases h)⟩
  | some c =>
    obtain ⟨h1, h2, h3, h4⟩ := hs c hg; exact ⟨fun h => ⟨(h1 h).1, (h1 h).2, rfl⟩, fun x hx => (by cases hx), fun x hx => (by cases hx), h2, h3, fun h => Or.inl (h4 h)⟩
structure RdOne (c : Cn) (r : Rdo) : Prop where
  ml : ∀ x ∈ r.2.1, (x.k = 1 ∨ x.k = 2) ∧ x.cn = c.num ∧ x.lane = 1 ∧ r.2.1.length = 1 ∧ r.1.st ≠ 3
  st : r.1.st = 1 → c.st = 1
theorem rdn_none {c c' : Cn} {nt : List Nt} {b : Bool} (h : c'.st = 1 → c.st = 1) : RdOne c (c', [], nt, b) := ⟨fun x hx => (by cases hx), h⟩
theorem rd_ask {c c' d : Cn} {W k : Nat} {op : Int} {p : Pk} {nt : List Nt} {b : Bool} (hk : k = 1 ∨ k = 2) (hn : d.num = c.num) (h1 : c'.st ≠ 1) (h3 : c'.st ≠ 3) : RdOne c (c', [askM W k op d p], nt, b) := ⟨fun x hx => by
  rw [List.mem_singleton] at hx; subst hx; exact ⟨hk, hn, rfl, rfl, h3⟩, fun h => (h1 h).elim⟩
theorem read_st (m W : Nat) (c : Cn) (now ops : Int) (h : c.st ≠ 1 ∧ c.st ≠ 3) : readC m W c now ops = (c, [], [], false) := by
  unfold readC; rw [if_pos]; unfold mayR; rw [decide_eq_false h.1, decide_eq_false h.2]; simp
theorem read_one (m W : Nat) (c : Cn) (now ops : Int) : RdOne c (readC m W c now ops) := by
  have hcut : RdOne c (cutR W (nextC m c) ops) := by
    unfold cutR; split
    · exact rd_ask (Or.inr rfl) rfl (show 6 ≠ 1 by decide) (show 6 ≠ 3 by decide)
    · exact rdn_none (fun h => absurd h (show 6 ≠ 1 by decide))
  unfold readC; split
  · exact rdn_none (fun h => h)
  split
  · exact hcut
  split
  · split
    · rename_i h3
      unfold liveR; split
      · exact rdn_none (fun h => h)
      split
      · exact rd_ask (Or.inl rfl) rfl (show 5 ≠ 1 by decide) (show 5 ≠ 3 by decide)
      split
      · exact rd_ask (Or.inl rfl) rfl (show 4 ≠ 1 by decide) (show 4 ≠ 3 by decide)
      split
      · exact rd_ask (Or.inl rfl) rfl (show 4 ≠ 1 by decide) (show 4 ≠ 3 by decide)
      · exact rd_ask (Or.inr rfl) rfl (show 6 ≠ 1 by decide) (show 6 ≠ 3 by decide)
    · unfold freshR
      split
      · exact rd_ask (Or.inl rfl) rfl (show 2 ≠ 1 by decide) (show 2 ≠ 3 by decide)
      · refine rdn_none (fun h => ?_)
        exfalso
        unfold freshN at h; split at h
        · exact absurd h (show 6 ≠ 1 by decide)
        split at h
        · exact absurd h (show 6 ≠ 1 by decide)
        · exact absurd h (show 6 ≠ 1 by decide)
  split
  · exact hcut
  · exact rdn_none (fun h => h)
def atC (q : Ac) : Int := if q.d = 4 then q.it.cn else q.cn
theorem one_same (G : List Cn) (n : Int) (q : Ac) : OneOk (stG G n) (stG G n) 0 (sentG G n) (sentG G n) n q [] [] :=
  ⟨fun h => ⟨h, rfl, rfl⟩, fun x hx => (by cases hx), fun x hx => (by cases hx), fun h h2 => (by omega), fun h => (by omega), fun h => Or.inl h⟩
theorem act_one (W u m : Nat) (G : List Cn) (ops : Int) (q : Ac) : OneOk (stG G (atC q)) (stG (actS W u m G ops q).1 (atC q)) 0 (sentG G (atC q)) (sentG (actS W u m G ops q).1 (atC q)) (atC q) q (actS W u m G ops q).2.1 (actS W u m G ops q).2.2 := by
  unfold actS atC; by_cases h0 : q.d = 0
  · rw [if_pos h0, if_neg (by omega)]
    show OneOk _ (stG (if _ then _ else _) _) 0 _ (sentG (if _ then _ else _) _) _ _ [] []; split
    · rename_i hm
      have hn : getG G q.cn = none := by
        unfold mayO at hm; cases hg : getG G q.cn with
        | none => rfl
        | some c => rw [hg] at hm; simp at hm
      unfold stG sentG; rw [getG_snoc, hn]; exact ⟨fun h => (by cases h), fun x hx => (by cases hx), fun x hx => (by cases hx), fun h => (by rcases h with h | h <;> cases h), fun h => (by cases h), fun _ => Or.inr rfl⟩
    · exact one_same G q.cn q
  rw [if_neg h0]; by_cases h1 : q.d = 1
  · rw [if_pos h1, if_neg (by omega)]
    exact one_mod (fed_num _) (fun c _ => by
      have e1 : (fedC q.bs c).st = c.st := by unfold fedC; split <;> rfl
      have e2 : (fedC q.bs c).sent = c.sent := by unfold fedC; split <;> rfl
      rw [e1, e2]; exact ⟨fun h => ⟨h, rfl⟩, fun h h2 => (by omega), fun h => (by omega), fun h => h⟩)
  rw [if_neg h1]; by_cases h2 : q.d = 2
  · rw [if_pos h2, if_neg (by omega)]
    exact one_mod (f := fun c => { c with hung := true }) (fun _ => rfl) (fun c _ => ⟨fun h => ⟨h, rfl⟩, fun h h2 => (by have h2 : c.st = 3 := h2; omega), fun h => (by show c.st ≠ 3; omega), fun h => h⟩)
  rw [if_neg h2]; by_cases h3 : q.d = 3
  · rw [if_pos h3, if_neg (by omega)]
    show OneOk _ (stG (modG (fun c => (readC m W c q.now ops).1) G q.cn) q.cn) 0 _ (sentG (modG (fun c => (readC m W c q.now ops).1) G q.cn) q.cn) q.cn q (readX m W G q.cn q.now ops).1 (readX m W G q.cn q.now ops).2.1; rw [st_mod (f := fun c => (readC m W c q.now ops).1) (fun c => read_num m W c q.now ops), sent_mod (f := fun c => (readC m W c q.now ops).1) (fun c => read_num m W c q.now ops)]; unfold stG sentG readX; cases hg : getG G q.cn with
    | none => exact ⟨fun h => (by cases h), fun x hx => (by cases hx), fun x hx => (by cases hx), fun h => (by rcases h with h | h <;> cases h), fun h => (by cases h), fun h => (by cases h)⟩
    | some c =>
      have hc := (getG_mem hg).2; have hr := read_one m W c q.now ops; show OneOk c.st (readC m W c q.now ops).1.st 0 c.sent (readC m W c q.now ops).1.sent q.cn q (readC m W c q.now ops).2.1 (readC m W c q.now ops).2.2.1; by_cases hs : c.st ≠ 1 ∧ c.st ≠ 3
      · rw [read_st m W c q.now ops hs]
        exact ⟨fun h => ⟨h, rfl, rfl⟩, fun x hx => (by cases hx), fun x hx => (by cases hx), fun h h2 => (by have h2 : c.st = 3 := h2; omega), fun h => (by show c.st ≠ 3; omega), fun h => Or.inl h⟩
      · exact ⟨fun h => (by omega), fun x hx _ => by
          obtain ⟨_, b1, b2, b3, b4⟩ := hr.ml x hx; exact ⟨h3, b1.trans hc, by omega, b4, b3, b2⟩, fun x hx h => (h (hr.ml x hx).1).elim, fun h => (by omega), fun h => (by omega), fun h => Or.inl (hr.st h)⟩
  rw [if_neg h3]; by_cases h4 : q.d = 4
  · rw [if_pos h4, if_pos h4]
    show OneOk _ (stG (hear1 G q.it) q.it.cn) 0 _ (sentG (hear1 G q.it) q.it.cn) q.it.cn q (hearM1 W G q.it ++ []) []; rw [List.append_nil]; unfold hear1 hearM1; by_cases hk : q.it.k = 3
    · rw [if_pos hk, if_pos hk]
      have h5 := one_mod (f := shutC) (G := G) (n := q.it.cn) (q := q) (fun _ => rfl) (fun c _ => ⟨fun h => ⟨rfl, rfl⟩, fun h h2 => absurd h2 (show 6 ≠ 3 by decide), fun h => (show 6 ≠ 3 by decide), fun h => absurd h (show 6 ≠ 1 by decide)⟩); exact ⟨h5.shut, fun x hx h => by
        rw [List.mem_singleton] at hx; subst hx; exact absurd h (show ¬ (4 = 1 ∨ 4 = 2) by decide), fun x hx _ => by
        rw [List.mem_singleton] at hx; subst hx; exact ⟨rfl, h4, rfl⟩, h5.done, h5.leave, h5.fresh⟩
    · rw [if_neg hk, if_neg hk]
      refine one_mod (f := hearC q.it.k (pksI q.it)) (fun c => hearC_num _ _ c) (fun c _ => ?_); unfold hearC; split
      · rename_i h
        exact ⟨fun h6 => absurd h6 h.2, fun _ h2 => (by have h2 : c.st = 3 := h2; omega), fun _ => (by show c.st ≠ 3; omega), fun h2 => h2⟩
      split
      · rename_i h
        exact ⟨fun h6 => (by omega), fun _ _ => ⟨h4, h.1⟩, fun _ => (by omega), fun h2 => absurd h2 (show 3 ≠ 1 by decide)⟩
      split
      · exact ⟨fun h6 => ⟨rfl, rfl⟩, fun _ h2 => absurd h2 (show 6 ≠ 3 by decide), fun _ => (show 6 ≠ 3 by decide), fun h2 => absurd h2 (show 6 ≠ 1 by decide)⟩
      · exact ⟨fun h6 => ⟨h6, rfl⟩, fun _ h2 => (by omega), fun _ => (by omega), fun h2 => h2⟩
  · rw [if_neg h4, if_neg h4]
    exact one_same G q.cn q
end Go.Proofs.YtnnpokndajpkiaaGreatDoor
