import Derived.Test.YtnnpokndajpkiaaDoorJoinV
import Derived.Test.YtnnpokndajpkiaaDoorJoinS
namespace Go.Proofs.YtnnpokndajpkiaaDoor
def findN (kd : Nat) (op : Int) (l : List Nt) : Option Nt := l.find? (isN kd op)
def pastN (l : List Nt) (o : Int) : Pn := ⟨findN 1 o l, findN 2 o l, findN 4 o l, findN 5 o l, findN 3 o l⟩
def rowP (y : Pn) (n : Nt) : Bool :=
  if n.kind = 1 then decide (0 < n.op) && (y.asks.isNone && (y.does.isNone && (y.tells.isNone && (y.routes.isNone && y.keeps.isNone))))
  else if n.kind = 2 ∨ n.kind = 4 then y.asks.isSome && (y.does.isNone && (y.routes.isNone && y.tells.isNone))
  else if n.kind = 3 then y.asks.isSome && (y.tells.isNone && (y.does.isSome || decide ((y.asks.getD Nt.zero).p.ty = 3)))
  else if n.kind = 5 then y.routes.isSome && (y.keeps.isNone && y.tells.isNone)
  else if n.kind = 6 then y.routes.isSome && y.tells.isNone
  else if n.kind = 8 then y.does.isSome && y.tells.isNone
  else (y.routes.isSome || y.does.isSome) && y.tells.isNone
def pubR (a n : Nt) : Bool := decide (a.p.ty = 3) && (decide (n.msg.topic = a.p.topic) && (decide (n.msg.payload = a.p.payload) && (decide (n.msg.qos = a.p.qos) && decide (n.msg.ret = a.p.ret))))
def sameP (y : Pn) (n : Nt) : Bool :=
  if n.kind = 1 then true
  else if n.kind = 2 then byP (y.asks.getD Nt.zero) n && decide ((y.asks.getD Nt.zero).p = n.p)
  else if n.kind = 3 then byP (y.asks.getD Nt.zero) n && (decide (n.codes = (y.does.getD Nt.zero).codes) && decide (n.present = (y.does.getD Nt.zero).present))
  else if n.kind = 4 then byP (y.asks.getD Nt.zero) n && pubR (y.asks.getD Nt.zero) n
  else if n.kind = 5 then decide (n.client = (y.routes.getD Nt.zero).client) && (decide (n.msg = (y.routes.getD Nt.zero).msg) && decide (n.msg.ret = true))
  else if n.kind = 6 then queuedP n (y.routes.getD Nt.zero).msg
  else if n.kind = 8 then keptP n (y.does.getD Nt.zero)
  else if y.routes.isSome then queuedP n (y.routes.getD Nt.zero).msg
  else keptP n (y.does.getD Nt.zero)
theorem pubR_eq (a n : Nt) : pubR a n = publishedP a.p n.msg := by
  unfold pubR publishedP; congr 1; rw [Bool.eq_iff_iff]; simp only [Bool.and_eq_true, decide_eq_true_eq]; constructor
  · rintro ⟨h1, h2, h3, h4⟩
    generalize n.msg = x at *; cases x; simp only at h1 h2 h3 h4
    rw [h1, h2, h3, h4]
  · intro h
    rw [h]; exact ⟨rfl, rfl, rfl, rfl⟩
theorem kind_ref {σ : Sess} {y : Pn} {n : Nt} (h0 : ¬ (n.kind < 1 ∨ 8 < n.kind)) : (kindN σ y n).1 = if rowP y n = true then (if sameP y n = true then (if n.kind = 2 ∨ n.kind = 5 then appliedN (applyS σ n).1 n else 0) else 3) else 2 := by
  have hk : n.kind = 1 ∨ n.kind = 2 ∨ n.kind = 3 ∨ n.kind = 4 ∨ n.kind = 5 ∨ n.kind = 6 ∨ n.kind = 7 ∨ n.kind = 8 := by omega
  obtain ⟨a, d, r, k, t⟩ := y; unfold kindN rowP sameP; rcases hk with h | h | h | h | h | h | h | h
  · simp only [h]
    unfold asksN freshN reasonN; cases a <;> cases d <;> cases r <;> cases k <;> cases t <;> simp
  · simp only [h]
    unfold doesN doneN sameD; cases a <;> cases d <;> cases r <;> cases t <;> simp
    try (split <;> simp_all)
  · simp only [h]
    unfold tellsN reasonN sameT; cases a <;> cases d <;> cases t <;> simp [Nt.zero]
    try (split <;> simp_all)
  · simp only [h]
    unfold routesN doneN reasonN sameR; simp only [pubR_eq]; cases a <;> cases d <;> cases r <;> cases t <;> simp
  · simp only [h]
    unfold keepsN sameK; cases r <;> cases k <;> cases t <;> simp
    try (split <;> simp_all)
  · simp only [h]
    unfold putsN reasonN; cases r <;> cases t <;> simp
  · simp only [h]
    unfold dropsN putsN savedN reasonN; cases r <;> cases d <;> cases t <;> simp
  · simp only [h]
    unfold savedN reasonN; cases d <;> cases t <;> simp
theorem find_snoc (kd : Nat) (o : Int) (l : List Nt) (n : Nt) : findN kd o (l ++ [n]) = (findN kd o l).or (if isN kd o n = true then some n else none) := by
  unfold findN; rw [List.find?_append]; congr 1; rw [List.find?_cons]; split <;> simp_all
theorem isN_neg {kd : Nat} {o : Int} {n : Nt} (h : n.kind ≠ kd ∨ n.op ≠ o) : isN kd o n = false := by
  unfold isN; rcases h with h | h
  · rw [decide_eq_false h]; rfl
  · rw [decide_eq_false h, Bool.and_false]
theorem isN_pos {kd : Nat} {o : Int} {n : Nt} (h : n.kind = kd) (h2 : n.op = o) : isN kd o n = true := by
  unfold isN; rw [decide_eq_true h, decide_eq_true h2]; rfl
theorem past_ne {l : List Nt} {n : Nt} {o : Int} (h : n.op ≠ o) : pastN (l ++ [n]) o = pastN l o := by
  unfold pastN; simp only [find_snoc, isN_neg (Or.inr h), Bool.false_eq_true, if_false, Option.or_none]
theorem past_snoc {σ : Sess} {l : List Nt} {n : Nt} (h0 : ¬ (n.kind < 1 ∨ 8 < n.kind)) (h : (kindN σ (pastN l n.op) n).1 = 0) : (kindN σ (pastN l n.op) n).2.1 = pastN (l ++ [n]) n.op := by
  rw [kind_ref h0] at h; have hr : rowP (pastN l n.op) n = true := by
    cases hb : rowP (pastN l n.op) n
    · rw [hb] at h; simp at h
    · rfl
  have hk : n.kind = 1 ∨ n.kind = 2 ∨ n.kind = 3 ∨ n.kind = 4 ∨ n.kind = 5 ∨ n.kind = 6 ∨ n.kind = 7 ∨ n.kind = 8 := by omega
  have hy : pastN (l ++ [n]) n.op = ⟨(pastN l n.op).asks.or (if n.kind = 1 then some n else none), (pastN l n.op).does.or (if n.kind = 2 then some n else none), (pastN l n.op).routes.or (if n.kind = 4 then some n else none), (pastN l n.op).keeps.or (if n.kind = 5 then some n else none), (pastN l n.op).tells.or (if n.kind = 3 then some n else none)⟩ := by
    have e : ∀ kd, (if isN kd n.op n = true then some n else none) = (if n.kind = kd then some n else none) := by
      intro kd; by_cases h : n.kind = kd
      · rw [if_pos h, if_pos (isN_pos h rfl)]
      · rw [if_neg h, if_neg (by rw [isN_neg (Or.inl h)]; decide)]
    unfold pastN; simp only [find_snoc, e]
  rw [hy]; generalize pastN l n.op = y at hr ⊢; obtain ⟨a, d, r, k, t⟩ := y; unfold rowP at hr; unfold kindN; rcases hk with h | h | h | h | h | h | h | h
  · simp only [h] at hr ⊢
    cases a <;> simp_all
  · simp only [h] at hr ⊢
    cases d <;> simp_all
    split <;> rfl
  · simp only [h] at hr ⊢
    cases t <;> simp_all
  · simp only [h] at hr ⊢
    cases r <;> simp_all
  · simp only [h] at hr ⊢
    cases k <;> simp_all
    split <;> rfl
  · simp only [h] at hr ⊢
    simp
  · simp only [h] at hr ⊢
    simp
  · simp only [h] at hr ⊢
    simp
def refN (σ : Sess) (l : List Nt) (n : Nt) : Nat := if rowP (pastN l n.op) n = true then (if sameP (pastN l n.op) n = true then (if n.kind = 2 ∨ n.kind = 5 then appliedN (applyS σ n).1 n else 0) else 3) else 2
def sessN (σ : Sess) (n : Nt) : Sess := if n.kind = 2 ∨ n.kind = 5 then (applyS σ n).2 else σ
def refL : List Nt → List Nt → Sess → Int × Nat
  | _, [], _ => (-1, 0)
  | l, n :: r, σ => if n.kind < 1 ∨ 8 < n.kind then ((l.length : Int), 1) else if refN σ l n ≠ 0 then ((l.length : Int), refN σ l n) else refL (l ++ [n]) r (sessN σ n)
theorem kind_sess {σ : Sess} {y : Pn} {n : Nt} (h0 : ¬ (n.kind < 1 ∨ 8 < n.kind)) (h : (kindN σ y n).1 = 0) : (kindN σ y n).2.2 = sessN σ n := by
  have hk : n.kind = 1 ∨ n.kind = 2 ∨ n.kind = 3 ∨ n.kind = 4 ∨ n.kind = 5 ∨ n.kind = 6 ∨ n.kind = 7 ∨ n.kind = 8 := by omega
  unfold kindN at h ⊢; unfold sessN; rcases hk with e | e | e | e | e | e | e | e
  · simp [e]
  · simp only [e] at h ⊢
    simp at h ⊢
    try (split <;> simp_all)
  · simp [e]
  · simp [e]
  · simp only [e] at h ⊢
    simp at h ⊢
    try (split <;> simp_all)
  · simp [e]
  · simp [e]
  · simp [e]
theorem ref_is : ∀ (r l : List Nt) (σ : Sess) (π : Int → Pn), (∀ o, π o = pastN l o) → checkN r σ π l.length = refL l r σ
  | [], _, _, _, _ => rfl
  | n :: r, l, σ, π, hp => by
    rw [checkN, refL]; by_cases h0 : n.kind < 1 ∨ 8 < n.kind
    · rw [if_pos h0, if_pos h0]
    · rw [if_neg h0, if_neg h0]
      have e : (kindN σ (π n.op) n).1 = refN σ l n := by rw [hp, kind_ref h0]; rfl
      by_cases h1 : refN σ l n ≠ 0
      · rw [if_pos (by rw [e]; exact h1), if_pos h1, e]
      · rw [if_neg (by rw [e]; exact h1), if_neg h1]
        have h2 : (kindN σ (π n.op) n).1 = 0 := by rw [e]; omega
        rw [kind_sess h0 h2]; have hl : l.length + 1 = (l ++ [n]).length := by simp
        rw [hl]; refine ref_is r (l ++ [n]) _ _ (fun o => ?_); by_cases ho : o = n.op
        · rw [ho, updP_at, hp]
          exact past_snoc h0 (by rw [← hp]; exact h2)
        · rw [updP_ne _ _ ho, hp, past_ne (fun e => ho e.symm)]
theorem check_is (l : List Nt) : checkL l = refL [] l (fun _ => none) := ref_is l [] _ _ (fun _ => rfl)
end Go.Proofs.YtnnpokndajpkiaaDoor
