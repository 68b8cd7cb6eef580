import Derived.Test.YtnnpokndajpkiaaDoorJoinZA
import Derived.Test.YtnnpokndajpkiaaDoorRefOnly
import Derived.Test.YtnnpokndajpkiaaDoorShort
import Derived.Test.YtnnpokndajpkiaaDoorJoinZI
import Derived.Test.YtnnpokndajpkiaaDoorRefPacketSame
namespace Go.Proofs.YtnnpokndajpkiaaDoor
open Go.RowKit
attribute [local irreducible] Ok
def bitsOf (t : Nat) : Bits := ⟨decide (t = 3), decide (t = 3), decide (t = 1), decide (t = 2), decide (t = 3), decide (3 ≤ t ∧ t ≤ 11), decide (t = 3), decide (t = 3), decide (t = 1), decide (t = 2), decide (t = 8 ∨ t = 10), decide (t = 9)⟩
theorem ty_cases {t : Nat} (h : 1 ≤ t ∧ t ≤ 14) : t = 1 ∨ t = 2 ∨ t = 3 ∨ t = 4 ∨ t = 5 ∨ t = 6 ∨ t = 7 ∨ t = 8 ∨ t = 9 ∨ t = 10 ∨ t = 11 ∨ t = 12 ∨ t = 13 ∨ t = 14 := by omega
theorem bits_only (p : Pk) (h : 1 ≤ p.ty ∧ p.ty ≤ 14) : only9 p (bitsOf p.ty) = onlyS p := by
  obtain ⟨ty, dup, qos, ret, id, topic, payload, level, clean, keep, client, hasWill, wtopic, wpayload, wqos, wret, hasUser, hasPass, user, pass, present, code, subs, codes⟩ := p; simp only at h
  rcases ty_cases h with rfl | rfl | rfl | rfl | rfl | rfl | rfl | rfl | rfl | rfl | rfl | rfl | rfl | rfl
  all_goals simp [only9, only8, only7, only6, only5, only4, only3, only2, only1, bitsOf, onlyS, onlyF, Pk.zero]
theorem ref03_Only (p : Pk) (a : Option Addr) (c : Nat) (w : World) (hE : Env w) (hp : PkOk p) (h : 1 ≤ p.ty ∧ p.ty ≤ 14) :
    Calls Tryd.prog 86 #[.agg (pkV p a c)] w fun e w' => e = .returned (.agg (pkV (onlyS p) (if p.ty = 8 ∨ p.ty = 10 then a else none) (if p.ty = 8 ∨ p.ty = 10 then c else 0))) ∧ Below w.heap.size w w' := by
  have hz : (fieldsB p.ty).size ≤ 300000000 := by
    rcases ty_cases h with e | e | e | e | e | e | e | e | e | e | e | e | e | e <;> rw [e] <;> decide
  have k := ref03_onlyB p a c (fieldsB p.ty) (bitsOf p.ty) w hE (fun w1 => ref03_Fields p.ty hp.ty w1) hz; rw [bits_only p h] at k; have e1 : (if (bitsOf p.ty).b = true then a else none) = (if p.ty = 8 ∨ p.ty = 10 then a else none) := by simp [bitsOf]
  have e2 : (if (bitsOf p.ty).b = true then c else 0) = (if p.ty = 8 ∨ p.ty = 10 then c else 0) := by simp [bitsOf]
  rw [e1, e2] at k; apply k
  all_goals (rcases ty_cases h with e | e | e | e | e | e | e | e | e | e | e | e | e | e <;> rw [e] <;> decide)
theorem onlyS_ok {p : Pk} (h : PkOk p) : PkOk (onlyS p) := by
  have k := onlyF_ok h; have hs : (onlyS p).subs = (if p.ty = 8 ∨ p.ty = 10 then p.subs else []) := rfl; refine ⟨k.ty, k.qos, k.id, k.level, k.keep, k.wqos, k.code, k.topic, k.payload, k.client, k.wtopic, k.wpayload, k.user, k.pass, k.codes, ?_, ?_⟩
  · rw [hs]; split
    · exact h.few
    · simp
  · rw [hs]; split
    · exact h.each
    · intro x hx; cases hx
theorem fields_dash (t : Nat) (h : ¬ (1 ≤ t ∧ t ≤ 14)) : fieldsB t = b1 [45] := by
  unfold fieldsB
  (repeat' split) <;> first | rfl | (exfalso; omega)
theorem fields_i {t : Nat} (h : 1 ≤ t ∧ t ≤ 14) : hasL (bl (fieldsB t)) 105 = hasI t := by
  rcases ty_cases h with e | e | e | e | e | e | e | e | e | e | e | e | e | e <;> rw [e] <;> decide
theorem bl_b1 {t : Nat} (h : 1 ≤ t ∧ t ≤ 14) : fieldsB t ≠ ⟨#[45]⟩ := by
  rcases ty_cases h with e | e | e | e | e | e | e | e | e | e | e | e | e | e <;> rw [e] <;> decide
set_option maxRecDepth 100000 in
set_option maxHeartbeats 4000000 in
theorem rightS {wb : World} {p : Pk} {a : Option Addr} {c : Nat} (hp : PkOk p) (hX : ∀ w, Below wb.heap.size wb w → CellsA w a (subCells p.subs)) : Spec Tryd.prog wb 67 #[.agg (pkV p a c)] [] [] (fun _ : Unit => .bool (rightR p)) (fun _ => []) (fun _ => []) := by
  have hF := fun w1 => ref03_Fields p.ty hp.ty w1
  obtain ⟨z, hz⟩ : ∃ z, rightR p = z := ⟨_, rfl⟩
  rw [hz]; have hre : decide (restR p ≤ 268435455) = decide (((restR p : Nat) : Int) ≤ 268435455) := by rw [Bool.eq_iff_iff]; simp; omega
  have hL := fun w1 hE k => ref03_lists p a c w1 hE hp k
  have hC := fun w1 => ref03_connect p a c w1 hp
  have hN := fun w1 => ref03_Name p.topic w1 hp.topic
  have hR := fun w1 hE k => ref03_rest p a c w1 hE hp k
  obtain ⟨l, hl⟩ : ∃ s, listsR p = s := ⟨_, rfl⟩
  obtain ⟨co, hco⟩ : ∃ s, connectR p = s := ⟨_, rfl⟩
  obtain ⟨nm, hnm⟩ : ∃ s, nameL (bl p.topic) = s := ⟨_, rfl⟩
  obtain ⟨rr, hrr⟩ : ∃ s, restR p = s := ⟨_, rfl⟩
  rw [hl] at hL; rw [hco] at hC; rw [hnm] at hN; rw [hrr] at hR hre; by_cases h : 1 ≤ p.ty ∧ p.ty ≤ 14
  · have hz2 : (fieldsB p.ty).size ≤ 300000000 := by
      rcases ty_cases h with e | e | e | e | e | e | e | e | e | e | e | e | e | e <;> rw [e] <;> decide
    have hn := bl_b1 h; have hhi := fields_i h; have hO := fun w1 hE => ref03_Only p a c w1 hE hp h
    obtain ⟨a2, ha2⟩ : ∃ x, (if p.ty = 8 ∨ p.ty = 10 then a else none) = x := ⟨_, rfl⟩
    obtain ⟨c2, hc2⟩ : ∃ x, (if p.ty = 8 ∨ p.ty = 10 then c else 0) = x := ⟨_, rfl⟩
    rw [ha2, hc2] at hO; have hrow : ∀ w1, CellsA w1 a (subCells p.subs) → CellsA w1 a2 (subCells (onlyS p).subs) := by
      intro w1 k; show CellsA w1 a2 (subCells (if p.ty = 8 ∨ p.ty = 10 then p.subs else [])); rw [← ha2]; split
      · exact k
      · exact CellsA.nil _ _
    have hS := fun w1 hE (k : CellsA w1 a (subCells p.subs)) => ref03_Same p (onlyS p) a a2 c c2 w1 hE hp (onlyS_ok hp) k (hrow w1 k)
    obtain ⟨s, hs⟩ : ∃ s, decide (p = onlyS p) = s := ⟨_, rfl⟩
    rw [hs] at hS; unfold rightR at hz; rw [decide_eq_true h, hs, hl, hco, hnm, hrr, hre] at hz; simp only [Bool.true_and] at hz; clear hs hl hco hnm hrr hre ha2 hc2 hrow h; obtain ⟨po, hpo⟩ : ∃ x, onlyS p = x := ⟨_, rfl⟩
    rw [hpo] at hO hS; obtain ⟨f, hf⟩ : ∃ x, fieldsB p.ty = x := ⟨_, rfl⟩
    rw [hf] at hF hn hhi hz2; obtain ⟨hi, hhi2⟩ : ∃ x, hasI p.ty = x := ⟨_, rfl⟩
    rw [hhi2] at hhi hz; have hH := fun w1 => has_lit f 105 105 rfl w1 hz2
    rw [hhi] at hH; clear hf hpo hhi hhi2 hp; obtain ⟨q, pr, du, hpq⟩ : ∃ (q : Pk) (pr du : Bool), p = { q with present := pr, dup := du } := ⟨p, p.present, p.dup, rfl⟩
    subst hpq; simp only at hz hF hN hX hS hL hR hO hC
    intro w H; refine en_call Tryd.func67 H ?_; cases s
    · refine en1 (EK [(.bool ((f : ByteArray).toList == (⟨#[45]⟩ : ByteArray).toList), .bool false)] ⟨eqS' (hn), trivial⟩ [⟨85, #[.int .u8 (q.ty : Int)], .string f, [], []⟩, ⟨86, #[.agg (pkV ({ q with present := pr, dup := du } : Pk) a c)], .agg (pkV po a2 c2), [], []⟩, ⟨17, #[.agg (pkV ({ q with present := pr, dup := du } : Pk) a c), .agg (pkV po a2 c2)], .bool false, [], []⟩] ⟨fun _ w _ _ => hF w, fun _ w h _ => hO w h.hp.env, fun _ w h _ => hS w h.hp.env (hX w h.hp.low), trivial⟩) [.x, .c, .c, .b 0 0, .k 0, .c, .g [(0, 0, 24)] 1000 false, .d (eN 0 [.c, .f 0, .c, .l 0 0, .l 0 0]), .k 1, .k 2, .d (eN 7 (eC 12 [])), .c] fun Y => ?_
      have he : z = false := by rw [← hz]; simp
      subst he; exact en_rets () [] [] []
    cases l
    · refine en1 (EK [(.bool ((f : ByteArray).toList == (⟨#[45]⟩ : ByteArray).toList), .bool false)] ⟨eqS' (hn), trivial⟩ [⟨85, #[.int .u8 (q.ty : Int)], .string f, [], []⟩, ⟨86, #[.agg (pkV ({ q with present := pr, dup := du } : Pk) a c)], .agg (pkV po a2 c2), [], []⟩, ⟨17, #[.agg (pkV ({ q with present := pr, dup := du } : Pk) a c), .agg (pkV po a2 c2)], .bool true, [], []⟩, ⟨87, #[.agg (pkV ({ q with present := pr, dup := du } : Pk) a c)], .bool false, [], []⟩] ⟨fun _ w _ _ => hF w, fun _ w h _ => hO w h.hp.env, fun _ w h _ => hS w h.hp.env (hX w h.hp.low), fun _ w h _ => hL w h.hp.env (hX w h.hp.low), trivial⟩) [.x, .c, .c, .b 0 0, .k 0, .c, .g [(0, 0, 24)] 1000 false, .d (eN 0 [.c, .f 0, .c, .l 0 0, .l 0 0]), .k 1, .k 2, .d (eN 7 (eC 3 [.l 0 0])), .k 3, .d (eN 12 (eC 7 [])), .c] fun Y => ?_
      have he : z = false := by rw [← hz]; simp
      subst he; exact en_rets () [] [] []
    simp only [Bool.true_and] at hz; by_cases hq : 2 < q.qos
    · refine en1 (EK [(.bool ((f : ByteArray).toList == (⟨#[45]⟩ : ByteArray).toList), .bool false), (.bool (decide ((((q.qos : Int)) : Int) > 2)), .bool true)] ⟨eqS' (hn), dcT (by omega), trivial⟩ [⟨85, #[.int .u8 (q.ty : Int)], .string f, [], []⟩, ⟨86, #[.agg (pkV ({ q with present := pr, dup := du } : Pk) a c)], .agg (pkV po a2 c2), [], []⟩, ⟨17, #[.agg (pkV ({ q with present := pr, dup := du } : Pk) a c), .agg (pkV po a2 c2)], .bool true, [], []⟩, ⟨87, #[.agg (pkV ({ q with present := pr, dup := du } : Pk) a c)], .bool true, [], []⟩] ⟨fun _ w _ _ => hF w, fun _ w h _ => hO w h.hp.env, fun _ w h _ => hS w h.hp.env (hX w h.hp.low), fun _ w h _ => hL w h.hp.env (hX w h.hp.low), trivial⟩) [.x, .c, .c, .b 0 0, .k 0, .c, .g [(0, 0, 24), (0, 2, 1)] 1000 false, .d (eN 0 [.c, .f 0, .c, .l 0 0, .l 0 0]), .k 1, .k 2, .d (eN 7 (eC 3 [.l 0 0])), .k 3, .d (eN 12 (eC 4 [.l 0 2, .f 1, .c])), .c] fun Y => ?_
      have he : z = false := by rw [← hz]; rw [decide_eq_false (show ¬ q.qos ≤ 2 by omega)]; simp
      subst he; exact en_rets () [] [] []
    rw [decide_eq_true (show q.qos ≤ 2 by omega)] at hz; simp only [Bool.true_and] at hz; refine en1 (EK [(.bool ((f : ByteArray).toList == (⟨#[45]⟩ : ByteArray).toList), .bool false), (.bool (decide ((((q.qos : Int)) : Int) > 2)), .bool false)] ⟨eqS' (hn), dcF (by omega), trivial⟩ [⟨85, #[.int .u8 (q.ty : Int)], .string f, [], []⟩, ⟨86, #[.agg (pkV ({ q with present := pr, dup := du } : Pk) a c)], .agg (pkV po a2 c2), [], []⟩, ⟨17, #[.agg (pkV ({ q with present := pr, dup := du } : Pk) a c), .agg (pkV po a2 c2)], .bool true, [], []⟩, ⟨87, #[.agg (pkV ({ q with present := pr, dup := du } : Pk) a c)], .bool true, [], []⟩] ⟨fun _ w _ _ => hF w, fun _ w h _ => hO w h.hp.env, fun _ w h _ => hS w h.hp.env (hX w h.hp.low), fun _ w h _ => hL w h.hp.env (hX w h.hp.low), trivial⟩) [.x, .c, .c, .b 0 0, .k 0, .c, .g [(0, 0, 24), (0, 2, 1)] 1000 false, .d (eN 0 [.c, .f 0, .c, .l 0 0, .l 0 0]), .k 1, .k 2, .d (eN 7 (eC 3 [.l 0 0])), .k 3, .d (eN 12 (eC 4 [.l 0 2, .f 1, .c]))] fun Y => ?_
    refine en_norm (runP (codeOf Tryd.f67) [1, 1, 1, 0, 0] [] 0) [(1, .pointer (some ⟨Y, 0, none⟩)), (2, .bool false), (3, .string f)] [⟨Y, [.int .u8 (q.ty : Int), .bool du, .int .u8 (q.qos : Int), .bool q.ret, .int .u16 (q.id : Int), .string q.topic, .string q.payload, .int .u8 (q.level : Int), .bool q.clean, .int .u16 (q.keep : Int), .string q.client, .bool q.hasWill, .string q.wtopic, .string q.wpayload, .int .u8 (q.wqos : Int), .bool q.wret, .bool q.hasUser, .bool q.hasPass, .string q.user, .string q.pass, .bool pr, .int .u8 (q.code : Int), .slice a q.subs.length c, .string q.codes], 40⟩] ?_; by_cases h1 : q.ty = 1 ∧ co = false
    · obtain ⟨h1, rfl⟩ := h1
      refine en (EK [(.bool ((((q.ty : Int)) : Int) == 1), .bool true)] ⟨eqI (by omega), trivial⟩ [⟨88, #[.agg (pkV ({ q with present := pr, dup := du } : Pk) a c)], .bool false, [], []⟩] ⟨fun _ w _ _ => hC w, trivial⟩) (.c :: .b 0 0 :: .f 0 :: .c :: .b 0 0 :: .k 0 :: eC 22 []) ?_; have he : z = false := by rw [← hz]; simp [h1]
      subst he; exact en_rets () [] [] []
    by_cases h2 : q.ty = 2 ∧ 5 < q.code
    · obtain ⟨h2, hc⟩ := h2
      refine en (EF [(.bool ((((q.ty : Int)) : Int) == 1), .bool false), (.bool ((((q.ty : Int)) : Int) == 2), .bool true), (.bool (decide ((((q.code : Int)) : Int) > 5)), .bool true)] ⟨eqI' (by omega), eqI (by omega), dcT (by omega), trivial⟩) (.c :: .b 0 0 :: .f 0 :: eC 7 (.b 0 0 :: .f 1 :: .c :: .c :: .b 0 21 :: .f 2 :: eC 12 [])) ?_; have he : z = false := by rw [← hz]; simp [h2]; omega
      subst he; exact en_rets () [] [] []
    by_cases h3 : q.ty = 2 ∧ pr = true ∧ 0 < q.code
    · obtain ⟨h3, rfl, hc⟩ := h3
      refine en (EF [(.bool ((((q.ty : Int)) : Int) == 1), .bool false), (.bool ((((q.ty : Int)) : Int) == 2), .bool true), (.bool (decide ((((q.code : Int)) : Int) > 5)), .bool false), (.bool (decide ((((q.code : Int)) : Int) > 0)), .bool true)] ⟨eqI' (by omega), eqI (by omega), dcF (by omega), dcT (by omega), trivial⟩) (.c :: .b 0 0 :: .f 0 :: eC 7 (.b 0 0 :: .f 1 :: .c :: .c :: .b 0 21 :: .f 2 :: .c :: .c :: .b 0 20 :: .c :: .c :: .b 0 21 :: .f 3 :: eC 5 [])) ?_; have he : z = false := by rw [← hz]; simp [h3, hc]
      subst he; exact en_rets () [] [] []
    refine en_meetP (codeOf Tryd.f67) [1, 1, 1, 0] [] (α := {_u : Unit // z = ((if q.ty = 3 then nm && !(decide (q.qos = 0) && (du || decide (q.id ≠ 0))) && !(decide (0 < q.qos) && decide (q.id = 0)) else !(hi && decide (q.id = 0))) && decide ((rr : Int) ≤ 268435455))}) 1 (fun _ => [(1, .pointer (some ⟨Y, 0, none⟩)), (2, .bool false), (3, .string f)]) (fun _ => [⟨Y, [.int .u8 (q.ty : Int), .bool du, .int .u8 (q.qos : Int), .bool q.ret, .int .u16 (q.id : Int), .string q.topic, .string q.payload, .int .u8 (q.level : Int), .bool q.clean, .int .u16 (q.keep : Int), .string q.client, .bool q.hasWill, .string q.wtopic, .string q.wpayload, .int .u8 (q.wqos : Int), .bool q.wret, .bool q.hasUser, .bool q.hasPass, .string q.user, .string q.pass, .bool pr, .int .u8 (q.code : Int), .slice a q.subs.length c, .string q.codes], 40⟩]) (fun _ => many []) ?_ ?_
    · intro JM HJM
      by_cases t1 : q.ty = 1
      · have hc : co = true := by cases co; exact absurd ⟨t1, rfl⟩ h1; rfl
        subst hc; refine en (EK [(.bool ((((q.ty : Int)) : Int) == 1), .bool true), (.bool ((((q.ty : Int)) : Int) == 2), .bool false)] ⟨eqI (by omega), eqI' (by omega), trivial⟩ [⟨88, #[.agg (pkV ({ q with present := pr, dup := du } : Pk) a c)], .bool true, [], []⟩] ⟨fun _ w _ _ => hC w, trivial⟩) (.c :: .b 0 0 :: .f 0 :: .c :: .b 0 0 :: .k 0 :: eC 4 (.b 0 0 :: .f 1 :: eC 15 [])) ?_; exact en_stopI (fun a w F HK => HJM ⟨(), by rw [← hz]; simp [t1]⟩ a w F HK)
      by_cases t2 : q.ty = 2
      · cases pr
        · refine en (EF [(.bool ((((q.ty : Int)) : Int) == 1), .bool false), (.bool ((((q.ty : Int)) : Int) == 2), .bool true), (.bool (decide ((((q.code : Int)) : Int) > 5)), .bool false)] ⟨eqI' (by omega), eqI (by omega), dcF (by omega), trivial⟩) (.c :: .b 0 0 :: .f 0 :: eC 7 (.b 0 0 :: .f 1 :: .c :: .c :: .b 0 21 :: .f 2 :: .c :: .c :: .b 0 20 :: eC 8 [])) ?_
          exact en_stopI (fun a w F HK => HJM ⟨(), by rw [← hz]; have h5 : q.code ≤ 5 := (by omega); simp [t1, t2, h5]⟩ a w F HK)
        · have h0 : ¬ 0 < q.code := fun h => h3 ⟨t2, rfl, h⟩
          refine en (EF [(.bool ((((q.ty : Int)) : Int) == 1), .bool false), (.bool ((((q.ty : Int)) : Int) == 2), .bool true), (.bool (decide ((((q.code : Int)) : Int) > 5)), .bool false), (.bool (decide ((((q.code : Int)) : Int) > 0)), .bool false)] ⟨eqI' (by omega), eqI (by omega), dcF (by omega), dcF (by omega), trivial⟩) (.c :: .b 0 0 :: .f 0 :: eC 7 (.b 0 0 :: .f 1 :: .c :: .c :: .b 0 21 :: .f 2 :: .c :: .c :: .b 0 20 :: .c :: .c :: .b 0 21 :: .f 3 :: eC 4 [])) ?_; exact en_stopI (fun a w F HK => HJM ⟨(), by rw [← hz]; have h5 : q.code = 0 := (by omega); simp [t1, t2, h5]⟩ a w F HK)
      refine en (EF [(.bool ((((q.ty : Int)) : Int) == 1), .bool false), (.bool ((((q.ty : Int)) : Int) == 2), .bool false)] ⟨eqI' (by omega), eqI' (by omega), trivial⟩) (.c :: .b 0 0 :: .f 0 :: eC 7 (.b 0 0 :: .f 1 :: eC 15 [])) ?_; exact en_stopI (fun a w F HK => HJM ⟨(), by rw [← hz]; simp [t1, t2]⟩ a w F HK)
    rintro ⟨_, hzz⟩; clear hz h1 h2 h3; by_cases t3 : q.ty = 3
    · rw [if_pos t3] at hzz
      cases nm
      · refine en (EK [(.bool ((((q.ty : Int)) : Int) == 3), .bool true)] ⟨eqI (by omega), trivial⟩ [⟨89, #[.string q.topic], .bool false, [], []⟩] ⟨fun _ w _ _ => hN w, trivial⟩) (.c :: .b 0 0 :: .f 0 :: .c :: .b 0 5 :: .k 0 :: eC 26 []) ?_
        have he : z = false := by rw [hzz]; simp
        subst he; exact en_rets () [] [] []
      · by_cases hq0 : q.qos = 0
        · cases du
          · by_cases hi0 : q.id = 0
            · refine en (EK [(.bool ((((q.ty : Int)) : Int) == 3), .bool true), (.bool ((((q.qos : Int)) : Int) == 0), .bool true), (.bool ((((q.id : Int)) : Int) != 0), .bool false), (.bool (decide ((((q.qos : Int)) : Int) > 0)), .bool false)] ⟨eqI (by omega), eqI (by omega), neI' (by omega), dcF (by omega), trivial⟩ [⟨89, #[.string q.topic], .bool true, [], []⟩, ⟨91, #[.agg (pkV ({ q with present := pr, dup := false } : Pk) a c)], .int .i64 (rr : Int), [], []⟩] ⟨fun _ w _ _ => hN w, fun _ w h _ => hR w h.hp.env (hX w h.hp.low), trivial⟩) (.c :: .b 0 0 :: .f 0 :: .c :: .b 0 5 :: .k 0 :: eC 3 (.b 0 2 :: .f 1 :: .c :: .c :: .b 0 1 :: .c :: .c :: .b 0 4 :: .f 2 :: eC 5 (.b 0 2 :: .f 3 :: eC 6 [.b 0 0, .k 1, .c, .c]))) ?_
              have he : z = decide ((rr : Int) ≤ 268435455) := by rw [hzz]; simp [hq0, hi0]
              subst he; exact en_rets () [] [] []
            · refine en (EK [(.bool ((((q.ty : Int)) : Int) == 3), .bool true), (.bool ((((q.qos : Int)) : Int) == 0), .bool true), (.bool ((((q.id : Int)) : Int) != 0), .bool true)] ⟨eqI (by omega), eqI (by omega), neI (by omega), trivial⟩ [⟨89, #[.string q.topic], .bool true, [], []⟩] ⟨fun _ w _ _ => hN w, trivial⟩) (.c :: .b 0 0 :: .f 0 :: .c :: .b 0 5 :: .k 0 :: eC 3 (.b 0 2 :: .f 1 :: .c :: .c :: .b 0 1 :: .c :: .c :: .b 0 4 :: .f 2 :: eC 14 [])) ?_
              have he : z = false := by rw [hzz]; simp [hq0, hi0]
              subst he; exact en_rets () [] [] []
          · refine en (EK [(.bool ((((q.ty : Int)) : Int) == 3), .bool true), (.bool ((((q.qos : Int)) : Int) == 0), .bool true)] ⟨eqI (by omega), eqI (by omega), trivial⟩ [⟨89, #[.string q.topic], .bool true, [], []⟩] ⟨fun _ w _ _ => hN w, trivial⟩) (.c :: .b 0 0 :: .f 0 :: .c :: .b 0 5 :: .k 0 :: eC 3 (.b 0 2 :: .f 1 :: .c :: .c :: .b 0 1 :: eC 18 [])) ?_
            have he : z = false := by rw [hzz]; simp [hq0]
            subst he; exact en_rets () [] [] []
        · have hq1 : 0 < q.qos := by omega
          by_cases hi0 : q.id = 0
          · refine en (EK [(.bool ((((q.ty : Int)) : Int) == 3), .bool true), (.bool ((((q.qos : Int)) : Int) == 0), .bool false), (.bool (decide ((((q.qos : Int)) : Int) > 0)), .bool true), (.bool ((((q.id : Int)) : Int) == 0), .bool true)] ⟨eqI (by omega), eqI' (by omega), dcT (by omega), eqI (by omega), trivial⟩ [⟨89, #[.string q.topic], .bool true, [], []⟩] ⟨fun _ w _ _ => hN w, trivial⟩) (.c :: .b 0 0 :: .f 0 :: .c :: .b 0 5 :: .k 0 :: eC 3 (.b 0 2 :: .f 1 :: eC 12 (.b 0 2 :: .f 2 :: .c :: .c :: .b 0 4 :: .f 3 :: eC 3 []))) ?_
            have he : z = false := by rw [hzz]; simp [hq0, hq1, hi0]
            subst he; exact en_rets () [] [] []
          · refine en (EK [(.bool ((((q.ty : Int)) : Int) == 3), .bool true), (.bool ((((q.qos : Int)) : Int) == 0), .bool false), (.bool (decide ((((q.qos : Int)) : Int) > 0)), .bool true), (.bool ((((q.id : Int)) : Int) == 0), .bool false)] ⟨eqI (by omega), eqI' (by omega), dcT (by omega), eqI' (by omega), trivial⟩ [⟨89, #[.string q.topic], .bool true, [], []⟩, ⟨91, #[.agg (pkV ({ q with present := pr, dup := du } : Pk) a c)], .int .i64 (rr : Int), [], []⟩] ⟨fun _ w _ _ => hN w, fun _ w h _ => hR w h.hp.env (hX w h.hp.low), trivial⟩) (.c :: .b 0 0 :: .f 0 :: .c :: .b 0 5 :: .k 0 :: eC 3 (.b 0 2 :: .f 1 :: eC 12 [.b 0 2, .f 2, .c, .c, .b 0 4, .f 3, .c, .c, .b 0 0, .k 1, .c, .c])) ?_
            have he : z = decide ((rr : Int) ≤ 268435455) := by rw [hzz]; simp [hq0, hi0]
            subst he; exact en_rets () [] [] []
    rw [if_neg t3] at hzz; cases hi
    · refine en (EK [(.bool ((((q.ty : Int)) : Int) == 3), .bool false)] ⟨eqI' (by omega), trivial⟩ [⟨90, #[.string f, .int .u8 105], .bool false, [], []⟩, ⟨91, #[.agg (pkV ({ q with present := pr, dup := du } : Pk) a c)], .int .i64 (rr : Int), [], []⟩] ⟨fun _ w _ _ => (hH w).mono (fun e w' h => ⟨h.1, h.2 ▸ Below.refl _ _⟩), fun _ w h _ => hR w h.hp.env (hX w h.hp.low), trivial⟩) (.c :: .b 0 0 :: .f 0 :: .c :: .k 0 :: eC 5 [.b 0 0, .k 1, .c, .c]) ?_
      have he : z = decide ((rr : Int) ≤ 268435455) := by rw [hzz]; simp
      subst he; exact en_rets () [] [] []
    · by_cases hi0 : q.id = 0
      · refine en (EK [(.bool ((((q.ty : Int)) : Int) == 3), .bool false), (.bool ((((q.id : Int)) : Int) == 0), .bool true)] ⟨eqI' (by omega), eqI (by omega), trivial⟩ [⟨90, #[.string f, .int .u8 105], .bool true, [], []⟩] ⟨fun _ w _ _ => (hH w).mono (fun e w' h => ⟨h.1, h.2 ▸ Below.refl _ _⟩), trivial⟩) [.c, .b 0 0, .f 0, .c, .k 0, .c, .c, .b 0 4, .f 1, .c, .c] ?_
        have he : z = false := by rw [hzz]; simp [hi0]
        subst he; exact en_rets () [] [] []
      · refine en (EK [(.bool ((((q.ty : Int)) : Int) == 3), .bool false), (.bool ((((q.id : Int)) : Int) == 0), .bool false)] ⟨eqI' (by omega), eqI' (by omega), trivial⟩ [⟨90, #[.string f, .int .u8 105], .bool true, [], []⟩, ⟨91, #[.agg (pkV ({ q with present := pr, dup := du } : Pk) a c)], .int .i64 (rr : Int), [], []⟩] ⟨fun _ w _ _ => (hH w).mono (fun e w' h => ⟨h.1, h.2 ▸ Below.refl _ _⟩), fun _ w h _ => hR w h.hp.env (hX w h.hp.low), trivial⟩) [.c, .b 0 0, .f 0, .c, .k 0, .c, .c, .b 0 4, .f 1, .c, .b 0 0, .k 1, .c, .c] ?_
        have he : z = decide ((rr : Int) ≤ 268435455) := by rw [hzz]; simp [hi0]
        subst he; exact en_rets () [] [] []
  · rw [fields_dash _ h] at hF
    have he : z = false := by rw [← hz]; unfold rightR; simp [h]
    subst he; clear hz h hre hL hC hN hR hp; obtain ⟨q, pr, du, hpq⟩ : ∃ (q : Pk) (pr du : Bool), p = { q with present := pr, dup := du } := ⟨p, p.present, p.dup, rfl⟩
    subst hpq; intro w H; refine en_call Tryd.func67 H ?_; refine en1 (EK [(.bool (((b1 [45]) : ByteArray).toList == (⟨#[45]⟩ : ByteArray).toList), .bool true)] ⟨eqS (rfl), trivial⟩ [⟨85, #[.int .u8 (q.ty : Int)], .string (b1 [45]), [], []⟩] ⟨fun _ w _ _ => hF w, trivial⟩) [.x, .c, .c, .b 0 0, .k 0, .c, .g [] 1000 false, .d (eN 0 (.c :: .f 0 :: eC 17 [])), .c] fun Y => ?_
    exact en_rets () [] [] []
theorem ref03_Right (p : Pk) (a : Option Addr) (c : Nat) (w : World) (hE : Env w) (hp : PkOk p) (ha : CellsA w a (subCells p.subs)) : Calls Tryd.prog 67 #[.agg (pkV p a c)] w fun e w' => e = .returned (.bool (rightR p)) ∧ Below w.heap.size w w' :=
  rdc_of hE (rightS hp (fun _ h => ha.below h))
end Go.Proofs.YtnnpokndajpkiaaDoor
