/- The walk of the model's Apply of a SUBSCRIBE, an UNSUBSCRIBE, and of what it does not do. Conditions: the model lies behind its pointer; the decoder's tables lie as Go lays them; a packet's filters are few and short. -/
import Derived.Test.YtmppkgonkkffhaaDoorJoinN
import Derived.Test.YtmppkgonkkffhaaDoorFrameT
import Derived.Test.YtmppkgonkkffhaaDoorLess
import Derived.Test.YtmppkgonkkffhaaDoorReadLists
import Derived.Test.YtmppkgonkkffhaaDoorJoinF
import Derived.Test.YtmppkgonkkffhaaDoorSubsTry
namespace Go.Proofs.YtmppkgonkkffhaaDoor
open Go.RowKit
theorem sb_one (x : Sb) : (#[.string x.1, .int .u8 (x.2 : Int)] : Array Value).all (·.oneCell') = true := by kernel_rfl
theorem infoSubS : (Tryd.prog.info? 77).map (·.size) = some 2 := by kernel_rfl
theorem RowAt.type {w : World} {B n size g : Nat} {e : TypeId} {x : Value} {xs : List Value} (k : RowAt w B e size x n xs) (hg : x.ownBlock = some g) : ∃ cur fr, w.heap[g]? = some (.cells cur e fr) := by
  rcases k.2 with ⟨rfl, _⟩ | ⟨g', cap, cur, rfl, _, hh, _⟩
  · simp [Value.ownBlock] at hg
  · have : g' = g := by simpa [Value.ownBlock] using hg
    subst this
    exact ⟨_, _, hh⟩
/-- What a block of the model is not. -/
def NoT (T : TypeId) : Prop := T ≠ 66 ∧ T ≠ 105 ∧ T ≠ 74 ∧ T ≠ 110 ∧ T ≠ 77
instance (T : TypeId) : Decidable (NoT T) := by unfold NoT; infer_instance
theorem MoAt.noT {w : World} {B m M K KM : Nat} {L : List St} (h : MoAt w B m M K KM L) {T : TypeId} (hT : NoT T) {k : Nat} (hk : FootM m M K KM L k) {cur : Array Value} {fr : Nat × Nat} : w.heap[k]? ≠ some (.cells cur T fr) := by
  obtain ⟨h1, h2, h3, h4, h5⟩ := hT
  have key : ∀ (o : Obj), w.heap[k]? = some o → (∀ c f, o = .cells c T f → False) → w.heap[k]? ≠ some (.cells cur T fr) := fun o ho hn e => by
    rw [ho] at e
    injection e with e
    exact hn _ _ e
  rcases hk with rfl | rfl | rfl | rfl | ⟨x, hx, rfl | rfl | hk⟩
  · exact key _ h.box (fun c f e => by injection e with _ e; exact h1 e.symm)
  · obtain ⟨arr, c, ho, _⟩ := h.map
    exact key _ ho (fun c f e => by cases e)
  · exact key _ h.kbox (fun c f e => by injection e with _ e; exact h2 e.symm)
  · obtain ⟨es, arr, c, ho, _⟩ := h.kmap
    exact key _ ho (fun c f e => by cases e)
  · exact key _ (h.st x hx).box (fun c f e => by injection e with _ e; exact h3 e.symm)
  · exact key _ (h.st x hx).list.blk (fun c f e => by injection e with _ e; exact h4 e.symm)
  · obtain ⟨c, f, ho⟩ := (h.st x hx).list.own.type hk
    exact key _ ho (fun c f e => by injection e with _ e; exact h5 e.symm)
theorem MoAt.boxFar {w : World} {B m M K KM : Nat} {L : List St} (h : MoAt w B m M K KM L) {T : TypeId} (hT : NoT T) {X : Nat} {cs : Array Value} (hb : BoxAt w X cs T) : ¬ FootM m M K KM L X := fun hk => h.noT hT hk hb
theorem MoAt.ownFar {w : World} {B m M K KM : Nat} {L : List St} (h : MoAt w B m M K KM L) {T : TypeId} (hT : NoT T) {Bs n size : Nat} {v : Value} {xs : List Value} (ho : w.ownsRow Bs T size v n xs) {g : Nat} (hg : v.ownBlock = some g) : ¬ FootM m M K KM L g := fun hk => by
  obtain ⟨cur, fr, he⟩ := (RowAt.of_own ho).type hg
  exact h.noT hT hk he
theorem MoAt.grown {w w' : World} {B m M K KM : Nat} {L : List St} (h : MoAt w B m M K KM L) {T : TypeId} (hT : NoT T) {Bs n size : Nat} {v : Value} {xs : List Value} (ho : w.ownsRow Bs T size v n xs) (hgr : w.grownBy w' v.ownBlock) : MoAt w' B m M K KM L :=
  h.only ((Only.refl (fun j => v.ownBlock = some j) w).grown hgr (fun g hg => Or.inl hg)) (fun j hj hF => h.ownFar hT ho hF hj)
theorem Keep.grownBoxM {w0 w w' : World} {L : List Box} (HK : Keep w0 L [] w) {Bs n size : Nat} {e : TypeId} {v : Value} {xs : List Value} (ho : w.ownsRow Bs e size v n xs) (hBs : w0.heap.size ≤ Bs) (hgr : w.grownBy w' v.ownBlock) (hL : ∀ x ∈ L, x.2.2 ≠ e) : Keep w0 L [] w' :=
  HK.grown hgr (fun g hg => Nat.le_trans hBs (own_lt ho hg).2) (fun g hg x hx e => BoxAt.ne_own (HK.box x hx) ho (Ne.symm (hL x hx)) g hg e) (fun r hr => by cases hr)
theorem Keep.onlyF {w0 w w' : World} {L : List Box} (h : Keep w0 L [] w) {F : Nat → Prop} (k : Only F w w') (h1 : ∀ j, F j → w0.heap.size ≤ j) (h2 : ∀ x ∈ L, ¬ F x.1) : Keep w0 L [] w' :=
  ⟨h.env0, h.low.trans (k.below h.low.size h1), fun x hx => (h.box x hx).only k (h2 x hx), h.up, h.nod, fun r hr => (by cases hr), fun r hr => (by cases hr)⟩
theorem put_put {y1 y2 : St} (h : y1.client = y2.client) : ∀ L : List St, putL (putL L y1) y2 = putL L y2
  | [] => by show (if y2.client = y1.client then [y2] else y1 :: putL [] y2) = [y2]; rw [if_pos h.symm]
  | x :: r => by
    show putL (if y1.client = x.client then y1 :: r else x :: putL r y1) y2 = if y2.client = x.client then y2 :: r else x :: putL r y2
    by_cases e : y1.client = x.client
    · rw [if_pos e, if_pos (h ▸ e)]
      show (if y2.client = y1.client then y2 :: r else y1 :: putL r y2) = _
      rw [if_pos h.symm]
    · rw [if_neg e, if_neg (h ▸ e)]
      show (if y2.client = x.client then y2 :: putL r y1 else x :: putL (putL r y1) y2) = _
      rw [if_neg (h ▸ e), put_put h r]
theorem put_self : ∀ {L : List St} {c : ByteArray} {x : St}, findL L c = some x → putL L x = L
  | [], _, _, h => by cases h
  | z :: r, c, x, h => by
    unfold findL at h
    unfold putL
    split at h
    · injection h with h
      subst h
      rw [if_pos rfl]
    · rename_i e
      rw [if_neg (by rw [(find_mem h).2]; exact e), put_self h]
theorem StAt.foot_ne {w : World} {B : Nat} {x : St} (h : StAt w B x) : ∀ j, Foot x.g x.v j → ¬ j = x.s := by
  intro j hj e
  subst e
  rcases hj with e | e
  · have h1 := h.box
    have h2 := h.list.blk
    unfold BoxAt at h1
    unfold OneAt at h2
    rw [← e, h1] at h2
    injection h2 with h2
    injection h2 with _ h2
    exact absurd h2 (by decide)
  · exact RowAt.neBox h.box h.list.own (by decide) e
/-- A seat's list is turned. -/
theorem MoAt.list {w w' : World} {B m M K KM : Nat} {L : List St} {x : St} {c : ByteArray} (h : MoAt w B m M K KM L) (hx : findL L c = some x) {v' : Value} {S' : List Sb} (k : Only (Foot x.g x.v) w w') (hl : LAt w' B x.g v' S') (hf : Fine S')
    (hv : ∀ r, v'.ownBlock = some r → x.v.ownBlock = some r ∨ w.heap.size ≤ r) : MoAt w' B m M K KM (putL L { x with v := v', S := S' }) := by
  obtain ⟨hm, hc⟩ := find_mem hx
  have hst := h.st x hm
  refine h.put k (fun j hj _ => Or.inr ⟨x, hm, rfl, Or.inr hj⟩) ?_ ⟨hst.box.only k (fun hk => hst.foot_ne _ hk rfl), hl, hf, hst.lo⟩ ?_
  · rw [entM_same (y := { x with v := v', S := S' }) (x := x) (by show findL L x.client = some x; rw [hc]; exact hx) rfl]
    exact h.map.only k (fun hk => (h.far x hm _ (Or.inr hk)).2.1 rfl)
  · intro j hj
    rcases hj with hj | hj | hj
    · exact Or.inl ⟨x, hm, rfl, Or.inl hj⟩
    · exact Or.inl ⟨x, hm, rfl, Or.inr (Or.inl hj)⟩
    · rcases hv j hj with h2 | h2
      · exact Or.inl ⟨x, hm, rfl, Or.inr (Or.inr h2)⟩
      · exact Or.inr (fun hk => by have := h.foot hk; omega)
theorem setAll_snoc : ∀ (T S : List Sb) (x : Sb), setAll S (T ++ [x]) = ((setAll S T).1 ++ [(setS (setAll S T).2 x.1 x.2).1], (setS (setAll S T).2 x.1 x.2).2)
  | [], S, x => rfl
  | y :: T, S, x => by
    show (((setS S y.1 y.2).1 :: (setAll (setS S y.1 y.2).2 (T ++ [x])).1, (setAll (setS S y.1 y.2).2 (T ++ [x])).2) : List Nat × List Sb) = _
    rw [setAll_snoc T _ x]
    rfl
theorem setAll_len : ∀ (T S : List Sb), (setAll S T).1.length = T.length
  | [], _ => rfl
  | y :: T, S => by
    show ((setS S y.1 y.2).1 :: (setAll (setS S y.1 y.2).2 T).1).length = _
    rw [List.length_cons, setAll_len T, List.length_cons]
theorem sub_range {w : World} {a : Option Addr} {S : List Sb} (h : CellsA w a (subCells S)) {k : Nat} {x : Sb} (hx : S[k]? = some x) : ∃ b o, a = some ⟨b, o, none⟩ ∧ w.rangeAt b (o + k * 2) [.string x.1, .int .u8 (x.2 : Int)] := by
  obtain ⟨b, o, ha, h1, h2⟩ := h.sub hx
  refine ⟨b, o, ha, fun j v hv => ?_⟩
  match j, hv with
  | 0, hv => rw [← hv]; exact h1
  | 1, hv => rw [← hv]; exact h2
  | j + 2, hv => simp at hv
set_option maxRecDepth 100000 in
set_option maxHeartbeats 4000000 in
theorem apply_not {w0 w : World} {m M K KM : Nat} {L : List St} (n : Nt) (a : Option Addr) (c : Nat) (HK : Keep w0 [] [] w) (HMO : MoAt w w0.heap.size m M K KM L) (hk : n.kind = 2) (hty : n.p.ty ≠ 1) {x : St} (HX : findL L n.client = some x) (hc : ¬ n.conn < 1) (hxc : x.conn = n.conn) (h8 : ¬ n.p.ty = 8) (h10 : ¬ n.p.ty = 10) (h14 : ¬ n.p.ty = 14) (h0 : ¬ n.p.ty = 0) : Calls Tryd.prog 21 #[.pointer (some ⟨m, 0, none⟩), .agg (ntV n a c)] w fun e w' => ∃ L', e = .returned (.tuple #[.string (applyS (absL L) n).1.1, .bool (applyS (absL L) n).1.2.1, .bool (applyS (absL L) n).1.2.2]) ∧ absL L' = (applyS (absL L) n).2 ∧ MOut w0 w m M K KM L L' w' := by
  obtain ⟨RR, hRR⟩ : ∃ RR : Ending → World → Prop, RR = fun e w' => ∃ L', e = .returned (.tuple #[.string (applyS (absL L) n).1.1, .bool (applyS (absL L) n).1.2.1, .bool (applyS (absL L) n).1.2.2]) ∧ absL L' = (applyS (absL L) n).2 ∧ MOut w0 w m M K KM L L' w' := ⟨_, rfl⟩
  have FIN := Lib.hid (show ∀ s p o' L' w', s = (applyS (absL L) n).1.1 → p = (applyS (absL L) n).1.2.1 → o' = (applyS (absL L) n).1.2.2 → absL L' = (applyS (absL L) n).2 → MOut w0 w m M K KM L L' w' → RR (.returned (.tuple #[.string s, .bool p, .bool o'])) w' from fun s p o' L' w' h0 h1 h2 h3 h4 => by rw [hRR, h0, h1, h2]; exact ⟨L', rfl, h3, h4⟩)
  rw [← hRR]
  have HND := Lib.hid HMO.nd
  have HF0 := Lib.hid (fun k hk => HMO.foot (k := k) hk)
  obtain ⟨w9, hw9⟩ : ∃ w9, w9 = w := ⟨_, rfl⟩
  have HON : Only (FootM m M K KM L) w w9 := by rw [hw9]; exact Only.refl _ _
  rw [← hw9] at HK HMO
  suffices hgo : Calls Tryd.prog 21 #[.pointer (some ⟨m, 0, none⟩), .agg (ntV n a c)] w9 RR by rw [hw9] at hgo; exact hgo
  clear hw9 hRR
  go_enter Tryd.func21, Tryd.ntmps21
  refine wp_forget (n := 137) (L := [(1, .agg (ntV n a c)), (0, .pointer (some ⟨m, 0, none⟩))]) (FrL.add (FrL.add (FrL.nil ?_ ?_) _ _ ?_) _ _ ?_) ?_
  iterate 4 rfl
  intro a9 F
  refine wp_seq ?_
  refine wp_region_lit ?_
  refine fr_box F HK 3 (by decide) rfl 35 _ rfl rfl (ntV n a c) (fun a' F' => F'.ev 1 rfl) ?_
  rintro B a10 w10 hX F' HK' hb
  replace HMO := HMO.below hb
  replace HON := HON.then hb
  clear HK F hb hX
  clear a9 w9
  rename World => w9
  rename Act => a9
  have HK := HK'
  have F := F'
  clear HK' F'
  replace HK : Keep w0 [(B, (ntV n a c), 35)] [] w9 := HK
  refine fr_ch F 3 [(6, .bool false), (5, .bool false), (4, .string ⟨#[]⟩)] (by kernel_rfl) ?_
  clear F a9
  intro a9 F
  refine wpList_nil ?_
  show Code.wp _ _ _ _ _
  replace F := F.cut [(6, .bool false), (5, .bool false), (4, .string ⟨#[]⟩), (3, .pointer (some ⟨B, 0, none⟩)), (0, .pointer (some ⟨m, 0, none⟩))] (by kernel_rfl)
  refine wp_seq ?_
  refine wp_seq ?_
  refine wp_region_lit ?_
  refine fr_ch F 6 [(18, .pointer (some ⟨m, 0, none⟩)), (15, .bool false), (14, .bool false), (13, .pointer (some ⟨m, 0, none⟩))] (by kernel_rfl) ?_
  clear F a9
  intro a9 F
  refine fr_do F (by rw [wanted_at F rfl (t := 15) (b := false) (by kernel_rfl) rfl]; rfl) 19 rfl (by decide) (.map (some M)) (by intro a' F'; have h18 := F'.at' 18 _ rfl; have hc : w9.cell? ⟨m, 0, none⟩ = some (.map (some M)) := HMO.box.cells 0; go_simp) ?_
  clear F a9
  intro a9 F
  refine fr_do F (by rw [wanted_at F rfl (t := 15) (b := false) (by kernel_rfl) rfl]; rfl) 20 rfl (by decide) (.bool false) (fun a' F' => op_map_nil rfl (F'.ev 19 rfl) rfl) ?_
  clear F a9
  intro a9 F
  refine fr_ch F 1 [(21, .bool false)] (by kernel_rfl) ?_
  clear F a9
  intro a9 F
  refine wpList_nil ?_
  show Code.wp _ _ _ _ _
  refine wp_cond_false (F.ev 21 rfl) ?_
  refine wp_skip ?_
  show Code.wp _ _ _ _ _
  replace F := F.cut [(6, .bool false), (5, .bool false), (4, .string ⟨#[]⟩), (3, .pointer (some ⟨B, 0, none⟩)), (0, .pointer (some ⟨m, 0, none⟩))] (by kernel_rfl)
  refine wp_seq ?_
  refine wp_block ?_
  refine wp_seq ?_
  refine wp_region_lit ?_
  refine fr_ch F 1 [(23, .pointer (some ⟨B, 0, none⟩))] (by kernel_rfl) ?_
  clear F a9
  intro a9 F
  refine fr_do F (wanted_free rfl) 24 rfl (by decide) (.int .u8 (n.kind : Int)) (by intro a' F'; have hc : w9.cell? ⟨B, 0, none⟩ = some (.int .u8 (n.kind : Int)) := (HK.at 0 rfl).cells 0; have h23 := F'.at' 23 _ rfl; go_simp) ?_
  clear F a9
  intro a9 F
  refine fr_do F (wanted_free rfl) 25 rfl (by decide) (.bool false) (by intro a' F'; have h24 := F'.at' 24 _ rfl; go_simp) ?_
  clear F a9
  intro a9 F
  refine fr_ch F 1 [(22, .bool false)] (by kernel_rfl) ?_
  clear F a9
  intro a9 F
  refine wpList_nil ?_
  show Code.wp _ _ _ _ _
  refine wp_cond_false (F.ev 22 rfl) ?_
  replace F := F.cut [(6, .bool false), (5, .bool false), (4, .string ⟨#[]⟩), (3, .pointer (some ⟨B, 0, none⟩)), (0, .pointer (some ⟨m, 0, none⟩))] (by kernel_rfl)
  refine wp_seq ?_
  refine wp_region_lit ?_
  refine fr_ch F 1 [(34, .pointer (some ⟨B, 0, none⟩))] (by kernel_rfl) ?_
  clear F a9
  intro a9 F
  refine fr_do F (wanted_free rfl) 35 rfl (by decide) (.int .u8 (n.kind : Int)) (by intro a' F'; have hc : w9.cell? ⟨B, 0, none⟩ = some (.int .u8 (n.kind : Int)) := (HK.at 0 rfl).cells 0; have h34 := F'.at' 34 _ rfl; go_simp) ?_
  clear F a9
  intro a9 F
  refine fr_do F (wanted_free rfl) 36 rfl (by decide) (.bool false) (by intro a' F'; have h35 := F'.at' 35 _ rfl; go_simp) ?_
  clear F a9
  intro a9 F
  refine fr_ch F 1 [(33, .bool false)] (by kernel_rfl) ?_
  clear F a9
  intro a9 F
  refine wpList_nil ?_
  show Code.wp _ _ _ _ _
  refine wp_cond_false (F.ev 33 rfl) ?_
  replace F := F.cut [(6, .bool false), (5, .bool false), (4, .string ⟨#[]⟩), (3, .pointer (some ⟨B, 0, none⟩)), (0, .pointer (some ⟨m, 0, none⟩))] (by kernel_rfl)
  refine wp_seq ?_
  refine wp_region_lit ?_
  refine fr_ch F 2 [(39, .pointer (some ⟨B, 4, none⟩))] (by kernel_rfl) ?_
  clear F a9
  intro a9 F
  refine fr_do F (wanted_free rfl) 40 rfl (by decide) (.int .u8 (n.p.ty : Int)) (by intro a' F'; have hc : w9.cell? ⟨B, 4, none⟩ = some (.int .u8 (n.p.ty : Int)) := (HK.at 0 rfl).cells 4; have h39 := F'.at' 39 _ rfl; go_simp) ?_
  clear F a9
  intro a9 F
  refine fr_do F (wanted_free rfl) 41 rfl (by decide) (.bool false) (by intro a' F'; have h40 := F'.at' 40 _ rfl; go_simp <;> omega) ?_
  clear F a9
  intro a9 F
  refine fr_ch F 1 [(37, .bool false)] (by kernel_rfl) ?_
  clear F a9
  intro a9 F
  refine wpList_nil ?_
  show Code.wp _ _ _ _ _
  refine wp_cond_false (F.ev 37 rfl) ?_
  replace F := F.cut [(6, .bool false), (5, .bool false), (4, .string ⟨#[]⟩), (3, .pointer (some ⟨B, 0, none⟩)), (0, .pointer (some ⟨m, 0, none⟩))] (by kernel_rfl)
  refine wp_skip ?_
  show Code.wp _ _ _ _ _
  refine wp_seq ?_
  refine wp_region_lit ?_
  refine fr_ch F 2 [(51, .pointer (some ⟨B, 3, none⟩)), (50, .pointer (some ⟨m, 0, none⟩))] (by kernel_rfl) ?_
  clear F a9
  intro a9 F
  refine fr_do F (wanted_free rfl) 52 rfl (by decide) (.string n.client) (by intro a' F'; have hc : w9.cell? ⟨B, 3, none⟩ = some (.string n.client) := (HK.at 0 rfl).cells 3; have h51 := F'.at' 51 _ rfl; go_simp) ?_
  clear F a9
  intro a9 F
  refine fr_call F (wanted_free rfl) 53 rfl (by decide) 43 #[.pointer (some ⟨m, 0, none⟩), .string n.client] (by intro a' F'; have h50 := F'.at' 50 _ rfl; have h52 := F'.at' 52 _ rfl; go_simp) (model_seat w9 n.client HMO) ?_
  rintro e9 w8 ⟨rfl, rfl⟩
  rw [HX]
  refine ⟨_, rfl, ?_⟩
  clear F a9
  intro a9 F
  refine fr_as F (wanted_free rfl) 7 rfl (by decide) 53 rfl rfl ?_
  clear F a9
  intro a9 F
  refine wpList_nil ?_
  show Code.wp _ _ _ _ _
  replace F := F.cut [(7, .pointer (some ⟨x.s, 0, none⟩)), (6, .bool false), (5, .bool false), (4, .string ⟨#[]⟩), (3, .pointer (some ⟨B, 0, none⟩)), (0, .pointer (some ⟨m, 0, none⟩))] (by kernel_rfl)
  refine wp_seq ?_
  refine wp_seq ?_
  refine wp_region_noPanic ?_
  have hb8 : Below w9.heap.size w9 w9.drew := below_draws (n := 1) rfl
  replace HK := HK.below hb8
  replace HMO := HMO.below hb8
  replace HON := HON.then hb8
  clear hb8
  refine AnyT.begin (S := fun w' => BoxAt w' B (ntV n a c) 35 ∧ BoxAt w' x.s (stV x) 74) (z := 1000) (by kernel_rfl) ⟨HK.at 0 rfl, (HMO.st x (find_mem HX).1).box⟩ (fun hS0 => ?_)
  clear hS0
  generalize w9.drew = w8 at *
  clear w9
  rename World => w9
  refine fr_chT F [0, 1, 2, 3] [(57, .pointer (some ⟨B, 2, none⟩)), (56, .bool false), (55, .bool false), (54, .pointer (some ⟨x.s, 0, none⟩))] ⟨HK.at 0 rfl, (HMO.st x (find_mem HX).1).box⟩ (by kernel_rfl) ?_
  clear F a9
  intro a9 F
  refine fr_takeG (i := 4) (o := ⟨some 58, _, _, _, _, _⟩) F ⟨HK.at 0 rfl, (HMO.st x (find_mem HX).1).box⟩ rfl (by rw [wanted_at F rfl (t := 56) (b := false) (by kernel_rfl) rfl]; rfl) 58 rfl (by decide) (.int .i64 n.conn) (fun w9 hS => (by intro a' F'; have h57 := F'.at' 57 _ rfl; have hc : w9.cell? ⟨B, 2, none⟩ = some (.int .i64 n.conn) := hS.1.cells 2; go_simp)) ?_
  clear F a9
  intro a9 F
  refine fr_takeG (i := 5) (o := ⟨some 59, _, _, _, _, _⟩) F ⟨HK.at 0 rfl, (HMO.st x (find_mem HX).1).box⟩ rfl (by rw [wanted_at F rfl (t := 56) (b := false) (by kernel_rfl) rfl]; rfl) 59 rfl (by decide) (.bool false) (fun w9 hS => (by intro a' F'; have h58 := F'.at' 58 _ rfl; go_simp)) ?_
  clear F a9
  intro a9 F
  refine fr_chT F [6, 7, 8, 9, 10] [(64, .pointer (some ⟨x.s, 1, none⟩)), (63, .pointer (some ⟨x.s, 0, none⟩)), (62, .pointer (some ⟨x.s, 0, none⟩)), (61, .bool false), (60, .bool false)] ⟨HK.at 0 rfl, (HMO.st x (find_mem HX).1).box⟩ (by kernel_rfl) ?_
  clear F a9
  intro a9 F
  refine fr_takeG (i := 11) (o := ⟨some 65, _, _, _, _, _⟩) F ⟨HK.at 0 rfl, (HMO.st x (find_mem HX).1).box⟩ rfl (by rw [wanted_at F rfl (t := 61) (b := false) (by kernel_rfl) rfl]; rfl) 65 rfl (by decide) (.int .i64 x.conn) (fun w9 hS => (by intro a' F'; have h64 := F'.at' 64 _ rfl; have hc : w9.cell? ⟨x.s, 1, none⟩ = some (.int .i64 x.conn) := hS.2.cells 1; go_simp)) ?_
  clear F a9
  intro a9 F
  refine fr_chT F [12] [(66, .pointer (some ⟨B, 2, none⟩))] ⟨HK.at 0 rfl, (HMO.st x (find_mem HX).1).box⟩ (by kernel_rfl) ?_
  clear F a9
  intro a9 F
  refine fr_takeG (i := 13) (o := ⟨some 67, _, _, _, _, _⟩) F ⟨HK.at 0 rfl, (HMO.st x (find_mem HX).1).box⟩ rfl (by rw [wanted_at F rfl (t := 61) (b := false) (by kernel_rfl) rfl]; rfl) 67 rfl (by decide) (.int .i64 n.conn) (fun w9 hS => (by intro a' F'; have h66 := F'.at' 66 _ rfl; have hc : w9.cell? ⟨B, 2, none⟩ = some (.int .i64 n.conn) := hS.1.cells 2; go_simp)) ?_
  clear F a9
  intro a9 F
  refine fr_takeG (i := 14) (o := ⟨some 68, _, _, _, _, _⟩) F ⟨HK.at 0 rfl, (HMO.st x (find_mem HX).1).box⟩ rfl (by rw [wanted_at F rfl (t := 61) (b := false) (by kernel_rfl) rfl]; rfl) 68 rfl (by decide) (.bool false) (fun w9 hS => (by intro a' F'; have h65 := F'.at' 65 _ rfl; have h67 := F'.at' 67 _ rfl; go_simp)) ?_
  clear F a9
  intro a9 F
  refine fr_chT F [15] [(69, .bool false)] ⟨HK.at 0 rfl, (HMO.st x (find_mem HX).1).box⟩ (by kernel_rfl) ?_
  clear F a9
  intro a9 F
  refine AnyT.done (by kernel_rfl) ?_ _
  refine NoPanic.normal ?_
  show Code.wp _ _ _ _ _
  refine wp_cond_false (F.ev 69 rfl) ?_
  refine wp_skip ?_
  show Code.wp _ _ _ _ _
  replace F := F.cut [(7, .pointer (some ⟨x.s, 0, none⟩)), (6, .bool false), (5, .bool false), (4, .string ⟨#[]⟩), (3, .pointer (some ⟨B, 0, none⟩)), (0, .pointer (some ⟨m, 0, none⟩))] (by kernel_rfl)
  refine wp_seq ?_
  refine wp_seq ?_
  refine wp_region_lit ?_
  refine fr_ch F 2 [(71, .pointer (some ⟨B, 4, none⟩))] (by kernel_rfl) ?_
  clear F a9
  intro a9 F
  refine fr_do F (wanted_free rfl) 72 rfl (by decide) (.int .u8 (n.p.ty : Int)) (by intro a' F'; have hc : w9.cell? ⟨B, 4, none⟩ = some (.int .u8 (n.p.ty : Int)) := (HK.at 0 rfl).cells 4; have h71 := F'.at' 71 _ rfl; go_simp) ?_
  clear F a9
  intro a9 F
  refine wpList_nil ?_
  show Code.wp _ _ _ _ _
  replace F := F.cut [(72, .int .u8 (n.p.ty : Int)), (7, .pointer (some ⟨x.s, 0, none⟩)), (6, .bool false), (5, .bool false), (4, .string ⟨#[]⟩), (3, .pointer (some ⟨B, 0, none⟩)), (0, .pointer (some ⟨m, 0, none⟩))] (by kernel_rfl)
  refine wp_block ?_
  refine wp_seq ?_
  refine wp_region_lit ?_
  refine fr_do F (wanted_free rfl) 74 rfl (by decide) (.bool false) (by intro a' F'; have h72 := F'.at' 72 _ rfl; go_simp <;> omega) ?_
  clear F a9
  intro a9 F
  refine fr_ch F 1 [(73, .bool false)] (by kernel_rfl) ?_
  clear F a9
  intro a9 F
  refine wpList_nil ?_
  show Code.wp _ _ _ _ _
  refine wp_cond_false (F.ev 73 rfl) ?_
  replace F := F.cut [(72, .int .u8 (n.p.ty : Int)), (7, .pointer (some ⟨x.s, 0, none⟩)), (6, .bool false), (5, .bool false), (4, .string ⟨#[]⟩), (3, .pointer (some ⟨B, 0, none⟩)), (0, .pointer (some ⟨m, 0, none⟩))] (by kernel_rfl)
  refine wp_seq ?_
  refine wp_region_lit ?_
  refine fr_do F (wanted_free rfl) 104 rfl (by decide) (.bool false) (by intro a' F'; have h72 := F'.at' 72 _ rfl; go_simp <;> omega) ?_
  clear F a9
  intro a9 F
  refine fr_ch F 1 [(103, .bool false)] (by kernel_rfl) ?_
  clear F a9
  intro a9 F
  refine wpList_nil ?_
  show Code.wp _ _ _ _ _
  refine wp_cond_false (F.ev 103 rfl) ?_
  replace F := F.cut [(72, .int .u8 (n.p.ty : Int)), (7, .pointer (some ⟨x.s, 0, none⟩)), (6, .bool false), (5, .bool false), (4, .string ⟨#[]⟩), (3, .pointer (some ⟨B, 0, none⟩)), (0, .pointer (some ⟨m, 0, none⟩))] (by kernel_rfl)
  refine wp_seq ?_
  refine wp_seq ?_
  refine wp_region_lit ?_
  refine fr_do F (wanted_free rfl) 122 rfl (by decide) (.bool false) (by intro a' F'; have h72 := F'.at' 72 _ rfl; go_simp <;> omega) ?_
  clear F a9
  intro a9 F
  refine fr_ch F 1 [(121, .bool false)] (by kernel_rfl) ?_
  clear F a9
  intro a9 F
  refine wpList_nil ?_
  show Code.wp _ _ _ _ _
  replace F := F.cut [(121, .bool false), (72, .int .u8 (n.p.ty : Int)), (7, .pointer (some ⟨x.s, 0, none⟩)), (6, .bool false), (5, .bool false), (4, .string ⟨#[]⟩), (3, .pointer (some ⟨B, 0, none⟩)), (0, .pointer (some ⟨m, 0, none⟩))] (by kernel_rfl)
  refine wp_cond_false (F.ev 121 rfl) ?_
  refine wp_region_lit ?_
  refine fr_do F (wanted_free rfl) 123 rfl (by decide) (.bool false) (by intro a' F'; have h72 := F'.at' 72 _ rfl; go_simp) ?_
  clear F a9
  intro a9 F
  refine fr_ch F 1 [(121, .bool false)] (by kernel_rfl) ?_
  clear F a9
  intro a9 F
  refine wpList_nil ?_
  show Code.wp _ _ _ _ _
  replace F := F.cut [(121, .bool false), (72, .int .u8 (n.p.ty : Int)), (7, .pointer (some ⟨x.s, 0, none⟩)), (6, .bool false), (5, .bool false), (4, .string ⟨#[]⟩), (3, .pointer (some ⟨B, 0, none⟩)), (0, .pointer (some ⟨m, 0, none⟩))] (by kernel_rfl)
  refine wp_cond_false (F.ev 121 rfl) ?_
  refine wp_seq ?_
  refine wp_region_lit ?_
  refine fr_ch F 3 [(6, .bool false), (5, .bool false), (4, .string ⟨#[]⟩)] (by kernel_rfl) ?_
  clear F a9
  intro a9 F
  refine wpList_nil ?_
  show Code.wp _ _ _ _ _
  have HA : applyS (absL L) n = ((e0, false, false), absL L) := by unfold applyS; rw [if_neg (by omega), if_neg (by omega), if_neg hty, absL_some HX]; dsimp only; rw [if_neg (by rintro (h | h); exact hc h; exact h hxc), if_neg h8, if_neg h10, if_neg (by rintro (h | h); exact h14 h; exact h0 h)]
  refine wp_ret ?_
  exact fr_ret3t F rfl _ _ _ rfl rfl rfl (FIN.out _ _ _ L _ (by rw [HA]; rfl) (by rw [HA]) (by rw [HA]) (by rw [HA]) ⟨HMO, HK.sub (List.nil_sublist _) (fun r hr => hr), HON, fun k hk => Or.inl hk⟩)
theorem run_mkS {P : Program} {w w' : World} {o : Oper} {ρ : Operand → Value} {t : TypeId} {x y : Operand} {l c v : Value} (ho : o.op = .makeSlice t x y) (hx : ρ x = l) (hy : ρ y = c) (h : (Instr.makeSlice t l c).run P w = .ok v w') : (execOp ρ o).run P w = .ok (.value v) w' := by
  unfold execOp
  simp only [ho, hx, hy, Sem.run_bind, h, Result.andThen_ok, Sem.run_pure]
set_option maxRecDepth 100000 in
set_option maxHeartbeats 4000000 in
theorem apply_set {w0 w : World} {m M K KM : Nat} {L : List St} (n : Nt) (a : Option Addr) (c : Nat) (HK : Keep w0 [] [] w) (HMO : MoAt w w0.heap.size m M K KM L) (hk : n.kind = 2) (hty : n.p.ty ≠ 1) {x : St} (HX : findL L n.client = some x) (hc : ¬ n.conn < 1) (hxc : x.conn = n.conn) (HR : CellsA w0 a (subCells n.p.subs)) (hsm : SmallS n.p.subs) (hfew : n.p.subs.length ≤ 20) (h8 : n.p.ty = 8) (hww : w0.heap.size ≤ w.heap.size) : Calls Tryd.prog 21 #[.pointer (some ⟨m, 0, none⟩), .agg (ntV n a c)] w fun e w' => ∃ L', e = .returned (.tuple #[.string (applyS (absL L) n).1.1, .bool (applyS (absL L) n).1.2.1, .bool (applyS (absL L) n).1.2.2]) ∧ absL L' = (applyS (absL L) n).2 ∧ MOut w0 w m M K KM L L' w' := by
  obtain ⟨RR, hRR⟩ : ∃ RR : Ending → World → Prop, RR = fun e w' => ∃ L', e = .returned (.tuple #[.string (applyS (absL L) n).1.1, .bool (applyS (absL L) n).1.2.1, .bool (applyS (absL L) n).1.2.2]) ∧ absL L' = (applyS (absL L) n).2 ∧ MOut w0 w m M K KM L L' w' := ⟨_, rfl⟩
  have FIN := Lib.hid (show ∀ s p o' L' w', s = (applyS (absL L) n).1.1 → p = (applyS (absL L) n).1.2.1 → o' = (applyS (absL L) n).1.2.2 → absL L' = (applyS (absL L) n).2 → MOut w0 w m M K KM L L' w' → RR (.returned (.tuple #[.string s, .bool p, .bool o'])) w' from fun s p o' L' w' h0 h1 h2 h3 h4 => by rw [hRR, h0, h1, h2]; exact ⟨L', rfl, h3, h4⟩)
  rw [← hRR]
  have HND := Lib.hid HMO.nd
  have HF0 := Lib.hid (fun k hk => HMO.foot (k := k) hk)
  obtain ⟨w9, hw9⟩ : ∃ w9, w9 = w := ⟨_, rfl⟩
  have HON : Only (FootM m M K KM L) w w9 := by rw [hw9]; exact Only.refl _ _
  rw [← hw9] at HK HMO
  suffices hgo : Calls Tryd.prog 21 #[.pointer (some ⟨m, 0, none⟩), .agg (ntV n a c)] w9 RR by rw [hw9] at hgo; exact hgo
  clear hw9 hRR
  go_enter Tryd.func21, Tryd.ntmps21
  refine wp_forget (n := 137) (L := [(1, .agg (ntV n a c)), (0, .pointer (some ⟨m, 0, none⟩))]) (FrL.add (FrL.add (FrL.nil ?_ ?_) _ _ ?_) _ _ ?_) ?_
  iterate 4 rfl
  intro a9 F
  refine wp_seq ?_
  refine wp_region_lit ?_
  refine fr_box F HK 3 (by decide) rfl 35 _ rfl rfl (ntV n a c) (fun a' F' => F'.ev 1 rfl) ?_
  rintro B a10 w10 hX F' HK' hb
  replace HMO := HMO.below hb
  replace HON := HON.then hb
  clear HK F hb hX
  clear a9 w9
  rename World => w9
  rename Act => a9
  have HK := HK'
  have F := F'
  clear HK' F'
  replace HK : Keep w0 [(B, (ntV n a c), 35)] [] w9 := HK
  refine fr_ch F 3 [(6, .bool false), (5, .bool false), (4, .string ⟨#[]⟩)] (by kernel_rfl) ?_
  clear F a9
  intro a9 F
  refine wpList_nil ?_
  show Code.wp _ _ _ _ _
  replace F := F.cut [(6, .bool false), (5, .bool false), (4, .string ⟨#[]⟩), (3, .pointer (some ⟨B, 0, none⟩)), (0, .pointer (some ⟨m, 0, none⟩))] (by kernel_rfl)
  refine wp_seq ?_
  refine wp_seq ?_
  refine wp_region_lit ?_
  refine fr_ch F 6 [(18, .pointer (some ⟨m, 0, none⟩)), (15, .bool false), (14, .bool false), (13, .pointer (some ⟨m, 0, none⟩))] (by kernel_rfl) ?_
  clear F a9
  intro a9 F
  refine fr_do F (by rw [wanted_at F rfl (t := 15) (b := false) (by kernel_rfl) rfl]; rfl) 19 rfl (by decide) (.map (some M)) (by intro a' F'; have h18 := F'.at' 18 _ rfl; have hc : w9.cell? ⟨m, 0, none⟩ = some (.map (some M)) := HMO.box.cells 0; go_simp) ?_
  clear F a9
  intro a9 F
  refine fr_do F (by rw [wanted_at F rfl (t := 15) (b := false) (by kernel_rfl) rfl]; rfl) 20 rfl (by decide) (.bool false) (fun a' F' => op_map_nil rfl (F'.ev 19 rfl) rfl) ?_
  clear F a9
  intro a9 F
  refine fr_ch F 1 [(21, .bool false)] (by kernel_rfl) ?_
  clear F a9
  intro a9 F
  refine wpList_nil ?_
  show Code.wp _ _ _ _ _
  refine wp_cond_false (F.ev 21 rfl) ?_
  refine wp_skip ?_
  show Code.wp _ _ _ _ _
  replace F := F.cut [(6, .bool false), (5, .bool false), (4, .string ⟨#[]⟩), (3, .pointer (some ⟨B, 0, none⟩)), (0, .pointer (some ⟨m, 0, none⟩))] (by kernel_rfl)
  refine wp_seq ?_
  refine wp_block ?_
  refine wp_seq ?_
  refine wp_region_lit ?_
  refine fr_ch F 1 [(23, .pointer (some ⟨B, 0, none⟩))] (by kernel_rfl) ?_
  clear F a9
  intro a9 F
  refine fr_do F (wanted_free rfl) 24 rfl (by decide) (.int .u8 (n.kind : Int)) (by intro a' F'; have hc : w9.cell? ⟨B, 0, none⟩ = some (.int .u8 (n.kind : Int)) := (HK.at 0 rfl).cells 0; have h23 := F'.at' 23 _ rfl; go_simp) ?_
  clear F a9
  intro a9 F
  refine fr_do F (wanted_free rfl) 25 rfl (by decide) (.bool false) (by intro a' F'; have h24 := F'.at' 24 _ rfl; go_simp) ?_
  clear F a9
  intro a9 F
  refine fr_ch F 1 [(22, .bool false)] (by kernel_rfl) ?_
  clear F a9
  intro a9 F
  refine wpList_nil ?_
  show Code.wp _ _ _ _ _
  refine wp_cond_false (F.ev 22 rfl) ?_
  replace F := F.cut [(6, .bool false), (5, .bool false), (4, .string ⟨#[]⟩), (3, .pointer (some ⟨B, 0, none⟩)), (0, .pointer (some ⟨m, 0, none⟩))] (by kernel_rfl)
  refine wp_seq ?_
  refine wp_region_lit ?_
  refine fr_ch F 1 [(34, .pointer (some ⟨B, 0, none⟩))] (by kernel_rfl) ?_
  clear F a9
  intro a9 F
  refine fr_do F (wanted_free rfl) 35 rfl (by decide) (.int .u8 (n.kind : Int)) (by intro a' F'; have hc : w9.cell? ⟨B, 0, none⟩ = some (.int .u8 (n.kind : Int)) := (HK.at 0 rfl).cells 0; have h34 := F'.at' 34 _ rfl; go_simp) ?_
  clear F a9
  intro a9 F
  refine fr_do F (wanted_free rfl) 36 rfl (by decide) (.bool false) (by intro a' F'; have h35 := F'.at' 35 _ rfl; go_simp) ?_
  clear F a9
  intro a9 F
  refine fr_ch F 1 [(33, .bool false)] (by kernel_rfl) ?_
  clear F a9
  intro a9 F
  refine wpList_nil ?_
  show Code.wp _ _ _ _ _
  refine wp_cond_false (F.ev 33 rfl) ?_
  replace F := F.cut [(6, .bool false), (5, .bool false), (4, .string ⟨#[]⟩), (3, .pointer (some ⟨B, 0, none⟩)), (0, .pointer (some ⟨m, 0, none⟩))] (by kernel_rfl)
  refine wp_seq ?_
  refine wp_region_lit ?_
  refine fr_ch F 2 [(39, .pointer (some ⟨B, 4, none⟩))] (by kernel_rfl) ?_
  clear F a9
  intro a9 F
  refine fr_do F (wanted_free rfl) 40 rfl (by decide) (.int .u8 (n.p.ty : Int)) (by intro a' F'; have hc : w9.cell? ⟨B, 4, none⟩ = some (.int .u8 (n.p.ty : Int)) := (HK.at 0 rfl).cells 4; have h39 := F'.at' 39 _ rfl; go_simp) ?_
  clear F a9
  intro a9 F
  refine fr_do F (wanted_free rfl) 41 rfl (by decide) (.bool false) (by intro a' F'; have h40 := F'.at' 40 _ rfl; go_simp) ?_
  clear F a9
  intro a9 F
  refine fr_ch F 1 [(37, .bool false)] (by kernel_rfl) ?_
  clear F a9
  intro a9 F
  refine wpList_nil ?_
  show Code.wp _ _ _ _ _
  refine wp_cond_false (F.ev 37 rfl) ?_
  replace F := F.cut [(6, .bool false), (5, .bool false), (4, .string ⟨#[]⟩), (3, .pointer (some ⟨B, 0, none⟩)), (0, .pointer (some ⟨m, 0, none⟩))] (by kernel_rfl)
  refine wp_skip ?_
  show Code.wp _ _ _ _ _
  refine wp_seq ?_
  refine wp_region_lit ?_
  refine fr_ch F 2 [(51, .pointer (some ⟨B, 3, none⟩)), (50, .pointer (some ⟨m, 0, none⟩))] (by kernel_rfl) ?_
  clear F a9
  intro a9 F
  refine fr_do F (wanted_free rfl) 52 rfl (by decide) (.string n.client) (by intro a' F'; have hc : w9.cell? ⟨B, 3, none⟩ = some (.string n.client) := (HK.at 0 rfl).cells 3; have h51 := F'.at' 51 _ rfl; go_simp) ?_
  clear F a9
  intro a9 F
  refine fr_call F (wanted_free rfl) 53 rfl (by decide) 43 #[.pointer (some ⟨m, 0, none⟩), .string n.client] (by intro a' F'; have h50 := F'.at' 50 _ rfl; have h52 := F'.at' 52 _ rfl; go_simp) (model_seat w9 n.client HMO) ?_
  rintro e9 w8 ⟨rfl, rfl⟩
  rw [HX]
  refine ⟨_, rfl, ?_⟩
  clear F a9
  intro a9 F
  refine fr_as F (wanted_free rfl) 7 rfl (by decide) 53 rfl rfl ?_
  clear F a9
  intro a9 F
  refine wpList_nil ?_
  show Code.wp _ _ _ _ _
  replace F := F.cut [(7, .pointer (some ⟨x.s, 0, none⟩)), (6, .bool false), (5, .bool false), (4, .string ⟨#[]⟩), (3, .pointer (some ⟨B, 0, none⟩)), (0, .pointer (some ⟨m, 0, none⟩))] (by kernel_rfl)
  refine wp_seq ?_
  refine wp_seq ?_
  refine wp_region_noPanic ?_
  have hb8 : Below w9.heap.size w9 w9.drew := below_draws (n := 1) rfl
  replace HK := HK.below hb8
  replace HMO := HMO.below hb8
  replace HON := HON.then hb8
  clear hb8
  refine AnyT.begin (S := fun w' => BoxAt w' B (ntV n a c) 35 ∧ BoxAt w' x.s (stV x) 74) (z := 1000) (by kernel_rfl) ⟨HK.at 0 rfl, (HMO.st x (find_mem HX).1).box⟩ (fun hS0 => ?_)
  clear hS0
  generalize w9.drew = w8 at *
  clear w9
  rename World => w9
  refine fr_chT F [0, 1, 2, 3] [(57, .pointer (some ⟨B, 2, none⟩)), (56, .bool false), (55, .bool false), (54, .pointer (some ⟨x.s, 0, none⟩))] ⟨HK.at 0 rfl, (HMO.st x (find_mem HX).1).box⟩ (by kernel_rfl) ?_
  clear F a9
  intro a9 F
  refine fr_takeG (i := 4) (o := ⟨some 58, _, _, _, _, _⟩) F ⟨HK.at 0 rfl, (HMO.st x (find_mem HX).1).box⟩ rfl (by rw [wanted_at F rfl (t := 56) (b := false) (by kernel_rfl) rfl]; rfl) 58 rfl (by decide) (.int .i64 n.conn) (fun w9 hS => (by intro a' F'; have h57 := F'.at' 57 _ rfl; have hc : w9.cell? ⟨B, 2, none⟩ = some (.int .i64 n.conn) := hS.1.cells 2; go_simp)) ?_
  clear F a9
  intro a9 F
  refine fr_takeG (i := 5) (o := ⟨some 59, _, _, _, _, _⟩) F ⟨HK.at 0 rfl, (HMO.st x (find_mem HX).1).box⟩ rfl (by rw [wanted_at F rfl (t := 56) (b := false) (by kernel_rfl) rfl]; rfl) 59 rfl (by decide) (.bool false) (fun w9 hS => (by intro a' F'; have h58 := F'.at' 58 _ rfl; go_simp)) ?_
  clear F a9
  intro a9 F
  refine fr_chT F [6, 7, 8, 9, 10] [(64, .pointer (some ⟨x.s, 1, none⟩)), (63, .pointer (some ⟨x.s, 0, none⟩)), (62, .pointer (some ⟨x.s, 0, none⟩)), (61, .bool false), (60, .bool false)] ⟨HK.at 0 rfl, (HMO.st x (find_mem HX).1).box⟩ (by kernel_rfl) ?_
  clear F a9
  intro a9 F
  refine fr_takeG (i := 11) (o := ⟨some 65, _, _, _, _, _⟩) F ⟨HK.at 0 rfl, (HMO.st x (find_mem HX).1).box⟩ rfl (by rw [wanted_at F rfl (t := 61) (b := false) (by kernel_rfl) rfl]; rfl) 65 rfl (by decide) (.int .i64 x.conn) (fun w9 hS => (by intro a' F'; have h64 := F'.at' 64 _ rfl; have hc : w9.cell? ⟨x.s, 1, none⟩ = some (.int .i64 x.conn) := hS.2.cells 1; go_simp)) ?_
  clear F a9
  intro a9 F
  refine fr_chT F [12] [(66, .pointer (some ⟨B, 2, none⟩))] ⟨HK.at 0 rfl, (HMO.st x (find_mem HX).1).box⟩ (by kernel_rfl) ?_
  clear F a9
  intro a9 F
  refine fr_takeG (i := 13) (o := ⟨some 67, _, _, _, _, _⟩) F ⟨HK.at 0 rfl, (HMO.st x (find_mem HX).1).box⟩ rfl (by rw [wanted_at F rfl (t := 61) (b := false) (by kernel_rfl) rfl]; rfl) 67 rfl (by decide) (.int .i64 n.conn) (fun w9 hS => (by intro a' F'; have h66 := F'.at' 66 _ rfl; have hc : w9.cell? ⟨B, 2, none⟩ = some (.int .i64 n.conn) := hS.1.cells 2; go_simp)) ?_
  clear F a9
  intro a9 F
  refine fr_takeG (i := 14) (o := ⟨some 68, _, _, _, _, _⟩) F ⟨HK.at 0 rfl, (HMO.st x (find_mem HX).1).box⟩ rfl (by rw [wanted_at F rfl (t := 61) (b := false) (by kernel_rfl) rfl]; rfl) 68 rfl (by decide) (.bool false) (fun w9 hS => (by intro a' F'; have h65 := F'.at' 65 _ rfl; have h67 := F'.at' 67 _ rfl; go_simp)) ?_
  clear F a9
  intro a9 F
  refine fr_chT F [15] [(69, .bool false)] ⟨HK.at 0 rfl, (HMO.st x (find_mem HX).1).box⟩ (by kernel_rfl) ?_
  clear F a9
  intro a9 F
  refine AnyT.done (by kernel_rfl) ?_ _
  refine NoPanic.normal ?_
  show Code.wp _ _ _ _ _
  refine wp_cond_false (F.ev 69 rfl) ?_
  refine wp_skip ?_
  show Code.wp _ _ _ _ _
  replace F := F.cut [(7, .pointer (some ⟨x.s, 0, none⟩)), (6, .bool false), (5, .bool false), (4, .string ⟨#[]⟩), (3, .pointer (some ⟨B, 0, none⟩)), (0, .pointer (some ⟨m, 0, none⟩))] (by kernel_rfl)
  refine wp_seq ?_
  refine wp_seq ?_
  refine wp_region_lit ?_
  refine fr_ch F 2 [(71, .pointer (some ⟨B, 4, none⟩))] (by kernel_rfl) ?_
  clear F a9
  intro a9 F
  refine fr_do F (wanted_free rfl) 72 rfl (by decide) (.int .u8 (n.p.ty : Int)) (by intro a' F'; have hc : w9.cell? ⟨B, 4, none⟩ = some (.int .u8 (n.p.ty : Int)) := (HK.at 0 rfl).cells 4; have h71 := F'.at' 71 _ rfl; go_simp) ?_
  clear F a9
  intro a9 F
  refine wpList_nil ?_
  show Code.wp _ _ _ _ _
  replace F := F.cut [(72, .int .u8 (n.p.ty : Int)), (7, .pointer (some ⟨x.s, 0, none⟩)), (6, .bool false), (5, .bool false), (4, .string ⟨#[]⟩), (3, .pointer (some ⟨B, 0, none⟩)), (0, .pointer (some ⟨m, 0, none⟩))] (by kernel_rfl)
  refine wp_block ?_
  refine wp_seq ?_
  refine wp_region_lit ?_
  refine fr_do F (wanted_free rfl) 74 rfl (by decide) (.bool true) (by intro a' F'; have h72 := F'.at' 72 _ rfl; go_simp) ?_
  clear F a9
  intro a9 F
  refine fr_ch F 1 [(73, .bool true)] (by kernel_rfl) ?_
  clear F a9
  intro a9 F
  refine wpList_nil ?_
  show Code.wp _ _ _ _ _
  refine wp_cond_true (F.ev 73 rfl) ?_
  replace F := F.cut [(72, .int .u8 (n.p.ty : Int)), (7, .pointer (some ⟨x.s, 0, none⟩)), (6, .bool false), (5, .bool false), (4, .string ⟨#[]⟩), (3, .pointer (some ⟨B, 0, none⟩)), (0, .pointer (some ⟨m, 0, none⟩))] (by kernel_rfl)
  refine wp_seq ?_
  refine wp_region_lit ?_
  refine fr_ch F 2 [(76, .pointer (some ⟨B, 26, none⟩))] (by kernel_rfl) ?_
  clear F a9
  intro a9 F
  refine fr_do F (wanted_free rfl) 77 rfl (by decide) (.slice a n.p.subs.length c) (by intro a' F'; have hc : w9.cell? ⟨B, 26, none⟩ = some (.slice a n.p.subs.length c) := (HK.at 0 rfl).cells 26; have h76 := F'.at' 76 _ rfl; go_simp) ?_
  clear F a9
  intro a9 F
  refine fr_ch F 1 [(78, .int .i64 (n.p.subs.length : Int))] (by kernel_rfl) ?_
  clear F a9
  intro a9 F
  obtain ⟨i0, hi, hz0, hz1, hz2⟩ := info_parts infoB8
  obtain ⟨w7, hr7, HO8, hg7⟩ := run_makeSlice_owned (P := Tryd.prog) (w := w9) w.heap.size 75 5 i0 (.int .u8 0) 1 Tryd.underlying75 hi hz0 hz1 .i64 .i64 n.p.subs.length (by omega) (by rw [hz2]; omega) (by unfold maxLen; omega) HON.size
  obtain ⟨v8, hv8⟩ : ∃ v8, Value.slice (some ⟨w9.heap.size, 0, none⟩) 0 n.p.subs.length = v8 := ⟨_, rfl⟩
  rw [hv8] at hr7 HO8
  refine fr_doW F (wanted_free rfl) 79 rfl (by decide) v8 w7 (fun a' F' => run_mkS rfl rfl (F'.ev 78 rfl) hr7) ?_
  clear F a9
  intro a9 F
  have hb8 : Below w9.heap.size w9 w7 := Below.grown' (Below.refl _ _) hg7 (Nat.le_refl _) (fun g hg => by cases hg)
  replace HK := HK.below hb8
  replace HMO := HMO.below hb8
  replace HON := HON.then hb8
  clear hr7 hg7 hb8 hv8 hi hz0 hz1 hz2 i0
  clear w9
  rename World => w9
  refine fr_as F (wanted_free rfl) 8 rfl (by decide) 79 rfl rfl ?_
  clear F a9
  intro a9 F
  refine wpList_nil ?_
  show Code.wp _ _ _ _ _
  replace F := F.cut [(8, v8), (7, .pointer (some ⟨x.s, 0, none⟩)), (6, .bool false), (5, .bool false), (4, .string ⟨#[]⟩), (3, .pointer (some ⟨B, 0, none⟩)), (0, .pointer (some ⟨m, 0, none⟩))] (by kernel_rfl)
  have hw0 : w0.heap.size ≤ w.heap.size := hww
  refine wp_seq ?_
  refine wp_seq ?_
  refine wp_region_lit ?_
  refine fr_ch F 2 [(81, .pointer (some ⟨B, 26, none⟩))] (by kernel_rfl) ?_
  clear F a9
  intro a9 F
  refine fr_do F (wanted_free rfl) 82 rfl (by decide) (.slice a n.p.subs.length c) (by intro a' F'; have hc : w9.cell? ⟨B, 26, none⟩ = some (.slice a n.p.subs.length c) := (HK.at 0 rfl).cells 26; have h81 := F'.at' 81 _ rfl; go_simp) ?_
  clear F a9
  intro a9 F
  refine fr_ch F 2 [(84, .int .i64 0), (83, .int .i64 (n.p.subs.length : Int))] (by kernel_rfl) ?_
  clear F a9
  intro a9 F
  refine wpList_nil ?_
  show Code.wp _ _ _ _ _
  replace F := F.cut [(84, .int .i64 ((0 : Nat) : Int)), (83, .int .i64 (n.p.subs.length : Int)), (82, .slice a n.p.subs.length c), (8, v8), (7, .pointer (some ⟨x.s, 0, none⟩)), (6, .bool false), (5, .bool false), (4, .string ⟨#[]⟩), (3, .pointer (some ⟨B, 0, none⟩)), (0, .pointer (some ⟨m, 0, none⟩))] (by kernel_rfl)
  clear HF0
  have HF1 := Lib.hid HX
  refine wp_block_end (fun a' w' => ∃ (vv v8 : Value) (kk : Nat), FrL 137 [(84, .int .i64 (kk : Int)), (83, .int .i64 (n.p.subs.length : Int)), (82, .slice a n.p.subs.length c), (8, v8), (7, .pointer (some ⟨x.s, 0, none⟩)), (6, .bool false), (5, .bool false), (4, .string ⟨#[]⟩), (3, .pointer (some ⟨B, 0, none⟩)), (0, .pointer (some ⟨m, 0, none⟩))] a' ∧ MoAt w' w0.heap.size m M K KM (putL L { x with v := vv, S := (setAll x.S (n.p.subs.take n.p.subs.length)).2 }) ∧ Keep w0 [(B, ntV n a c, 35)] [] w' ∧ Only (FootM m M K KM L) w w' ∧ (∀ r, vv.ownBlock = some r → x.v.ownBlock = some r ∨ w.heap.size ≤ r) ∧ w'.ownsRow w.heap.size 5 1 v8 n.p.subs.length (natV (setAll x.S (n.p.subs.take n.p.subs.length)).1)) ?_ ?_
  · skip
    refine wp_loop (fun a' w' => ∃ k : Nat, k ≤ n.p.subs.length ∧ ∃ (vv v8 : Value), FrL 137 [(84, .int .i64 (k : Int)), (83, .int .i64 (n.p.subs.length : Int)), (82, .slice a n.p.subs.length c), (8, v8), (7, .pointer (some ⟨x.s, 0, none⟩)), (6, .bool false), (5, .bool false), (4, .string ⟨#[]⟩), (3, .pointer (some ⟨B, 0, none⟩)), (0, .pointer (some ⟨m, 0, none⟩))] a' ∧ MoAt w' w0.heap.size m M K KM (putL L { x with v := vv, S := (setAll x.S (n.p.subs.take k)).2 }) ∧ Keep w0 [(B, ntV n a c, 35)] [] w' ∧ Only (FootM m M K KM L) w w' ∧ (∀ r, vv.ownBlock = some r → x.v.ownBlock = some r ∨ w.heap.size ≤ r) ∧ w'.ownsRow w.heap.size 5 1 v8 k (natV (setAll x.S (n.p.subs.take k)).1)) (fun a' _ => muI n.p.subs.length 84 a') ⟨0, Nat.zero_le _, x.v, _, F, (show MoAt w9 w0.heap.size m M K KM (putL L x) from by rw [put_self HX]; exact HMO), HK, HON, fun r hr => Or.inl hr, HO8⟩ ?_
    clear F a9 HK HMO HON HO8 w9
    rintro a9 w9 ⟨k, hkl, vv, v8, F, HMO, HK, HON, hvv, HO8⟩
    rw [muI_at F 84 k rfl]
    refine wp_seq ?_
    by_cases hlt : k < n.p.subs.length
    · skip
      refine wp_region_lit ?_
      refine fr_do F (wanted_free rfl) 85 rfl (by decide) (.bool true) (by intro a' F'; have h84 := F'.at' 84 _ rfl; have h83 := F'.at' 83 _ rfl; go_simp) ?_
      clear F a9
      intro a9 F
      refine wpList_nil ?_
      show Code.wp _ _ _ _ _
      refine wp_seq ?_
      refine wp_cond_true (F.ev 85 rfl) ?_
      refine wp_skip ?_
      show Code.wp _ _ _ _ _
      replace F := F.cut [(84, .int .i64 (k : Int)), (83, .int .i64 (n.p.subs.length : Int)), (82, .slice a n.p.subs.length c), (8, v8), (7, .pointer (some ⟨x.s, 0, none⟩)), (6, .bool false), (5, .bool false), (4, .string ⟨#[]⟩), (3, .pointer (some ⟨B, 0, none⟩)), (0, .pointer (some ⟨m, 0, none⟩))] (by kernel_rfl)
      obtain ⟨x1, hx1⟩ : ∃ x1, n.p.subs[k]? = some x1 := ⟨_, List.getElem?_eq_getElem hlt⟩
      obtain ⟨hx300, hxq⟩ := hsm x1 (List.mem_of_getElem? hx1)
      obtain ⟨bb, oo, hal, hrg⟩ := sub_range (HR.below HK.low) hx1
      have htk : n.p.subs.take (k + 1) = n.p.subs.take k ++ [x1] := by rw [List.take_add_one, hx1]; rfl
      refine wp_seq ?_
      refine wp_block_end (fun a' w' => ∃ (vv v8 : Value), FrL 137 [(84, .int .i64 (k : Int)), (83, .int .i64 (n.p.subs.length : Int)), (82, .slice a n.p.subs.length c), (8, v8), (7, .pointer (some ⟨x.s, 0, none⟩)), (6, .bool false), (5, .bool false), (4, .string ⟨#[]⟩), (3, .pointer (some ⟨B, 0, none⟩)), (0, .pointer (some ⟨m, 0, none⟩))] a' ∧ MoAt w' w0.heap.size m M K KM (putL L { x with v := vv, S := (setAll x.S (n.p.subs.take (k + 1))).2 }) ∧ Keep w0 [(B, ntV n a c, 35)] [] w' ∧ Only (FootM m M K KM L) w w' ∧ (∀ r, vv.ownBlock = some r → x.v.ownBlock = some r ∨ w.heap.size ≤ r) ∧ w'.ownsRow w.heap.size 5 1 v8 (k + 1) (natV (setAll x.S (n.p.subs.take (k + 1))).1)) ?_ ?_
      · skip
        refine wp_seq ?_
        refine wp_region_lit ?_
        refine fr_do F (wanted_free rfl) 86 rfl (by decide) (.pointer (some ⟨bb, oo + k * 2, none⟩)) (by intro a' F'; have h82 := F'.at' 82 _ rfl; have h84 := F'.at' 84 _ rfl; go_simp) ?_
        clear F a9
        intro a9 F
        refine fr_do F (wanted_free rfl) 87 rfl (by decide) (.agg #[.string x1.1, .int .u8 (x1.2 : Int)]) (fun a' F' => run_load_midF 77 _ rfl bb (oo + k * 2) (F'.ev 86 rfl) [.string x1.1, .int .u8 (x1.2 : Int)] _ hrg Tryd.underlying77 rfl infoSubS) ?_
        clear F a9
        intro a9 F
        clear hrg
        obtain ⟨i0, hi, hz0, hz1, hz2⟩ := info_parts infoSub
        refine fr_new F HK 10 (by decide) rfl 77 rfl rfl rfl (.tmp 87) rfl rfl i0 _ hi hz0 (cells := #[.string x1.1, .int .u8 (x1.2 : Int)]) hz1 rfl (sb_one x1) (fun a' Y F' => F'.ev 87 rfl) ?_
        rintro V a10 w10 hX F' HK' hb
        have hVF : ¬ FootM m M K KM (putL L { x with v := vv, S := (setAll x.S (n.p.subs.take k)).2 }) V := fun h => by have h2 := HMO.foot h; omega
        replace HMO := HMO.below hb
        replace HON := HON.then hb
        replace HO8 := own_only HO8 (Only.of_below hb (fun _ => False)) (fun _ _ h => h)
        clear HK F hb hX hi hz0 hz1 hz2 i0
        clear a9 w9
        rename World => w9
        rename Act => a9
        have HK := HK'
        have F := F'
        clear HK' F'
        replace HK : Keep w0 [(V, #[.string x1.1, .int .u8 (x1.2 : Int)], 77), (B, (ntV n a c), 35)] [] w9 := HK
        refine wpList_nil ?_
        show Code.wp _ _ _ _ _
        replace F := F.cut [(84, .int .i64 (k : Int)), (83, .int .i64 (n.p.subs.length : Int)), (82, .slice a n.p.subs.length c), (10, .pointer (some ⟨V, 0, none⟩)), (8, v8), (7, .pointer (some ⟨x.s, 0, none⟩)), (6, .bool false), (5, .bool false), (4, .string ⟨#[]⟩), (3, .pointer (some ⟨B, 0, none⟩)), (0, .pointer (some ⟨m, 0, none⟩))] (by kernel_rfl)
        have hfy := find_put_self L { x with v := vv, S := (setAll x.S (n.p.subs.take k)).2 }
        have hst := HMO.st _ (find_mem hfy).1
        have hsb : BoxAt w9 x.s (stV x) 74 := hst.box
        have hgx : BoxAt w9 V #[.string x1.1, .int .u8 (x1.2 : Int)] 77 := HK.at 0 rfl
        clear hsb hgx hst
        have hB0 : w0.heap.size ≤ w.heap.size := hw0
        refine wp_region_noPanic ?_
        have hb8 : Below w9.heap.size w9 w9.drew := below_draws (n := 1) rfl
        replace HK := HK.below hb8
        replace HMO := HMO.below hb8
        replace HON := HON.then hb8
        replace HO8 := own_only HO8 (Only.of_below hb8 (fun _ => False)) (fun _ _ h => h)
        clear hb8
        refine AnyT.begin (S := fun w' => BoxAt w' x.s (stV x) 74 ∧ BoxAt w' V #[.string x1.1, .int .u8 (x1.2 : Int)] 77) (z := 1000) (by kernel_rfl) ⟨(HMO.st _ (find_mem (find_put_self L { x with v := vv, S := (setAll x.S (n.p.subs.take k)).2 })).1).box, HK.at 0 rfl⟩ (fun hS0 => ?_)
        clear hS0
        generalize w9.drew = w8 at *
        clear w9
        rename World => w9
        refine fr_chT F [0, 1, 2, 3] [(91, .pointer (some ⟨x.s, 0, none⟩)), (90, .pointer (some ⟨x.s, 0, none⟩)), (89, .pointer (some ⟨x.s, 0, none⟩)), (88, v8)] ⟨(HMO.st _ (find_mem (find_put_self L { x with v := vv, S := (setAll x.S (n.p.subs.take k)).2 })).1).box, HK.at 0 rfl⟩ (by kernel_rfl) ?_
        clear F a9
        intro a9 F
        refine fr_takeG (i := 4) (o := ⟨some 92, _, _, _, _, _⟩) F ⟨(HMO.st _ (find_mem (find_put_self L { x with v := vv, S := (setAll x.S (n.p.subs.take k)).2 })).1).box, HK.at 0 rfl⟩ rfl (wanted_free rfl) 92 rfl (by decide) (.pointer (some ⟨x.g, 0, none⟩)) (fun w9 hS => (by intro a' F'; have h91 := F'.at' 91 _ rfl; have hc : w9.cell? ⟨x.s, 0, none⟩ = some (.pointer (some ⟨x.g, 0, none⟩)) := hS.1.cells 0; go_simp)) ?_
        clear F a9
        intro a9 F
        refine fr_chT F [5] [(93, .pointer (some ⟨V, 0, none⟩))] ⟨(HMO.st _ (find_mem (find_put_self L { x with v := vv, S := (setAll x.S (n.p.subs.take k)).2 })).1).box, HK.at 0 rfl⟩ (by kernel_rfl) ?_
        clear F a9
        intro a9 F
        refine fr_takeG (i := 6) (o := ⟨some 94, _, _, _, _, _⟩) F ⟨(HMO.st _ (find_mem (find_put_self L { x with v := vv, S := (setAll x.S (n.p.subs.take k)).2 })).1).box, HK.at 0 rfl⟩ rfl (wanted_free rfl) 94 rfl (by decide) (.string x1.1) (fun w9 hS => (by intro a' F'; have h93 := F'.at' 93 _ rfl; have hc : w9.cell? ⟨V, 0, none⟩ = some (.string x1.1) := hS.2.cells 0; go_simp)) ?_
        clear F a9
        intro a9 F
        refine fr_chT F [7] [(95, .pointer (some ⟨V, 1, none⟩))] ⟨(HMO.st _ (find_mem (find_put_self L { x with v := vv, S := (setAll x.S (n.p.subs.take k)).2 })).1).box, HK.at 0 rfl⟩ (by kernel_rfl) ?_
        clear F a9
        intro a9 F
        refine fr_takeG (i := 8) (o := ⟨some 96, _, _, _, _, _⟩) F ⟨(HMO.st _ (find_mem (find_put_self L { x with v := vv, S := (setAll x.S (n.p.subs.take k)).2 })).1).box, HK.at 0 rfl⟩ rfl (wanted_free rfl) 96 rfl (by decide) (.int .u8 (x1.2 : Int)) (fun w9 hS => (by intro a' F'; have h95 := F'.at' 95 _ rfl; have hc : w9.cell? ⟨V, 1, none⟩ = some (.int .u8 (x1.2 : Int)) := hS.2.cells 1; go_simp)) ?_
        clear F a9
        intro a9 F
        have hst := HMO.st _ (find_mem (find_put_self L { x with v := vv, S := (setAll x.S (n.p.subs.take k)).2 })).1
        have hBb : BoxAt w9 B (ntV n a c) 35 := HK.at 1 rfl
        have hsz9 := HON.size
        refine fr_stepC (i := 9) (o := ⟨some 97, _, _, _, _, _⟩) F rfl (wanted_free rfl) 97 rfl (by decide) 44 #[.pointer (some ⟨x.g, 0, none⟩), .string x1.1, .int .u8 (x1.2 : Int)] (by intro a' F'; have h92 := F'.at' 92 _ rfl; have h94 := F'.at' 94 _ rfl; have h96 := F'.at' 96 _ rfl; go_simp) (subs_Set w0.heap.size x.g vv (setAll x.S (n.p.subs.take k)).2 x1.1 x1.2 w9 HK.env hst.list hst.fine HK.size hx300 hxq) ?_
        rintro e9 w8 ⟨v2, rfl, hl2, ho2, hv2⟩
        have hFx : ∀ j, Foot x.g vv j → FootM m M K KM (putL L { x with v := vv, S := (setAll x.S (n.p.subs.take k)).2 }) j := fun j hj => FootM.seat (find_put_self L { x with v := vv, S := (setAll x.S (n.p.subs.take k)).2 }) (Or.inr hj)
        have hlo : ∀ j, Foot x.g vv j → w0.heap.size ≤ j := fun j hj => by
          rcases hj with rfl | hj
          · exact hst.list.lo
          · exact (hst.list.own.lt hj).2
        replace HK := HK.onlyF ho2 hlo (fun z hz => by
          rcases List.mem_cons.1 hz with rfl | hz
          · exact fun h => hVF (hFx _ h)
          · rw [List.mem_singleton.1 hz]; exact fun h => HMO.boxFar (by decide) hBb (hFx _ h))
        replace HO8 := own_only HO8 ho2 (fun j hj h => HMO.ownFar (by decide) HO8 hj (hFx _ h))
        replace HON := HON.trans ho2 (fun j hj h => by
          rcases h with rfl | h
          · exact FootM.seat HX (Or.inr (Or.inl rfl))
          · rcases hvv _ h with h3 | h3
            · exact FootM.seat HX (Or.inr (Or.inr h3))
            · omega)
        have hv3 : ∀ r, v2.ownBlock = some r → x.v.ownBlock = some r ∨ w.heap.size ≤ r := fun r hr => (hv2 r hr).elim (fun h => hvv r h) (fun h => Or.inr (Nat.le_trans hsz9 h))
        have HMO2 := HMO.list (find_put_self L { x with v := vv, S := (setAll x.S (n.p.subs.take k)).2 }) ho2 hl2 (setS_fine hst.fine _ _ hx300) hv2
        rw [put_put (by rfl)] at HMO2
        replace HMO := HMO2
        clear HMO2 hst hl2 ho2 hv2 hvv hFx hlo hVF hBb hsz9
        clear w9
        rename World => w9
        refine ⟨_, rfl, ⟨(HMO.st _ (find_mem (find_put_self L { x with v := v2, S := (setS (setAll x.S (n.p.subs.take k)).2 x1.1 x1.2).2 })).1).box, HK.at 0 rfl⟩, ?_⟩
        clear F a9
        intro a9 F
        obtain ⟨i0, hi, hz0, hz1, hz2⟩ := info_parts infoB8
        have hb8 : Below w9.heap.size w9 (w9.alloc (.cells (natV [(setS (setAll x.S (n.p.subs.take k)).2 x1.1 x1.2).1]).toArray 5)) := (Below.refl _ _).alloc (Nat.le_refl _) _
        have hnr : CellsA (w9.alloc (.cells (natV [(setS (setAll x.S (n.p.subs.take k)).2 x1.1 x1.2).1]).toArray 5)) (some ⟨w9.heap.size, 0, none⟩) (natV [(setS (setAll x.S (n.p.subs.take k)).2 x1.1 x1.2).1]) := cells_new
        replace HK := HK.below hb8
        replace HMO := HMO.below hb8
        replace HON := HON.then hb8
        replace HO8 := own_only HO8 (Only.of_below hb8 (fun _ => False)) (fun _ _ h => h)
        refine fr_step (i := 10) (o := ⟨some 98, _, _, _, _, _⟩) F rfl rfl 98 rfl (by decide) (.slice (some ⟨w9.heap.size, 0, none⟩) 1 1) (w9.alloc (.cells (natV [(setS (setAll x.S (n.p.subs.take k)).2 x1.1 x1.2).1]).toArray 5)) (fun a' F' => run_bytes1 75 5 _ rfl (setS (setAll x.S (n.p.subs.take k)).2 x1.1 x1.2).1 (F'.ev 97 rfl) i0 _ Tryd.underlying75 hi hz0 (by rw [hz1]; decide) (by rw [hz1]; decide) (by rw [hz1]; kernel_rfl)) ⟨(HMO.st _ (find_mem (find_put_self L { x with v := v2, S := (setS (setAll x.S (n.p.subs.take k)).2 x1.1 x1.2).2 })).1).box, HK.at 0 rfl⟩ ?_
        clear F a9
        intro a9 F
        clear hi hz0 hz1 hz2 i0
        obtain ⟨Z, hZ⟩ : ∃ Z, w9.heap.size = Z := ⟨_, rfl⟩
        rw [hZ] at hnr F
        clear hb8 hZ
        generalize w9.alloc (.cells (natV [(setS (setAll x.S (n.p.subs.take k)).2 x1.1 x1.2).1]).toArray 5) = w8 at *
        clear w9
        rename World => w9
        obtain ⟨i0, hi, hz0, hz1, hz2⟩ := info_parts infoB8
        refine fr_append (i := 11) (o := ⟨some 99, _, _, _, _, _⟩) F rfl rfl 99 rfl (by decide) (.tmp 88) (.tmp 98) 75 rfl w.heap.size 5 i0 _ 1 1 Tryd.underlying75 hi hz0 hz1 hz2 rfl (by decide) v8 k _ HO8 ⟨Z, 0, none⟩ 1 1 (natV [(setS (setAll x.S (n.p.subs.take k)).2 x1.1 x1.2).1]) rfl (fun j u hu => by obtain ⟨b, o, e, hc⟩ := hnr j u hu; injection e with e; injection e with e1 e2; subst e1 e2; rw [Addr.add_lit]; exact hc) (natV_one _) (by unfold maxLen; omega) (by omega) HON.size (fun a' F' => F'.ev 88 rfl) (fun a' F' => F'.ev 98 rfl) ?_
        intro v9 w8 hown hgr
        have HK2 := HK.grownBoxM HO8 hB0 hgr (by
          intro z hz
          rcases List.mem_cons.1 hz with rfl | hz
          · exact (by decide : 77 ≠ 5)
          · rw [List.mem_singleton.1 hz]; exact (by decide : 35 ≠ 5))
        have HMO2 := HMO.grown (by decide) HO8 hgr
        have HON2 := HON.grown hgr (fun j hj => Or.inr (own_lt HO8 hj).2)
        clear HK HMO HON HO8 hgr hi hz0 hz1 hz2 i0 hnr
        have HK := HK2
        have HMO := HMO2
        have HON := HON2
        clear HK2 HMO2 HON2
        rw [← natV_append] at hown
        clear w9
        rename World => w9
        refine ⟨⟨(HMO.st _ (find_mem (find_put_self L { x with v := v2, S := (setS (setAll x.S (n.p.subs.take k)).2 x1.1 x1.2).2 })).1).box, HK.at 0 rfl⟩, ?_⟩
        clear F a9
        intro a9 F
        refine fr_chT F [12] [(8, v9)] ⟨(HMO.st _ (find_mem (find_put_self L { x with v := v2, S := (setS (setAll x.S (n.p.subs.take k)).2 x1.1 x1.2).2 })).1).box, HK.at 0 rfl⟩ (by kernel_rfl) ?_
        clear F a9
        intro a9 F
        refine AnyT.done (by kernel_rfl) ?_ _
        refine NoPanic.normal ?_
        have e1 := setAll_snoc (n.p.subs.take k) x.S x1
        rw [← htk] at e1
        have e2 := congrArg Prod.fst e1
        have e3 := congrArg Prod.snd e1
        simp only at e2 e3
        rw [← e2] at hown
        rw [← e3] at HMO
        exact ⟨v2, v9, ((((((((((((FrL.nil F.size F.defers).add 0 _ (F.at' 0 _ rfl)).add 3 _ (F.at' 3 _ rfl)).add 4 _ (F.at' 4 _ rfl)).add 5 _ (F.at' 5 _ rfl)).add 6 _ (F.at' 6 _ rfl)).add 7 _ (F.at' 7 _ rfl)).add 8 _ (F.at' 8 _ rfl)).add 82 _ (F.at' 82 _ rfl)).add 83 _ (F.at' 83 _ rfl)).add 84 _ (F.at' 84 _ rfl))), HMO, HK.sub (List.sublist_cons_self _ _) (fun r hr => hr), HON, hv3, hown⟩
      · clear F a9 HMO HK HON hvv hal hrg HO8
        rintro a9 w7 ⟨vv, v8, F, HMO, HK, HON, hvv, HO8⟩
        clear w9
        rename World => w9
        show Code.wp _ _ _ _ _
        refine wp_region_lit ?_
        refine fr_do F (wanted_free rfl) 100 rfl (by decide) (.int .i64 ((k + 1 : Nat) : Int)) (by intro a' F'; have h84 := F'.at' 84 _ rfl; go_simp <;> (rw [IntKind.wrap_i64]; omega)) ?_
        clear F a9
        intro a9 F
        refine fr_ch F 1 [(84, .int .i64 ((k + 1 : Nat) : Int))] (by kernel_rfl) ?_
        clear F a9
        intro a9 F
        refine wpList_nil ?_
        replace F := F.cut [(84, .int .i64 ((k + 1 : Nat) : Int)), (83, .int .i64 (n.p.subs.length : Int)), (82, .slice a n.p.subs.length c), (8, v8), (7, .pointer (some ⟨x.s, 0, none⟩)), (6, .bool false), (5, .bool false), (4, .string ⟨#[]⟩), (3, .pointer (some ⟨B, 0, none⟩)), (0, .pointer (some ⟨m, 0, none⟩))] (by kernel_rfl)
        refine ⟨⟨k + 1, by omega, vv, v8, F, HMO, HK, HON, hvv, HO8⟩, ?_⟩
        rw [muI_at F 84 (k + 1) rfl]
        omega
    · have hk2 : k = n.p.subs.length := by omega
      subst hk2
      refine wp_region_lit ?_
      refine fr_do F (wanted_free rfl) 85 rfl (by decide) (.bool false) (by intro a' F'; have h84 := F'.at' 84 _ rfl; have h83 := F'.at' 83 _ rfl; go_simp) ?_
      clear F a9
      intro a9 F
      refine wpList_nil ?_
      show Code.wp _ _ _ _ _
      refine wp_seq ?_
      refine wp_cond_false (F.ev 85 rfl) ?_
      refine wp_exit ?_
      exact then_exit (then_exit (exit_in ⟨vv, v8, n.p.subs.length, (((((((((((FrL.nil F.size F.defers).add 0 _ (F.at' 0 _ rfl)).add 3 _ (F.at' 3 _ rfl)).add 4 _ (F.at' 4 _ rfl)).add 5 _ (F.at' 5 _ rfl)).add 6 _ (F.at' 6 _ rfl)).add 7 _ (F.at' 7 _ rfl)).add 8 _ (F.at' 8 _ rfl)).add 82 _ (F.at' 82 _ rfl)).add 83 _ (F.at' 83 _ rfl)).add 84 _ (F.at' 84 _ rfl)), HMO, HK, HON, hvv, HO8⟩))
  · clear F a9 HMO HK HON HO8
    rintro a9 w8 ⟨vv, v8, kk, F, HMO, HK, HON, hvv, HO8⟩
    clear w9
    rename World => w9
    show Code.wp _ _ _ _ _
    rw [List.take_length] at HMO HO8
    replace F := F.cut [(8, v8), (7, .pointer (some ⟨x.s, 0, none⟩)), (6, .bool false), (5, .bool false), (4, .string ⟨#[]⟩), (3, .pointer (some ⟨B, 0, none⟩))] (by kernel_rfl)
    obtain ⟨a8, c8, hv8, _, hcells⟩ := own_form HO8
    subst hv8
    have kc := conv_nats (P := Tryd.prog) w9 75 5 Tryd.underlying75 Tryd.underlying5 a8 c8 (setAll x.S n.p.subs).1 n.p.subs.length (setAll_len _ _).symm hcells 9 Tryd.underlying9
    refine wp_seq ?_
    refine wp_region_lit ?_
    refine fr_mv F (wanted_free rfl) 101 rfl (by decide) 8 rfl rfl ?_
    clear F a9
    intro a9 F
    refine fr_do F (wanted_free rfl) 102 rfl (by decide) (.string (strN (setAll x.S n.p.subs).1)) (fun a' F' => run_conv 75 9 _ rfl _ _ (F'.ev 101 rfl) kc) ?_
    clear F a9
    intro a9 F
    refine fr_ch F 3 [(6, .bool true), (5, .bool false), (4, .string (strN (setAll x.S n.p.subs).1))] (by kernel_rfl) ?_
    clear F a9
    intro a9 F
    refine wpList_nil ?_
    show Code.wp _ _ _ _ _
    have HA : applyS (absL L) n = ((codesS (setAll x.S n.p.subs).1, false, true), updS (absL L) n.client (some { conn := x.conn, clean := x.clean, S := (setAll x.S n.p.subs).2 })) := by unfold applyS; rw [if_neg (by omega), if_neg (by omega), if_neg hty, absL_some HX]; dsimp only; rw [if_neg (by rintro (h | h); exact hc h; exact h hxc), if_pos h8]
    refine wp_ret ?_
    exact fr_ret3t F rfl _ _ _ rfl rfl rfl (FIN.out _ _ _ (putL L { x with v := vv, S := (setAll x.S n.p.subs).2 }) _ (by rw [HA]; rfl) (by rw [HA]) (by rw [HA]) (by rw [HA, abs_put, show ({ x with v := vv, S := (setAll x.S n.p.subs).2 } : St).client = n.client from (find_mem HX).2]) ⟨HMO, HK.sub (List.nil_sublist _) (fun r hr => hr), HON, fun k hk => (FootM.put HND.out hk).elim Or.inl (fun h => h.elim (fun e => Or.inl (FootM.seat HX (Or.inl e))) (fun h => h.elim (fun e => Or.inl (FootM.seat HX (Or.inr (Or.inl e)))) (fun h => (hvv k h).elim (fun h => Or.inl (FootM.seat HX (Or.inr (Or.inr h)))) Or.inr)))⟩)
set_option maxRecDepth 100000 in
set_option maxHeartbeats 4000000 in
theorem apply_drop {w0 w : World} {m M K KM : Nat} {L : List St} (n : Nt) (a : Option Addr) (c : Nat) (HK : Keep w0 [] [] w) (HMO : MoAt w w0.heap.size m M K KM L) (hk : n.kind = 2) (hty : n.p.ty ≠ 1) {x : St} (HX : findL L n.client = some x) (hc : ¬ n.conn < 1) (hxc : x.conn = n.conn) (HR : CellsA w0 a (subCells n.p.subs)) (hsm : SmallS n.p.subs) (hfew : n.p.subs.length ≤ 20) (h8 : ¬ n.p.ty = 8) (h10 : n.p.ty = 10) : Calls Tryd.prog 21 #[.pointer (some ⟨m, 0, none⟩), .agg (ntV n a c)] w fun e w' => ∃ L', e = .returned (.tuple #[.string (applyS (absL L) n).1.1, .bool (applyS (absL L) n).1.2.1, .bool (applyS (absL L) n).1.2.2]) ∧ absL L' = (applyS (absL L) n).2 ∧ MOut w0 w m M K KM L L' w' := by
  obtain ⟨RR, hRR⟩ : ∃ RR : Ending → World → Prop, RR = fun e w' => ∃ L', e = .returned (.tuple #[.string (applyS (absL L) n).1.1, .bool (applyS (absL L) n).1.2.1, .bool (applyS (absL L) n).1.2.2]) ∧ absL L' = (applyS (absL L) n).2 ∧ MOut w0 w m M K KM L L' w' := ⟨_, rfl⟩
  have FIN := Lib.hid (show ∀ s p o' L' w', s = (applyS (absL L) n).1.1 → p = (applyS (absL L) n).1.2.1 → o' = (applyS (absL L) n).1.2.2 → absL L' = (applyS (absL L) n).2 → MOut w0 w m M K KM L L' w' → RR (.returned (.tuple #[.string s, .bool p, .bool o'])) w' from fun s p o' L' w' h0 h1 h2 h3 h4 => by rw [hRR, h0, h1, h2]; exact ⟨L', rfl, h3, h4⟩)
  rw [← hRR]
  have HND := Lib.hid HMO.nd
  have HF0 := Lib.hid (fun k hk => HMO.foot (k := k) hk)
  obtain ⟨w9, hw9⟩ : ∃ w9, w9 = w := ⟨_, rfl⟩
  have HON : Only (FootM m M K KM L) w w9 := by rw [hw9]; exact Only.refl _ _
  rw [← hw9] at HK HMO
  suffices hgo : Calls Tryd.prog 21 #[.pointer (some ⟨m, 0, none⟩), .agg (ntV n a c)] w9 RR by rw [hw9] at hgo; exact hgo
  clear hw9 hRR
  go_enter Tryd.func21, Tryd.ntmps21
  refine wp_forget (n := 137) (L := [(1, .agg (ntV n a c)), (0, .pointer (some ⟨m, 0, none⟩))]) (FrL.add (FrL.add (FrL.nil ?_ ?_) _ _ ?_) _ _ ?_) ?_
  iterate 4 rfl
  intro a9 F
  refine wp_seq ?_
  refine wp_region_lit ?_
  refine fr_box F HK 3 (by decide) rfl 35 _ rfl rfl (ntV n a c) (fun a' F' => F'.ev 1 rfl) ?_
  rintro B a10 w10 hX F' HK' hb
  replace HMO := HMO.below hb
  replace HON := HON.then hb
  clear HK F hb hX
  clear a9 w9
  rename World => w9
  rename Act => a9
  have HK := HK'
  have F := F'
  clear HK' F'
  replace HK : Keep w0 [(B, (ntV n a c), 35)] [] w9 := HK
  refine fr_ch F 3 [(6, .bool false), (5, .bool false), (4, .string ⟨#[]⟩)] (by kernel_rfl) ?_
  clear F a9
  intro a9 F
  refine wpList_nil ?_
  show Code.wp _ _ _ _ _
  replace F := F.cut [(6, .bool false), (5, .bool false), (4, .string ⟨#[]⟩), (3, .pointer (some ⟨B, 0, none⟩)), (0, .pointer (some ⟨m, 0, none⟩))] (by kernel_rfl)
  refine wp_seq ?_
  refine wp_seq ?_
  refine wp_region_lit ?_
  refine fr_ch F 6 [(18, .pointer (some ⟨m, 0, none⟩)), (15, .bool false), (14, .bool false), (13, .pointer (some ⟨m, 0, none⟩))] (by kernel_rfl) ?_
  clear F a9
  intro a9 F
  refine fr_do F (by rw [wanted_at F rfl (t := 15) (b := false) (by kernel_rfl) rfl]; rfl) 19 rfl (by decide) (.map (some M)) (by intro a' F'; have h18 := F'.at' 18 _ rfl; have hc : w9.cell? ⟨m, 0, none⟩ = some (.map (some M)) := HMO.box.cells 0; go_simp) ?_
  clear F a9
  intro a9 F
  refine fr_do F (by rw [wanted_at F rfl (t := 15) (b := false) (by kernel_rfl) rfl]; rfl) 20 rfl (by decide) (.bool false) (fun a' F' => op_map_nil rfl (F'.ev 19 rfl) rfl) ?_
  clear F a9
  intro a9 F
  refine fr_ch F 1 [(21, .bool false)] (by kernel_rfl) ?_
  clear F a9
  intro a9 F
  refine wpList_nil ?_
  show Code.wp _ _ _ _ _
  refine wp_cond_false (F.ev 21 rfl) ?_
  refine wp_skip ?_
  show Code.wp _ _ _ _ _
  replace F := F.cut [(6, .bool false), (5, .bool false), (4, .string ⟨#[]⟩), (3, .pointer (some ⟨B, 0, none⟩)), (0, .pointer (some ⟨m, 0, none⟩))] (by kernel_rfl)
  refine wp_seq ?_
  refine wp_block ?_
  refine wp_seq ?_
  refine wp_region_lit ?_
  refine fr_ch F 1 [(23, .pointer (some ⟨B, 0, none⟩))] (by kernel_rfl) ?_
  clear F a9
  intro a9 F
  refine fr_do F (wanted_free rfl) 24 rfl (by decide) (.int .u8 (n.kind : Int)) (by intro a' F'; have hc : w9.cell? ⟨B, 0, none⟩ = some (.int .u8 (n.kind : Int)) := (HK.at 0 rfl).cells 0; have h23 := F'.at' 23 _ rfl; go_simp) ?_
  clear F a9
  intro a9 F
  refine fr_do F (wanted_free rfl) 25 rfl (by decide) (.bool false) (by intro a' F'; have h24 := F'.at' 24 _ rfl; go_simp) ?_
  clear F a9
  intro a9 F
  refine fr_ch F 1 [(22, .bool false)] (by kernel_rfl) ?_
  clear F a9
  intro a9 F
  refine wpList_nil ?_
  show Code.wp _ _ _ _ _
  refine wp_cond_false (F.ev 22 rfl) ?_
  replace F := F.cut [(6, .bool false), (5, .bool false), (4, .string ⟨#[]⟩), (3, .pointer (some ⟨B, 0, none⟩)), (0, .pointer (some ⟨m, 0, none⟩))] (by kernel_rfl)
  refine wp_seq ?_
  refine wp_region_lit ?_
  refine fr_ch F 1 [(34, .pointer (some ⟨B, 0, none⟩))] (by kernel_rfl) ?_
  clear F a9
  intro a9 F
  refine fr_do F (wanted_free rfl) 35 rfl (by decide) (.int .u8 (n.kind : Int)) (by intro a' F'; have hc : w9.cell? ⟨B, 0, none⟩ = some (.int .u8 (n.kind : Int)) := (HK.at 0 rfl).cells 0; have h34 := F'.at' 34 _ rfl; go_simp) ?_
  clear F a9
  intro a9 F
  refine fr_do F (wanted_free rfl) 36 rfl (by decide) (.bool false) (by intro a' F'; have h35 := F'.at' 35 _ rfl; go_simp) ?_
  clear F a9
  intro a9 F
  refine fr_ch F 1 [(33, .bool false)] (by kernel_rfl) ?_
  clear F a9
  intro a9 F
  refine wpList_nil ?_
  show Code.wp _ _ _ _ _
  refine wp_cond_false (F.ev 33 rfl) ?_
  replace F := F.cut [(6, .bool false), (5, .bool false), (4, .string ⟨#[]⟩), (3, .pointer (some ⟨B, 0, none⟩)), (0, .pointer (some ⟨m, 0, none⟩))] (by kernel_rfl)
  refine wp_seq ?_
  refine wp_region_lit ?_
  refine fr_ch F 2 [(39, .pointer (some ⟨B, 4, none⟩))] (by kernel_rfl) ?_
  clear F a9
  intro a9 F
  refine fr_do F (wanted_free rfl) 40 rfl (by decide) (.int .u8 (n.p.ty : Int)) (by intro a' F'; have hc : w9.cell? ⟨B, 4, none⟩ = some (.int .u8 (n.p.ty : Int)) := (HK.at 0 rfl).cells 4; have h39 := F'.at' 39 _ rfl; go_simp) ?_
  clear F a9
  intro a9 F
  refine fr_do F (wanted_free rfl) 41 rfl (by decide) (.bool false) (by intro a' F'; have h40 := F'.at' 40 _ rfl; go_simp) ?_
  clear F a9
  intro a9 F
  refine fr_ch F 1 [(37, .bool false)] (by kernel_rfl) ?_
  clear F a9
  intro a9 F
  refine wpList_nil ?_
  show Code.wp _ _ _ _ _
  refine wp_cond_false (F.ev 37 rfl) ?_
  replace F := F.cut [(6, .bool false), (5, .bool false), (4, .string ⟨#[]⟩), (3, .pointer (some ⟨B, 0, none⟩)), (0, .pointer (some ⟨m, 0, none⟩))] (by kernel_rfl)
  refine wp_skip ?_
  show Code.wp _ _ _ _ _
  refine wp_seq ?_
  refine wp_region_lit ?_
  refine fr_ch F 2 [(51, .pointer (some ⟨B, 3, none⟩)), (50, .pointer (some ⟨m, 0, none⟩))] (by kernel_rfl) ?_
  clear F a9
  intro a9 F
  refine fr_do F (wanted_free rfl) 52 rfl (by decide) (.string n.client) (by intro a' F'; have hc : w9.cell? ⟨B, 3, none⟩ = some (.string n.client) := (HK.at 0 rfl).cells 3; have h51 := F'.at' 51 _ rfl; go_simp) ?_
  clear F a9
  intro a9 F
  refine fr_call F (wanted_free rfl) 53 rfl (by decide) 43 #[.pointer (some ⟨m, 0, none⟩), .string n.client] (by intro a' F'; have h50 := F'.at' 50 _ rfl; have h52 := F'.at' 52 _ rfl; go_simp) (model_seat w9 n.client HMO) ?_
  rintro e9 w8 ⟨rfl, rfl⟩
  rw [HX]
  refine ⟨_, rfl, ?_⟩
  clear F a9
  intro a9 F
  refine fr_as F (wanted_free rfl) 7 rfl (by decide) 53 rfl rfl ?_
  clear F a9
  intro a9 F
  refine wpList_nil ?_
  show Code.wp _ _ _ _ _
  replace F := F.cut [(7, .pointer (some ⟨x.s, 0, none⟩)), (6, .bool false), (5, .bool false), (4, .string ⟨#[]⟩), (3, .pointer (some ⟨B, 0, none⟩)), (0, .pointer (some ⟨m, 0, none⟩))] (by kernel_rfl)
  refine wp_seq ?_
  refine wp_seq ?_
  refine wp_region_noPanic ?_
  have hb8 : Below w9.heap.size w9 w9.drew := below_draws (n := 1) rfl
  replace HK := HK.below hb8
  replace HMO := HMO.below hb8
  replace HON := HON.then hb8
  clear hb8
  refine AnyT.begin (S := fun w' => BoxAt w' B (ntV n a c) 35 ∧ BoxAt w' x.s (stV x) 74) (z := 1000) (by kernel_rfl) ⟨HK.at 0 rfl, (HMO.st x (find_mem HX).1).box⟩ (fun hS0 => ?_)
  clear hS0
  generalize w9.drew = w8 at *
  clear w9
  rename World => w9
  refine fr_chT F [0, 1, 2, 3] [(57, .pointer (some ⟨B, 2, none⟩)), (56, .bool false), (55, .bool false), (54, .pointer (some ⟨x.s, 0, none⟩))] ⟨HK.at 0 rfl, (HMO.st x (find_mem HX).1).box⟩ (by kernel_rfl) ?_
  clear F a9
  intro a9 F
  refine fr_takeG (i := 4) (o := ⟨some 58, _, _, _, _, _⟩) F ⟨HK.at 0 rfl, (HMO.st x (find_mem HX).1).box⟩ rfl (by rw [wanted_at F rfl (t := 56) (b := false) (by kernel_rfl) rfl]; rfl) 58 rfl (by decide) (.int .i64 n.conn) (fun w9 hS => (by intro a' F'; have h57 := F'.at' 57 _ rfl; have hc : w9.cell? ⟨B, 2, none⟩ = some (.int .i64 n.conn) := hS.1.cells 2; go_simp)) ?_
  clear F a9
  intro a9 F
  refine fr_takeG (i := 5) (o := ⟨some 59, _, _, _, _, _⟩) F ⟨HK.at 0 rfl, (HMO.st x (find_mem HX).1).box⟩ rfl (by rw [wanted_at F rfl (t := 56) (b := false) (by kernel_rfl) rfl]; rfl) 59 rfl (by decide) (.bool false) (fun w9 hS => (by intro a' F'; have h58 := F'.at' 58 _ rfl; go_simp)) ?_
  clear F a9
  intro a9 F
  refine fr_chT F [6, 7, 8, 9, 10] [(64, .pointer (some ⟨x.s, 1, none⟩)), (63, .pointer (some ⟨x.s, 0, none⟩)), (62, .pointer (some ⟨x.s, 0, none⟩)), (61, .bool false), (60, .bool false)] ⟨HK.at 0 rfl, (HMO.st x (find_mem HX).1).box⟩ (by kernel_rfl) ?_
  clear F a9
  intro a9 F
  refine fr_takeG (i := 11) (o := ⟨some 65, _, _, _, _, _⟩) F ⟨HK.at 0 rfl, (HMO.st x (find_mem HX).1).box⟩ rfl (by rw [wanted_at F rfl (t := 61) (b := false) (by kernel_rfl) rfl]; rfl) 65 rfl (by decide) (.int .i64 x.conn) (fun w9 hS => (by intro a' F'; have h64 := F'.at' 64 _ rfl; have hc : w9.cell? ⟨x.s, 1, none⟩ = some (.int .i64 x.conn) := hS.2.cells 1; go_simp)) ?_
  clear F a9
  intro a9 F
  refine fr_chT F [12] [(66, .pointer (some ⟨B, 2, none⟩))] ⟨HK.at 0 rfl, (HMO.st x (find_mem HX).1).box⟩ (by kernel_rfl) ?_
  clear F a9
  intro a9 F
  refine fr_takeG (i := 13) (o := ⟨some 67, _, _, _, _, _⟩) F ⟨HK.at 0 rfl, (HMO.st x (find_mem HX).1).box⟩ rfl (by rw [wanted_at F rfl (t := 61) (b := false) (by kernel_rfl) rfl]; rfl) 67 rfl (by decide) (.int .i64 n.conn) (fun w9 hS => (by intro a' F'; have h66 := F'.at' 66 _ rfl; have hc : w9.cell? ⟨B, 2, none⟩ = some (.int .i64 n.conn) := hS.1.cells 2; go_simp)) ?_
  clear F a9
  intro a9 F
  refine fr_takeG (i := 14) (o := ⟨some 68, _, _, _, _, _⟩) F ⟨HK.at 0 rfl, (HMO.st x (find_mem HX).1).box⟩ rfl (by rw [wanted_at F rfl (t := 61) (b := false) (by kernel_rfl) rfl]; rfl) 68 rfl (by decide) (.bool false) (fun w9 hS => (by intro a' F'; have h65 := F'.at' 65 _ rfl; have h67 := F'.at' 67 _ rfl; go_simp)) ?_
  clear F a9
  intro a9 F
  refine fr_chT F [15] [(69, .bool false)] ⟨HK.at 0 rfl, (HMO.st x (find_mem HX).1).box⟩ (by kernel_rfl) ?_
  clear F a9
  intro a9 F
  refine AnyT.done (by kernel_rfl) ?_ _
  refine NoPanic.normal ?_
  show Code.wp _ _ _ _ _
  refine wp_cond_false (F.ev 69 rfl) ?_
  refine wp_skip ?_
  show Code.wp _ _ _ _ _
  replace F := F.cut [(7, .pointer (some ⟨x.s, 0, none⟩)), (6, .bool false), (5, .bool false), (4, .string ⟨#[]⟩), (3, .pointer (some ⟨B, 0, none⟩)), (0, .pointer (some ⟨m, 0, none⟩))] (by kernel_rfl)
  refine wp_seq ?_
  refine wp_seq ?_
  refine wp_region_lit ?_
  refine fr_ch F 2 [(71, .pointer (some ⟨B, 4, none⟩))] (by kernel_rfl) ?_
  clear F a9
  intro a9 F
  refine fr_do F (wanted_free rfl) 72 rfl (by decide) (.int .u8 (n.p.ty : Int)) (by intro a' F'; have hc : w9.cell? ⟨B, 4, none⟩ = some (.int .u8 (n.p.ty : Int)) := (HK.at 0 rfl).cells 4; have h71 := F'.at' 71 _ rfl; go_simp) ?_
  clear F a9
  intro a9 F
  refine wpList_nil ?_
  show Code.wp _ _ _ _ _
  replace F := F.cut [(72, .int .u8 (n.p.ty : Int)), (7, .pointer (some ⟨x.s, 0, none⟩)), (6, .bool false), (5, .bool false), (4, .string ⟨#[]⟩), (3, .pointer (some ⟨B, 0, none⟩)), (0, .pointer (some ⟨m, 0, none⟩))] (by kernel_rfl)
  refine wp_block ?_
  refine wp_seq ?_
  refine wp_region_lit ?_
  refine fr_do F (wanted_free rfl) 74 rfl (by decide) (.bool false) (by intro a' F'; have h72 := F'.at' 72 _ rfl; go_simp) ?_
  clear F a9
  intro a9 F
  refine fr_ch F 1 [(73, .bool false)] (by kernel_rfl) ?_
  clear F a9
  intro a9 F
  refine wpList_nil ?_
  show Code.wp _ _ _ _ _
  refine wp_cond_false (F.ev 73 rfl) ?_
  replace F := F.cut [(72, .int .u8 (n.p.ty : Int)), (7, .pointer (some ⟨x.s, 0, none⟩)), (6, .bool false), (5, .bool false), (4, .string ⟨#[]⟩), (3, .pointer (some ⟨B, 0, none⟩)), (0, .pointer (some ⟨m, 0, none⟩))] (by kernel_rfl)
  refine wp_seq ?_
  refine wp_region_lit ?_
  refine fr_do F (wanted_free rfl) 104 rfl (by decide) (.bool true) (by intro a' F'; have h72 := F'.at' 72 _ rfl; go_simp) ?_
  clear F a9
  intro a9 F
  refine fr_ch F 1 [(103, .bool true)] (by kernel_rfl) ?_
  clear F a9
  intro a9 F
  refine wpList_nil ?_
  show Code.wp _ _ _ _ _
  refine wp_cond_true (F.ev 103 rfl) ?_
  replace F := F.cut [(72, .int .u8 (n.p.ty : Int)), (7, .pointer (some ⟨x.s, 0, none⟩)), (6, .bool false), (5, .bool false), (4, .string ⟨#[]⟩), (3, .pointer (some ⟨B, 0, none⟩)), (0, .pointer (some ⟨m, 0, none⟩))] (by kernel_rfl)
  refine wp_seq ?_
  refine wp_region_lit ?_
  refine fr_ch F 2 [(106, .pointer (some ⟨B, 26, none⟩))] (by kernel_rfl) ?_
  clear F a9
  intro a9 F
  refine fr_do F (wanted_free rfl) 107 rfl (by decide) (.slice a n.p.subs.length c) (by intro a' F'; have hc : w9.cell? ⟨B, 26, none⟩ = some (.slice a n.p.subs.length c) := (HK.at 0 rfl).cells 26; have h106 := F'.at' 106 _ rfl; go_simp) ?_
  clear F a9
  intro a9 F
  refine fr_ch F 2 [(109, .int .i64 0), (108, .int .i64 (n.p.subs.length : Int))] (by kernel_rfl) ?_
  clear F a9
  intro a9 F
  refine wpList_nil ?_
  show Code.wp _ _ _ _ _
  replace F := F.cut [(109, .int .i64 ((0 : Nat) : Int)), (108, .int .i64 (n.p.subs.length : Int)), (107, .slice a n.p.subs.length c), (7, .pointer (some ⟨x.s, 0, none⟩)), (6, .bool false), (5, .bool false), (4, .string ⟨#[]⟩), (3, .pointer (some ⟨B, 0, none⟩)), (0, .pointer (some ⟨m, 0, none⟩))] (by kernel_rfl)
  clear HF0
  have HF1 := Lib.hid HX
  refine wp_block_end (fun a' w' => ∃ (vv : Value) (kk : Nat), FrL 137 [(109, .int .i64 (kk : Int)), (108, .int .i64 (n.p.subs.length : Int)), (107, .slice a n.p.subs.length c), (7, .pointer (some ⟨x.s, 0, none⟩)), (6, .bool false), (5, .bool false), (4, .string ⟨#[]⟩), (3, .pointer (some ⟨B, 0, none⟩)), (0, .pointer (some ⟨m, 0, none⟩))] a' ∧ MoAt w' w0.heap.size m M K KM (putL L { x with v := vv, S := (dropAll x.S (n.p.subs.take n.p.subs.length)) }) ∧ Keep w0 [(B, ntV n a c, 35)] [] w' ∧ Only (FootM m M K KM L) w w' ∧ (∀ r, vv.ownBlock = some r → x.v.ownBlock = some r ∨ w.heap.size ≤ r)) ?_ ?_
  · skip
    refine wp_loop (fun a' w' => ∃ k : Nat, k ≤ n.p.subs.length ∧ ∃ (vv : Value), FrL 137 [(109, .int .i64 (k : Int)), (108, .int .i64 (n.p.subs.length : Int)), (107, .slice a n.p.subs.length c), (7, .pointer (some ⟨x.s, 0, none⟩)), (6, .bool false), (5, .bool false), (4, .string ⟨#[]⟩), (3, .pointer (some ⟨B, 0, none⟩)), (0, .pointer (some ⟨m, 0, none⟩))] a' ∧ MoAt w' w0.heap.size m M K KM (putL L { x with v := vv, S := (dropAll x.S (n.p.subs.take k)) }) ∧ Keep w0 [(B, ntV n a c, 35)] [] w' ∧ Only (FootM m M K KM L) w w' ∧ (∀ r, vv.ownBlock = some r → x.v.ownBlock = some r ∨ w.heap.size ≤ r)) (fun a' _ => muI n.p.subs.length 109 a') ⟨0, Nat.zero_le _, x.v, F, (show MoAt w9 w0.heap.size m M K KM (putL L x) from by rw [put_self HX]; exact HMO), HK, HON, fun r hr => Or.inl hr⟩ ?_
    clear F a9 HK HMO HON w9
    rintro a9 w9 ⟨k, hkl, vv, F, HMO, HK, HON, hvv⟩
    rw [muI_at F 109 k rfl]
    refine wp_seq ?_
    by_cases hlt : k < n.p.subs.length
    · skip
      refine wp_region_lit ?_
      refine fr_do F (wanted_free rfl) 110 rfl (by decide) (.bool true) (by intro a' F'; have h109 := F'.at' 109 _ rfl; have h108 := F'.at' 108 _ rfl; go_simp) ?_
      clear F a9
      intro a9 F
      refine wpList_nil ?_
      show Code.wp _ _ _ _ _
      refine wp_seq ?_
      refine wp_cond_true (F.ev 110 rfl) ?_
      refine wp_skip ?_
      show Code.wp _ _ _ _ _
      replace F := F.cut [(109, .int .i64 (k : Int)), (108, .int .i64 (n.p.subs.length : Int)), (107, .slice a n.p.subs.length c), (7, .pointer (some ⟨x.s, 0, none⟩)), (6, .bool false), (5, .bool false), (4, .string ⟨#[]⟩), (3, .pointer (some ⟨B, 0, none⟩)), (0, .pointer (some ⟨m, 0, none⟩))] (by kernel_rfl)
      obtain ⟨x1, hx1⟩ : ∃ x1, n.p.subs[k]? = some x1 := ⟨_, List.getElem?_eq_getElem hlt⟩
      obtain ⟨hx300, hxq⟩ := hsm x1 (List.mem_of_getElem? hx1)
      obtain ⟨bb, oo, hal, hrg⟩ := sub_range (HR.below HK.low) hx1
      have htk : n.p.subs.take (k + 1) = n.p.subs.take k ++ [x1] := by rw [List.take_add_one, hx1]; rfl
      refine wp_seq ?_
      refine wp_block_end (fun a' w' => ∃ (vv : Value), FrL 137 [(109, .int .i64 (k : Int)), (108, .int .i64 (n.p.subs.length : Int)), (107, .slice a n.p.subs.length c), (7, .pointer (some ⟨x.s, 0, none⟩)), (6, .bool false), (5, .bool false), (4, .string ⟨#[]⟩), (3, .pointer (some ⟨B, 0, none⟩)), (0, .pointer (some ⟨m, 0, none⟩))] a' ∧ MoAt w' w0.heap.size m M K KM (putL L { x with v := vv, S := (dropAll x.S (n.p.subs.take (k + 1))) }) ∧ Keep w0 [(B, ntV n a c, 35)] [] w' ∧ Only (FootM m M K KM L) w w' ∧ (∀ r, vv.ownBlock = some r → x.v.ownBlock = some r ∨ w.heap.size ≤ r)) ?_ ?_
      · skip
        refine wp_seq ?_
        refine wp_region_lit ?_
        refine fr_do F (wanted_free rfl) 111 rfl (by decide) (.pointer (some ⟨bb, oo + k * 2, none⟩)) (by intro a' F'; have h107 := F'.at' 107 _ rfl; have h109 := F'.at' 109 _ rfl; go_simp) ?_
        clear F a9
        intro a9 F
        refine fr_do F (wanted_free rfl) 112 rfl (by decide) (.agg #[.string x1.1, .int .u8 (x1.2 : Int)]) (fun a' F' => run_load_midF 77 _ rfl bb (oo + k * 2) (F'.ev 111 rfl) [.string x1.1, .int .u8 (x1.2 : Int)] _ hrg Tryd.underlying77 rfl infoSubS) ?_
        clear F a9
        intro a9 F
        clear hrg
        obtain ⟨i0, hi, hz0, hz1, hz2⟩ := info_parts infoSub
        refine fr_new F HK 12 (by decide) rfl 77 rfl rfl rfl (.tmp 112) rfl rfl i0 _ hi hz0 (cells := #[.string x1.1, .int .u8 (x1.2 : Int)]) hz1 rfl (sb_one x1) (fun a' Y F' => F'.ev 112 rfl) ?_
        rintro V a10 w10 hX F' HK' hb
        have hVF : ¬ FootM m M K KM (putL L { x with v := vv, S := (dropAll x.S (n.p.subs.take k)) }) V := fun h => by have h2 := HMO.foot h; omega
        replace HMO := HMO.below hb
        replace HON := HON.then hb
        clear HK F hb hX hi hz0 hz1 hz2 i0
        clear a9 w9
        rename World => w9
        rename Act => a9
        have HK := HK'
        have F := F'
        clear HK' F'
        replace HK : Keep w0 [(V, #[.string x1.1, .int .u8 (x1.2 : Int)], 77), (B, (ntV n a c), 35)] [] w9 := HK
        refine wpList_nil ?_
        show Code.wp _ _ _ _ _
        replace F := F.cut [(109, .int .i64 (k : Int)), (108, .int .i64 (n.p.subs.length : Int)), (107, .slice a n.p.subs.length c), (12, .pointer (some ⟨V, 0, none⟩)), (7, .pointer (some ⟨x.s, 0, none⟩)), (6, .bool false), (5, .bool false), (4, .string ⟨#[]⟩), (3, .pointer (some ⟨B, 0, none⟩)), (0, .pointer (some ⟨m, 0, none⟩))] (by kernel_rfl)
        have hfy := find_put_self L { x with v := vv, S := (dropAll x.S (n.p.subs.take k)) }
        have hst := HMO.st _ (find_mem hfy).1
        have hsb : BoxAt w9 x.s (stV x) 74 := hst.box
        have hgx : BoxAt w9 V #[.string x1.1, .int .u8 (x1.2 : Int)] 77 := HK.at 0 rfl
        clear hsb hgx hst
        refine wp_region_noPanic ?_
        have hb8 : Below w9.heap.size w9 w9.drew := below_draws (n := 1) rfl
        replace HK := HK.below hb8
        replace HMO := HMO.below hb8
        replace HON := HON.then hb8
        clear hb8
        refine AnyT.begin (S := fun w' => BoxAt w' x.s (stV x) 74 ∧ BoxAt w' V #[.string x1.1, .int .u8 (x1.2 : Int)] 77) (z := 1000) (by kernel_rfl) ⟨(HMO.st _ (find_mem (find_put_self L { x with v := vv, S := (dropAll x.S (n.p.subs.take k)) })).1).box, HK.at 0 rfl⟩ (fun hS0 => ?_)
        clear hS0
        generalize w9.drew = w8 at *
        clear w9
        rename World => w9
        refine fr_chT F [0, 1, 2] [(115, .pointer (some ⟨x.s, 0, none⟩)), (114, .pointer (some ⟨x.s, 0, none⟩)), (113, .pointer (some ⟨x.s, 0, none⟩))] ⟨(HMO.st _ (find_mem (find_put_self L { x with v := vv, S := (dropAll x.S (n.p.subs.take k)) })).1).box, HK.at 0 rfl⟩ (by kernel_rfl) ?_
        clear F a9
        intro a9 F
        refine fr_takeG (i := 3) (o := ⟨some 116, _, _, _, _, _⟩) F ⟨(HMO.st _ (find_mem (find_put_self L { x with v := vv, S := (dropAll x.S (n.p.subs.take k)) })).1).box, HK.at 0 rfl⟩ rfl (wanted_free rfl) 116 rfl (by decide) (.pointer (some ⟨x.g, 0, none⟩)) (fun w9 hS => (by intro a' F'; have h115 := F'.at' 115 _ rfl; have hc : w9.cell? ⟨x.s, 0, none⟩ = some (.pointer (some ⟨x.g, 0, none⟩)) := hS.1.cells 0; go_simp)) ?_
        clear F a9
        intro a9 F
        refine fr_chT F [4] [(117, .pointer (some ⟨V, 0, none⟩))] ⟨(HMO.st _ (find_mem (find_put_self L { x with v := vv, S := (dropAll x.S (n.p.subs.take k)) })).1).box, HK.at 0 rfl⟩ (by kernel_rfl) ?_
        clear F a9
        intro a9 F
        refine fr_takeG (i := 5) (o := ⟨some 118, _, _, _, _, _⟩) F ⟨(HMO.st _ (find_mem (find_put_self L { x with v := vv, S := (dropAll x.S (n.p.subs.take k)) })).1).box, HK.at 0 rfl⟩ rfl (wanted_free rfl) 118 rfl (by decide) (.string x1.1) (fun w9 hS => (by intro a' F'; have h117 := F'.at' 117 _ rfl; have hc : w9.cell? ⟨V, 0, none⟩ = some (.string x1.1) := hS.2.cells 0; go_simp)) ?_
        clear F a9
        intro a9 F
        have hst := HMO.st _ (find_mem (find_put_self L { x with v := vv, S := (dropAll x.S (n.p.subs.take k)) })).1
        have hBb : BoxAt w9 B (ntV n a c) 35 := HK.at 1 rfl
        have hsz9 := HON.size
        refine fr_stepC (i := 6) (o := ⟨some 119, _, _, _, _, _⟩) F rfl (wanted_free rfl) 119 rfl (by decide) 45 #[.pointer (some ⟨x.g, 0, none⟩), .string x1.1] (by intro a' F'; have h116 := F'.at' 116 _ rfl; have h118 := F'.at' 118 _ rfl; go_simp) (subs_Drop w0.heap.size x.g vv (dropAll x.S (n.p.subs.take k)) x1.1 w9 hst.list hst.fine HK.size) ?_
        rintro e9 w8 ⟨v2, rfl, hl2, ho2, hv2⟩
        have hFx : ∀ j, Foot x.g vv j → FootM m M K KM (putL L { x with v := vv, S := (dropAll x.S (n.p.subs.take k)) }) j := fun j hj => FootM.seat (find_put_self L { x with v := vv, S := (dropAll x.S (n.p.subs.take k)) }) (Or.inr hj)
        have hlo : ∀ j, Foot x.g vv j → w0.heap.size ≤ j := fun j hj => by
          rcases hj with rfl | hj
          · exact hst.list.lo
          · exact (hst.list.own.lt hj).2
        replace HK := HK.onlyF ho2 hlo (fun z hz => by
          rcases List.mem_cons.1 hz with rfl | hz
          · exact fun h => hVF (hFx _ h)
          · rw [List.mem_singleton.1 hz]; exact fun h => HMO.boxFar (by decide) hBb (hFx _ h))
        replace HON := HON.trans ho2 (fun j hj h => by
          rcases h with rfl | h
          · exact FootM.seat HX (Or.inr (Or.inl rfl))
          · rcases hvv _ h with h3 | h3
            · exact FootM.seat HX (Or.inr (Or.inr h3))
            · omega)
        have hv3 : ∀ r, v2.ownBlock = some r → x.v.ownBlock = some r ∨ w.heap.size ≤ r := fun r hr => (hv2 r hr).elim (fun h => hvv r h) (fun h => Or.inr (Nat.le_trans hsz9 h))
        have HMO2 := HMO.list (find_put_self L { x with v := vv, S := (dropAll x.S (n.p.subs.take k)) }) ho2 hl2 (delS_fine hst.fine _) hv2
        rw [put_put (by rfl)] at HMO2
        replace HMO := HMO2
        clear HMO2 hst hl2 ho2 hv2 hvv hFx hlo hVF hBb hsz9
        clear w9
        rename World => w9
        refine ⟨_, rfl, ⟨(HMO.st _ (find_mem (find_put_self L { x with v := v2, S := (delS (dropAll x.S (n.p.subs.take k)) (bl x1.1)) })).1).box, HK.at 0 rfl⟩, ?_⟩
        clear F a9
        intro a9 F
        refine AnyT.done (by kernel_rfl) ?_ _
        refine NoPanic.normal ?_
        have e1 : dropAll x.S (n.p.subs.take (k + 1)) = delS (dropAll x.S (n.p.subs.take k)) (bl x1.1) := by rw [htk]; unfold dropAll; rw [List.foldl_append]; rfl
        rw [← e1] at HMO
        exact ⟨v2, (((((((((((FrL.nil F.size F.defers).add 0 _ (F.at' 0 _ rfl)).add 3 _ (F.at' 3 _ rfl)).add 4 _ (F.at' 4 _ rfl)).add 5 _ (F.at' 5 _ rfl)).add 6 _ (F.at' 6 _ rfl)).add 7 _ (F.at' 7 _ rfl)).add 107 _ (F.at' 107 _ rfl)).add 108 _ (F.at' 108 _ rfl)).add 109 _ (F.at' 109 _ rfl))), HMO, HK.sub (List.sublist_cons_self _ _) (fun r hr => hr), HON, hv3⟩
      · clear F a9 HMO HK HON hvv hal hrg
        rintro a9 w7 ⟨vv, F, HMO, HK, HON, hvv⟩
        clear w9
        rename World => w9
        show Code.wp _ _ _ _ _
        refine wp_region_lit ?_
        refine fr_do F (wanted_free rfl) 120 rfl (by decide) (.int .i64 ((k + 1 : Nat) : Int)) (by intro a' F'; have h109 := F'.at' 109 _ rfl; go_simp <;> (rw [IntKind.wrap_i64]; omega)) ?_
        clear F a9
        intro a9 F
        refine fr_ch F 1 [(109, .int .i64 ((k + 1 : Nat) : Int))] (by kernel_rfl) ?_
        clear F a9
        intro a9 F
        refine wpList_nil ?_
        replace F := F.cut [(109, .int .i64 ((k + 1 : Nat) : Int)), (108, .int .i64 (n.p.subs.length : Int)), (107, .slice a n.p.subs.length c), (7, .pointer (some ⟨x.s, 0, none⟩)), (6, .bool false), (5, .bool false), (4, .string ⟨#[]⟩), (3, .pointer (some ⟨B, 0, none⟩)), (0, .pointer (some ⟨m, 0, none⟩))] (by kernel_rfl)
        refine ⟨⟨k + 1, by omega, vv, F, HMO, HK, HON, hvv⟩, ?_⟩
        rw [muI_at F 109 (k + 1) rfl]
        omega
    · have hk2 : k = n.p.subs.length := by omega
      subst hk2
      refine wp_region_lit ?_
      refine fr_do F (wanted_free rfl) 110 rfl (by decide) (.bool false) (by intro a' F'; have h109 := F'.at' 109 _ rfl; have h108 := F'.at' 108 _ rfl; go_simp) ?_
      clear F a9
      intro a9 F
      refine wpList_nil ?_
      show Code.wp _ _ _ _ _
      refine wp_seq ?_
      refine wp_cond_false (F.ev 110 rfl) ?_
      refine wp_exit ?_
      exact then_exit (then_exit (exit_in ⟨vv, n.p.subs.length, ((((((((((FrL.nil F.size F.defers).add 0 _ (F.at' 0 _ rfl)).add 3 _ (F.at' 3 _ rfl)).add 4 _ (F.at' 4 _ rfl)).add 5 _ (F.at' 5 _ rfl)).add 6 _ (F.at' 6 _ rfl)).add 7 _ (F.at' 7 _ rfl)).add 107 _ (F.at' 107 _ rfl)).add 108 _ (F.at' 108 _ rfl)).add 109 _ (F.at' 109 _ rfl)), HMO, HK, HON, hvv⟩))
  · clear F a9 HMO HK HON
    rintro a9 w8 ⟨vv, kk, F, HMO, HK, HON, hvv⟩
    clear w9
    rename World => w9
    show Code.wp _ _ _ _ _
    rw [List.take_length] at HMO
    replace F := F.cut [(7, .pointer (some ⟨x.s, 0, none⟩)), (6, .bool false), (5, .bool false), (4, .string ⟨#[]⟩), (3, .pointer (some ⟨B, 0, none⟩))] (by kernel_rfl)
    refine wp_seq ?_
    refine wp_region_lit ?_
    refine fr_ch F 3 [(6, .bool true), (5, .bool false), (4, .string ⟨#[]⟩)] (by kernel_rfl) ?_
    clear F a9
    intro a9 F
    refine wpList_nil ?_
    show Code.wp _ _ _ _ _
    have HA : applyS (absL L) n = ((e0, false, true), updS (absL L) n.client (some { conn := x.conn, clean := x.clean, S := dropAll x.S n.p.subs })) := by unfold applyS; rw [if_neg (by omega), if_neg (by omega), if_neg hty, absL_some HX]; dsimp only; rw [if_neg (by rintro (h | h); exact hc h; exact h hxc), if_neg h8, if_pos h10]
    refine wp_ret ?_
    exact fr_ret3t F rfl _ _ _ rfl rfl rfl (FIN.out _ _ _ (putL L { x with v := vv, S := dropAll x.S n.p.subs }) _ (by rw [HA]; rfl) (by rw [HA]) (by rw [HA]) (by rw [HA, abs_put, show ({ x with v := vv, S := dropAll x.S n.p.subs } : St).client = n.client from (find_mem HX).2]) ⟨HMO, HK.sub (List.nil_sublist _) (fun r hr => hr), HON, fun k hk => (FootM.put HND.out hk).elim Or.inl (fun h => h.elim (fun e => Or.inl (FootM.seat HX (Or.inl e))) (fun h => h.elim (fun e => Or.inl (FootM.seat HX (Or.inr (Or.inl e)))) (fun h => (hvv k h).elim (fun h => Or.inl (FootM.seat HX (Or.inr (Or.inr h)))) Or.inr)))⟩)
end Go.Proofs.YtmppkgonkkffhaaDoor

/- The walk of the model's Apply of a session's end; Apply whole. Conditions: the model lies behind its pointer; the decoder's tables lie as Go lays them; bounds on a note's texts and filters. -/
namespace Go.Proofs.YtmppkgonkkffhaaDoor
open Go.RowKit
theorem FootM.del {m M K KM : Nat} {L : List St} {c : ByteArray} {k : Nat} (h : FootM m M K KM (delL L c) k) : FootM m M K KM L k := by
  rcases h with h | h | h | h | ⟨x, hx, h⟩
  · exact Or.inl h
  · exact Or.inr (Or.inl h)
  · exact Or.inr (Or.inr (Or.inl h))
  · exact Or.inr (Or.inr (Or.inr (Or.inl h)))
  · exact Or.inr (Or.inr (Or.inr (Or.inr ⟨x, (del_sub L c).subset hx, h⟩)))
set_option maxRecDepth 100000 in
set_option maxHeartbeats 4000000 in
theorem apply_end14true {w0 w : World} {m M K KM : Nat} {L : List St} (n : Nt) (a : Option Addr) (c : Nat) (HK : Keep w0 [] [] w) (HMO : MoAt w w0.heap.size m M K KM L) (hk : n.kind = 2) (hty : n.p.ty ≠ 1) {x : St} (HX : findL L n.client = some x) (hc : ¬ n.conn < 1) (hxc : x.conn = n.conn) (h8 : ¬ n.p.ty = 8) (h10 : ¬ n.p.ty = 10) (hd : n.p.ty = 14) (hxl : x.clean = true) : Calls Tryd.prog 21 #[.pointer (some ⟨m, 0, none⟩), .agg (ntV n a c)] w fun e w' => ∃ L', e = .returned (.tuple #[.string (applyS (absL L) n).1.1, .bool (applyS (absL L) n).1.2.1, .bool (applyS (absL L) n).1.2.2]) ∧ absL L' = (applyS (absL L) n).2 ∧ MOut w0 w m M K KM L L' w' := by
  obtain ⟨RR, hRR⟩ : ∃ RR : Ending → World → Prop, RR = fun e w' => ∃ L', e = .returned (.tuple #[.string (applyS (absL L) n).1.1, .bool (applyS (absL L) n).1.2.1, .bool (applyS (absL L) n).1.2.2]) ∧ absL L' = (applyS (absL L) n).2 ∧ MOut w0 w m M K KM L L' w' := ⟨_, rfl⟩
  have FIN := Lib.hid (show ∀ s p o' L' w', s = (applyS (absL L) n).1.1 → p = (applyS (absL L) n).1.2.1 → o' = (applyS (absL L) n).1.2.2 → absL L' = (applyS (absL L) n).2 → MOut w0 w m M K KM L L' w' → RR (.returned (.tuple #[.string s, .bool p, .bool o'])) w' from fun s p o' L' w' h0 h1 h2 h3 h4 => by rw [hRR, h0, h1, h2]; exact ⟨L', rfl, h3, h4⟩)
  rw [← hRR]
  have HND := Lib.hid HMO.nd
  have HF0 := Lib.hid (fun k hk => HMO.foot (k := k) hk)
  obtain ⟨w9, hw9⟩ : ∃ w9, w9 = w := ⟨_, rfl⟩
  have HON : Only (FootM m M K KM L) w w9 := by rw [hw9]; exact Only.refl _ _
  rw [← hw9] at HK HMO
  suffices hgo : Calls Tryd.prog 21 #[.pointer (some ⟨m, 0, none⟩), .agg (ntV n a c)] w9 RR by rw [hw9] at hgo; exact hgo
  clear hw9 hRR
  go_enter Tryd.func21, Tryd.ntmps21
  refine wp_forget (n := 137) (L := [(1, .agg (ntV n a c)), (0, .pointer (some ⟨m, 0, none⟩))]) (FrL.add (FrL.add (FrL.nil ?_ ?_) _ _ ?_) _ _ ?_) ?_
  iterate 4 rfl
  intro a9 F
  refine wp_seq ?_
  refine wp_region_lit ?_
  refine fr_box F HK 3 (by decide) rfl 35 _ rfl rfl (ntV n a c) (fun a' F' => F'.ev 1 rfl) ?_
  rintro B a10 w10 hX F' HK' hb
  replace HMO := HMO.below hb
  replace HON := HON.then hb
  clear HK F hb hX
  clear a9 w9
  rename World => w9
  rename Act => a9
  have HK := HK'
  have F := F'
  clear HK' F'
  replace HK : Keep w0 [(B, (ntV n a c), 35)] [] w9 := HK
  refine fr_ch F 3 [(6, .bool false), (5, .bool false), (4, .string ⟨#[]⟩)] (by kernel_rfl) ?_
  clear F a9
  intro a9 F
  refine wpList_nil ?_
  show Code.wp _ _ _ _ _
  replace F := F.cut [(6, .bool false), (5, .bool false), (4, .string ⟨#[]⟩), (3, .pointer (some ⟨B, 0, none⟩)), (0, .pointer (some ⟨m, 0, none⟩))] (by kernel_rfl)
  refine wp_seq ?_
  refine wp_seq ?_
  refine wp_region_lit ?_
  refine fr_ch F 6 [(18, .pointer (some ⟨m, 0, none⟩)), (15, .bool false), (14, .bool false), (13, .pointer (some ⟨m, 0, none⟩))] (by kernel_rfl) ?_
  clear F a9
  intro a9 F
  refine fr_do F (by rw [wanted_at F rfl (t := 15) (b := false) (by kernel_rfl) rfl]; rfl) 19 rfl (by decide) (.map (some M)) (by intro a' F'; have h18 := F'.at' 18 _ rfl; have hc : w9.cell? ⟨m, 0, none⟩ = some (.map (some M)) := HMO.box.cells 0; go_simp) ?_
  clear F a9
  intro a9 F
  refine fr_do F (by rw [wanted_at F rfl (t := 15) (b := false) (by kernel_rfl) rfl]; rfl) 20 rfl (by decide) (.bool false) (fun a' F' => op_map_nil rfl (F'.ev 19 rfl) rfl) ?_
  clear F a9
  intro a9 F
  refine fr_ch F 1 [(21, .bool false)] (by kernel_rfl) ?_
  clear F a9
  intro a9 F
  refine wpList_nil ?_
  show Code.wp _ _ _ _ _
  refine wp_cond_false (F.ev 21 rfl) ?_
  refine wp_skip ?_
  show Code.wp _ _ _ _ _
  replace F := F.cut [(6, .bool false), (5, .bool false), (4, .string ⟨#[]⟩), (3, .pointer (some ⟨B, 0, none⟩)), (0, .pointer (some ⟨m, 0, none⟩))] (by kernel_rfl)
  refine wp_seq ?_
  refine wp_block ?_
  refine wp_seq ?_
  refine wp_region_lit ?_
  refine fr_ch F 1 [(23, .pointer (some ⟨B, 0, none⟩))] (by kernel_rfl) ?_
  clear F a9
  intro a9 F
  refine fr_do F (wanted_free rfl) 24 rfl (by decide) (.int .u8 (n.kind : Int)) (by intro a' F'; have hc : w9.cell? ⟨B, 0, none⟩ = some (.int .u8 (n.kind : Int)) := (HK.at 0 rfl).cells 0; have h23 := F'.at' 23 _ rfl; go_simp) ?_
  clear F a9
  intro a9 F
  refine fr_do F (wanted_free rfl) 25 rfl (by decide) (.bool false) (by intro a' F'; have h24 := F'.at' 24 _ rfl; go_simp) ?_
  clear F a9
  intro a9 F
  refine fr_ch F 1 [(22, .bool false)] (by kernel_rfl) ?_
  clear F a9
  intro a9 F
  refine wpList_nil ?_
  show Code.wp _ _ _ _ _
  refine wp_cond_false (F.ev 22 rfl) ?_
  replace F := F.cut [(6, .bool false), (5, .bool false), (4, .string ⟨#[]⟩), (3, .pointer (some ⟨B, 0, none⟩)), (0, .pointer (some ⟨m, 0, none⟩))] (by kernel_rfl)
  refine wp_seq ?_
  refine wp_region_lit ?_
  refine fr_ch F 1 [(34, .pointer (some ⟨B, 0, none⟩))] (by kernel_rfl) ?_
  clear F a9
  intro a9 F
  refine fr_do F (wanted_free rfl) 35 rfl (by decide) (.int .u8 (n.kind : Int)) (by intro a' F'; have hc : w9.cell? ⟨B, 0, none⟩ = some (.int .u8 (n.kind : Int)) := (HK.at 0 rfl).cells 0; have h34 := F'.at' 34 _ rfl; go_simp) ?_
  clear F a9
  intro a9 F
  refine fr_do F (wanted_free rfl) 36 rfl (by decide) (.bool false) (by intro a' F'; have h35 := F'.at' 35 _ rfl; go_simp) ?_
  clear F a9
  intro a9 F
  refine fr_ch F 1 [(33, .bool false)] (by kernel_rfl) ?_
  clear F a9
  intro a9 F
  refine wpList_nil ?_
  show Code.wp _ _ _ _ _
  refine wp_cond_false (F.ev 33 rfl) ?_
  replace F := F.cut [(6, .bool false), (5, .bool false), (4, .string ⟨#[]⟩), (3, .pointer (some ⟨B, 0, none⟩)), (0, .pointer (some ⟨m, 0, none⟩))] (by kernel_rfl)
  refine wp_seq ?_
  refine wp_region_lit ?_
  refine fr_ch F 2 [(39, .pointer (some ⟨B, 4, none⟩))] (by kernel_rfl) ?_
  clear F a9
  intro a9 F
  refine fr_do F (wanted_free rfl) 40 rfl (by decide) (.int .u8 (n.p.ty : Int)) (by intro a' F'; have hc : w9.cell? ⟨B, 4, none⟩ = some (.int .u8 (n.p.ty : Int)) := (HK.at 0 rfl).cells 4; have h39 := F'.at' 39 _ rfl; go_simp) ?_
  clear F a9
  intro a9 F
  refine fr_do F (wanted_free rfl) 41 rfl (by decide) (.bool false) (by intro a' F'; have h40 := F'.at' 40 _ rfl; go_simp) ?_
  clear F a9
  intro a9 F
  refine fr_ch F 1 [(37, .bool false)] (by kernel_rfl) ?_
  clear F a9
  intro a9 F
  refine wpList_nil ?_
  show Code.wp _ _ _ _ _
  refine wp_cond_false (F.ev 37 rfl) ?_
  replace F := F.cut [(6, .bool false), (5, .bool false), (4, .string ⟨#[]⟩), (3, .pointer (some ⟨B, 0, none⟩)), (0, .pointer (some ⟨m, 0, none⟩))] (by kernel_rfl)
  refine wp_skip ?_
  show Code.wp _ _ _ _ _
  refine wp_seq ?_
  refine wp_region_lit ?_
  refine fr_ch F 2 [(51, .pointer (some ⟨B, 3, none⟩)), (50, .pointer (some ⟨m, 0, none⟩))] (by kernel_rfl) ?_
  clear F a9
  intro a9 F
  refine fr_do F (wanted_free rfl) 52 rfl (by decide) (.string n.client) (by intro a' F'; have hc : w9.cell? ⟨B, 3, none⟩ = some (.string n.client) := (HK.at 0 rfl).cells 3; have h51 := F'.at' 51 _ rfl; go_simp) ?_
  clear F a9
  intro a9 F
  refine fr_call F (wanted_free rfl) 53 rfl (by decide) 43 #[.pointer (some ⟨m, 0, none⟩), .string n.client] (by intro a' F'; have h50 := F'.at' 50 _ rfl; have h52 := F'.at' 52 _ rfl; go_simp) (model_seat w9 n.client HMO) ?_
  rintro e9 w8 ⟨rfl, rfl⟩
  rw [HX]
  refine ⟨_, rfl, ?_⟩
  clear F a9
  intro a9 F
  refine fr_as F (wanted_free rfl) 7 rfl (by decide) 53 rfl rfl ?_
  clear F a9
  intro a9 F
  refine wpList_nil ?_
  show Code.wp _ _ _ _ _
  replace F := F.cut [(7, .pointer (some ⟨x.s, 0, none⟩)), (6, .bool false), (5, .bool false), (4, .string ⟨#[]⟩), (3, .pointer (some ⟨B, 0, none⟩)), (0, .pointer (some ⟨m, 0, none⟩))] (by kernel_rfl)
  refine wp_seq ?_
  refine wp_seq ?_
  refine wp_region_noPanic ?_
  have hb8 : Below w9.heap.size w9 w9.drew := below_draws (n := 1) rfl
  replace HK := HK.below hb8
  replace HMO := HMO.below hb8
  replace HON := HON.then hb8
  clear hb8
  refine AnyT.begin (S := fun w' => BoxAt w' B (ntV n a c) 35 ∧ BoxAt w' x.s (stV x) 74) (z := 1000) (by kernel_rfl) ⟨HK.at 0 rfl, (HMO.st x (find_mem HX).1).box⟩ (fun hS0 => ?_)
  clear hS0
  generalize w9.drew = w8 at *
  clear w9
  rename World => w9
  refine fr_chT F [0, 1, 2, 3] [(57, .pointer (some ⟨B, 2, none⟩)), (56, .bool false), (55, .bool false), (54, .pointer (some ⟨x.s, 0, none⟩))] ⟨HK.at 0 rfl, (HMO.st x (find_mem HX).1).box⟩ (by kernel_rfl) ?_
  clear F a9
  intro a9 F
  refine fr_takeG (i := 4) (o := ⟨some 58, _, _, _, _, _⟩) F ⟨HK.at 0 rfl, (HMO.st x (find_mem HX).1).box⟩ rfl (by rw [wanted_at F rfl (t := 56) (b := false) (by kernel_rfl) rfl]; rfl) 58 rfl (by decide) (.int .i64 n.conn) (fun w9 hS => (by intro a' F'; have h57 := F'.at' 57 _ rfl; have hc : w9.cell? ⟨B, 2, none⟩ = some (.int .i64 n.conn) := hS.1.cells 2; go_simp)) ?_
  clear F a9
  intro a9 F
  refine fr_takeG (i := 5) (o := ⟨some 59, _, _, _, _, _⟩) F ⟨HK.at 0 rfl, (HMO.st x (find_mem HX).1).box⟩ rfl (by rw [wanted_at F rfl (t := 56) (b := false) (by kernel_rfl) rfl]; rfl) 59 rfl (by decide) (.bool false) (fun w9 hS => (by intro a' F'; have h58 := F'.at' 58 _ rfl; go_simp)) ?_
  clear F a9
  intro a9 F
  refine fr_chT F [6, 7, 8, 9, 10] [(64, .pointer (some ⟨x.s, 1, none⟩)), (63, .pointer (some ⟨x.s, 0, none⟩)), (62, .pointer (some ⟨x.s, 0, none⟩)), (61, .bool false), (60, .bool false)] ⟨HK.at 0 rfl, (HMO.st x (find_mem HX).1).box⟩ (by kernel_rfl) ?_
  clear F a9
  intro a9 F
  refine fr_takeG (i := 11) (o := ⟨some 65, _, _, _, _, _⟩) F ⟨HK.at 0 rfl, (HMO.st x (find_mem HX).1).box⟩ rfl (by rw [wanted_at F rfl (t := 61) (b := false) (by kernel_rfl) rfl]; rfl) 65 rfl (by decide) (.int .i64 x.conn) (fun w9 hS => (by intro a' F'; have h64 := F'.at' 64 _ rfl; have hc : w9.cell? ⟨x.s, 1, none⟩ = some (.int .i64 x.conn) := hS.2.cells 1; go_simp)) ?_
  clear F a9
  intro a9 F
  refine fr_chT F [12] [(66, .pointer (some ⟨B, 2, none⟩))] ⟨HK.at 0 rfl, (HMO.st x (find_mem HX).1).box⟩ (by kernel_rfl) ?_
  clear F a9
  intro a9 F
  refine fr_takeG (i := 13) (o := ⟨some 67, _, _, _, _, _⟩) F ⟨HK.at 0 rfl, (HMO.st x (find_mem HX).1).box⟩ rfl (by rw [wanted_at F rfl (t := 61) (b := false) (by kernel_rfl) rfl]; rfl) 67 rfl (by decide) (.int .i64 n.conn) (fun w9 hS => (by intro a' F'; have h66 := F'.at' 66 _ rfl; have hc : w9.cell? ⟨B, 2, none⟩ = some (.int .i64 n.conn) := hS.1.cells 2; go_simp)) ?_
  clear F a9
  intro a9 F
  refine fr_takeG (i := 14) (o := ⟨some 68, _, _, _, _, _⟩) F ⟨HK.at 0 rfl, (HMO.st x (find_mem HX).1).box⟩ rfl (by rw [wanted_at F rfl (t := 61) (b := false) (by kernel_rfl) rfl]; rfl) 68 rfl (by decide) (.bool false) (fun w9 hS => (by intro a' F'; have h65 := F'.at' 65 _ rfl; have h67 := F'.at' 67 _ rfl; go_simp)) ?_
  clear F a9
  intro a9 F
  refine fr_chT F [15] [(69, .bool false)] ⟨HK.at 0 rfl, (HMO.st x (find_mem HX).1).box⟩ (by kernel_rfl) ?_
  clear F a9
  intro a9 F
  refine AnyT.done (by kernel_rfl) ?_ _
  refine NoPanic.normal ?_
  show Code.wp _ _ _ _ _
  refine wp_cond_false (F.ev 69 rfl) ?_
  refine wp_skip ?_
  show Code.wp _ _ _ _ _
  replace F := F.cut [(7, .pointer (some ⟨x.s, 0, none⟩)), (6, .bool false), (5, .bool false), (4, .string ⟨#[]⟩), (3, .pointer (some ⟨B, 0, none⟩)), (0, .pointer (some ⟨m, 0, none⟩))] (by kernel_rfl)
  refine wp_seq ?_
  refine wp_seq ?_
  refine wp_region_lit ?_
  refine fr_ch F 2 [(71, .pointer (some ⟨B, 4, none⟩))] (by kernel_rfl) ?_
  clear F a9
  intro a9 F
  refine fr_do F (wanted_free rfl) 72 rfl (by decide) (.int .u8 (n.p.ty : Int)) (by intro a' F'; have hc : w9.cell? ⟨B, 4, none⟩ = some (.int .u8 (n.p.ty : Int)) := (HK.at 0 rfl).cells 4; have h71 := F'.at' 71 _ rfl; go_simp) ?_
  clear F a9
  intro a9 F
  refine wpList_nil ?_
  show Code.wp _ _ _ _ _
  replace F := F.cut [(72, .int .u8 (n.p.ty : Int)), (7, .pointer (some ⟨x.s, 0, none⟩)), (6, .bool false), (5, .bool false), (4, .string ⟨#[]⟩), (3, .pointer (some ⟨B, 0, none⟩)), (0, .pointer (some ⟨m, 0, none⟩))] (by kernel_rfl)
  refine wp_block ?_
  refine wp_seq ?_
  refine wp_region_lit ?_
  refine fr_do F (wanted_free rfl) 74 rfl (by decide) (.bool false) (by intro a' F'; have h72 := F'.at' 72 _ rfl; go_simp) ?_
  clear F a9
  intro a9 F
  refine fr_ch F 1 [(73, .bool false)] (by kernel_rfl) ?_
  clear F a9
  intro a9 F
  refine wpList_nil ?_
  show Code.wp _ _ _ _ _
  refine wp_cond_false (F.ev 73 rfl) ?_
  replace F := F.cut [(72, .int .u8 (n.p.ty : Int)), (7, .pointer (some ⟨x.s, 0, none⟩)), (6, .bool false), (5, .bool false), (4, .string ⟨#[]⟩), (3, .pointer (some ⟨B, 0, none⟩)), (0, .pointer (some ⟨m, 0, none⟩))] (by kernel_rfl)
  refine wp_seq ?_
  refine wp_region_lit ?_
  refine fr_do F (wanted_free rfl) 104 rfl (by decide) (.bool false) (by intro a' F'; have h72 := F'.at' 72 _ rfl; go_simp) ?_
  clear F a9
  intro a9 F
  refine fr_ch F 1 [(103, .bool false)] (by kernel_rfl) ?_
  clear F a9
  intro a9 F
  refine wpList_nil ?_
  show Code.wp _ _ _ _ _
  refine wp_cond_false (F.ev 103 rfl) ?_
  replace F := F.cut [(72, .int .u8 (n.p.ty : Int)), (7, .pointer (some ⟨x.s, 0, none⟩)), (6, .bool false), (5, .bool false), (4, .string ⟨#[]⟩), (3, .pointer (some ⟨B, 0, none⟩)), (0, .pointer (some ⟨m, 0, none⟩))] (by kernel_rfl)
  refine wp_seq ?_
  refine wp_seq ?_
  refine wp_region_lit ?_
  refine fr_do F (wanted_free rfl) 122 rfl (by decide) (.bool true) (by intro a' F'; have h72 := F'.at' 72 _ rfl; go_simp) ?_
  clear F a9
  intro a9 F
  refine fr_ch F 1 [(121, .bool true)] (by kernel_rfl) ?_
  clear F a9
  intro a9 F
  refine wpList_nil ?_
  show Code.wp _ _ _ _ _
  replace F := F.cut [(121, .bool true), (72, .int .u8 (n.p.ty : Int)), (7, .pointer (some ⟨x.s, 0, none⟩)), (6, .bool false), (5, .bool false), (4, .string ⟨#[]⟩), (3, .pointer (some ⟨B, 0, none⟩)), (0, .pointer (some ⟨m, 0, none⟩))] (by kernel_rfl)
  refine wp_cond_true (F.ev 121 rfl) ?_
  refine wp_skip ?_
  show Code.wp _ _ _ _ _
  refine wp_cond_true (F.ev 121 rfl) ?_
  replace F := F.cut [(7, .pointer (some ⟨x.s, 0, none⟩)), (6, .bool false), (5, .bool false), (4, .string ⟨#[]⟩), (3, .pointer (some ⟨B, 0, none⟩)), (0, .pointer (some ⟨m, 0, none⟩))] (by kernel_rfl)
  have hst := HMO.st x (find_mem HX).1
  have HK2 := HK.withBox ⟨x.s, stV x, 74⟩ hst.box hst.lo (fun z hz => by rw [List.mem_singleton.1 hz]; exact box_ne (HK.at 0 rfl) hst.box (by decide))
  clear HK hst
  have HK := HK2
  clear HK2
  have HX1 : findL L x.client = some x := by rw [(find_mem HX).2]; exact HX
  replace HK : Keep w0 [(x.s, (stV x), 74), (B, (ntV n a c), 35)] [] w9 := HK
  refine wp_seq ?_
  refine wp_region_lit ?_
  refine fr_ch F 3 [(126, .pointer (some ⟨x.s, 1, none⟩))] (by kernel_rfl) ?_
  clear F a9
  intro a9 F
  refine fr_putO F HK 0 rfl rfl rfl 3 _ _ rfl 1 (.int .i64 0) (fun a' F' => F'.ev 126 rfl) (fun a' F' => rfl) z_intM (Nat.le_of_ble_eq_true (by kernel_rfl)) (by kernel_rfl) ?_
  intro a10 w10 F' HK' HO
  replace HMO := HMO.turn (y := { x with conn := 0 }) HX1 rfl rfl rfl rfl HO (HK'.at 0 rfl)
  replace HON := HON.trans HO (fun j _ h => h ▸ FootM.seat HX (Or.inl rfl))
  clear HK F HO
  clear a9 w9
  rename World => w9
  rename Act => a9
  have HK := HK'
  have F := F'
  clear HK' F'
  replace HK : Keep w0 [(x.s, (stV { x with conn := 0 }), 74), (B, (ntV n a c), 35)] [] w9 := HK
  refine wpList_nil ?_
  show Code.wp _ _ _ _ _
  replace F := F.cut [(7, .pointer (some ⟨x.s, 0, none⟩)), (6, .bool false), (5, .bool false), (4, .string ⟨#[]⟩), (3, .pointer (some ⟨B, 0, none⟩)), (0, .pointer (some ⟨m, 0, none⟩))] (by kernel_rfl)
  refine wp_seq ?_
  refine wp_region_lit ?_
  refine fr_ch F 3 [(129, .pointer (some ⟨x.s, 2, none⟩))] (by kernel_rfl) ?_
  clear F a9
  intro a9 F
  refine fr_do F (wanted_free rfl) 130 rfl (by decide) (.bool true) (by intro a' F'; have h129 := F'.at' 129 _ rfl; have hc : w9.cell? ⟨x.s, 2, none⟩ = some (.bool true) := ((HK.at 0 rfl).cells 2).trans (congrArg (fun b => some (Value.bool b)) hxl); go_simp) ?_
  clear F a9
  intro a9 F
  refine wpList_nil ?_
  show Code.wp _ _ _ _ _
  refine wp_cond_true (F.ev 130 rfl) ?_
  replace F := F.cut [(7, .pointer (some ⟨x.s, 0, none⟩)), (6, .bool false), (5, .bool false), (4, .string ⟨#[]⟩), (3, .pointer (some ⟨B, 0, none⟩)), (0, .pointer (some ⟨m, 0, none⟩))] (by kernel_rfl)
  refine wp_region_noPanic ?_
  have hb8 : Below w9.heap.size w9 w9.drew := below_draws (n := 1) rfl
  replace HK := HK.below hb8
  replace HMO := HMO.below hb8
  replace HON := HON.then hb8
  clear hb8
  refine AnyT.begin (S := fun w' => BoxAt w' m #[.map (some M), .pointer (some ⟨K, 0, none⟩)] 66 ∧ BoxAt w' B (ntV n a c) 35) (z := 1000) (by kernel_rfl) ⟨HMO.box, HK.at 1 rfl⟩ (fun hS0 => ?_)
  clear hS0
  generalize w9.drew = w8 at *
  clear w9
  rename World => w9
  refine fr_chT F [0, 1, 2] [(133, .pointer (some ⟨m, 0, none⟩)), (132, .pointer (some ⟨m, 0, none⟩)), (131, .pointer (some ⟨m, 0, none⟩))] ⟨HMO.box, HK.at 1 rfl⟩ (by kernel_rfl) ?_
  clear F a9
  intro a9 F
  refine fr_takeG (i := 3) (o := ⟨some 134, _, _, _, _, _⟩) F ⟨HMO.box, HK.at 1 rfl⟩ rfl (wanted_free rfl) 134 rfl (by decide) (.map (some M)) (fun w9 hS => (by intro a' F'; have h133 := F'.at' 133 _ rfl; have hc : w9.cell? ⟨m, 0, none⟩ = some (.map (some M)) := hS.1.cells 0; go_simp)) ?_
  clear F a9
  intro a9 F
  refine fr_chT F [4] [(135, .pointer (some ⟨B, 3, none⟩))] ⟨HMO.box, HK.at 1 rfl⟩ (by kernel_rfl) ?_
  clear F a9
  intro a9 F
  refine fr_takeG (i := 5) (o := ⟨some 136, _, _, _, _, _⟩) F ⟨HMO.box, HK.at 1 rfl⟩ rfl (wanted_free rfl) 136 rfl (by decide) (.string n.client) (fun w9 hS => (by intro a' F'; have h135 := F'.at' 135 _ rfl; have hc : w9.cell? ⟨B, 3, none⟩ = some (.string n.client) := hS.2.cells 3; go_simp)) ?_
  clear F a9
  intro a9 F
  have hBM := box_map_ne (HK.at 1 rfl) HMO.map
  have hxM : x.s ≠ M := (HMO.far _ (find_mem (find_put_self L { x with conn := 0 })).1 _ (Or.inl rfl)).2.1
  obtain ⟨w7, hm7, ho7, hrun⟩ := op_delete keyS Tryd.underlying62 HMO.map n.client 9
  refine fr_stepVn (i := 6) (o := ⟨none, _, _, _, _, _⟩) F rfl rfl rfl (.tuple #[]) w7 (fun a' F' => hrun rfl (F'.ev 134 rfl) (F'.ev 136 rfl)) ⟨?_, ?_⟩ ?_
  · exact HMO.box.only ho7 HMO.ne.1
  · exact (HK.at 1 rfl).only ho7 hBM
  replace HON := HON.trans ho7 (fun j _ h => h ▸ Or.inr (Or.inl rfl))
  replace HK := HK.onlyOut ho7 HMO.lo.2.1 (fun z hz => by rcases List.mem_cons.1 hz with rfl | hz; exact hxM; rw [List.mem_singleton.1 hz]; exact hBM)
  replace HMO := HMO.del (c := n.client) ho7 (by rw [entM_del]; exact hm7)
  clear hrun hm7 ho7 w9
  rename World => w9
  clear F a9
  intro a9 F
  refine AnyT.done (by kernel_rfl) ?_ _
  refine NoPanic.normal ?_
  show Code.wp _ _ _ _ _
  replace F := F.cut [(7, .pointer (some ⟨x.s, 0, none⟩)), (6, .bool false), (5, .bool false), (4, .string ⟨#[]⟩), (3, .pointer (some ⟨B, 0, none⟩)), (0, .pointer (some ⟨m, 0, none⟩))] (by kernel_rfl)
  refine wp_seq ?_
  refine wp_region_lit ?_
  refine fr_ch F 3 [(6, .bool true), (5, .bool false), (4, .string ⟨#[]⟩)] (by kernel_rfl) ?_
  clear F a9
  intro a9 F
  refine wpList_nil ?_
  show Code.wp _ _ _ _ _
  have HA : applyS (absL L) n = ((e0, false, true), updS (absL L) n.client none) := by unfold applyS; rw [if_neg (by omega), if_neg (by omega), if_neg hty, absL_some HX]; dsimp only; rw [if_neg (by rintro (h | h); exact hc h; exact h hxc), if_neg h8, if_neg h10, if_pos (Or.inl hd), if_pos hxl]
  refine wp_ret ?_
  exact fr_ret3t F rfl _ _ _ rfl rfl rfl (FIN.out _ _ _ (delL (putL L { x with conn := 0 }) n.client) _ (by rw [HA]; rfl) (by rw [HA]) (by rw [HA]) (by rw [HA, abs_del n.client (put_nd HND.out), abs_put, show ({ x with conn := 0 } : St).client = n.client from (find_mem HX).2, upd_upd]) ⟨HMO, HK.sub (List.nil_sublist _) (fun r hr => hr), HON, fun k hk => (FootM.put HND.out hk.del).elim Or.inl (fun h => Or.inl (FootM.seat HX h))⟩)
set_option maxRecDepth 100000 in
set_option maxHeartbeats 4000000 in
theorem apply_end14false {w0 w : World} {m M K KM : Nat} {L : List St} (n : Nt) (a : Option Addr) (c : Nat) (HK : Keep w0 [] [] w) (HMO : MoAt w w0.heap.size m M K KM L) (hk : n.kind = 2) (hty : n.p.ty ≠ 1) {x : St} (HX : findL L n.client = some x) (hc : ¬ n.conn < 1) (hxc : x.conn = n.conn) (h8 : ¬ n.p.ty = 8) (h10 : ¬ n.p.ty = 10) (hd : n.p.ty = 14) (hxl : x.clean = false) : Calls Tryd.prog 21 #[.pointer (some ⟨m, 0, none⟩), .agg (ntV n a c)] w fun e w' => ∃ L', e = .returned (.tuple #[.string (applyS (absL L) n).1.1, .bool (applyS (absL L) n).1.2.1, .bool (applyS (absL L) n).1.2.2]) ∧ absL L' = (applyS (absL L) n).2 ∧ MOut w0 w m M K KM L L' w' := by
  obtain ⟨RR, hRR⟩ : ∃ RR : Ending → World → Prop, RR = fun e w' => ∃ L', e = .returned (.tuple #[.string (applyS (absL L) n).1.1, .bool (applyS (absL L) n).1.2.1, .bool (applyS (absL L) n).1.2.2]) ∧ absL L' = (applyS (absL L) n).2 ∧ MOut w0 w m M K KM L L' w' := ⟨_, rfl⟩
  have FIN := Lib.hid (show ∀ s p o' L' w', s = (applyS (absL L) n).1.1 → p = (applyS (absL L) n).1.2.1 → o' = (applyS (absL L) n).1.2.2 → absL L' = (applyS (absL L) n).2 → MOut w0 w m M K KM L L' w' → RR (.returned (.tuple #[.string s, .bool p, .bool o'])) w' from fun s p o' L' w' h0 h1 h2 h3 h4 => by rw [hRR, h0, h1, h2]; exact ⟨L', rfl, h3, h4⟩)
  rw [← hRR]
  have HND := Lib.hid HMO.nd
  have HF0 := Lib.hid (fun k hk => HMO.foot (k := k) hk)
  obtain ⟨w9, hw9⟩ : ∃ w9, w9 = w := ⟨_, rfl⟩
  have HON : Only (FootM m M K KM L) w w9 := by rw [hw9]; exact Only.refl _ _
  rw [← hw9] at HK HMO
  suffices hgo : Calls Tryd.prog 21 #[.pointer (some ⟨m, 0, none⟩), .agg (ntV n a c)] w9 RR by rw [hw9] at hgo; exact hgo
  clear hw9 hRR
  go_enter Tryd.func21, Tryd.ntmps21
  refine wp_forget (n := 137) (L := [(1, .agg (ntV n a c)), (0, .pointer (some ⟨m, 0, none⟩))]) (FrL.add (FrL.add (FrL.nil ?_ ?_) _ _ ?_) _ _ ?_) ?_
  iterate 4 rfl
  intro a9 F
  refine wp_seq ?_
  refine wp_region_lit ?_
  refine fr_box F HK 3 (by decide) rfl 35 _ rfl rfl (ntV n a c) (fun a' F' => F'.ev 1 rfl) ?_
  rintro B a10 w10 hX F' HK' hb
  replace HMO := HMO.below hb
  replace HON := HON.then hb
  clear HK F hb hX
  clear a9 w9
  rename World => w9
  rename Act => a9
  have HK := HK'
  have F := F'
  clear HK' F'
  replace HK : Keep w0 [(B, (ntV n a c), 35)] [] w9 := HK
  refine fr_ch F 3 [(6, .bool false), (5, .bool false), (4, .string ⟨#[]⟩)] (by kernel_rfl) ?_
  clear F a9
  intro a9 F
  refine wpList_nil ?_
  show Code.wp _ _ _ _ _
  replace F := F.cut [(6, .bool false), (5, .bool false), (4, .string ⟨#[]⟩), (3, .pointer (some ⟨B, 0, none⟩)), (0, .pointer (some ⟨m, 0, none⟩))] (by kernel_rfl)
  refine wp_seq ?_
  refine wp_seq ?_
  refine wp_region_lit ?_
  refine fr_ch F 6 [(18, .pointer (some ⟨m, 0, none⟩)), (15, .bool false), (14, .bool false), (13, .pointer (some ⟨m, 0, none⟩))] (by kernel_rfl) ?_
  clear F a9
  intro a9 F
  refine fr_do F (by rw [wanted_at F rfl (t := 15) (b := false) (by kernel_rfl) rfl]; rfl) 19 rfl (by decide) (.map (some M)) (by intro a' F'; have h18 := F'.at' 18 _ rfl; have hc : w9.cell? ⟨m, 0, none⟩ = some (.map (some M)) := HMO.box.cells 0; go_simp) ?_
  clear F a9
  intro a9 F
  refine fr_do F (by rw [wanted_at F rfl (t := 15) (b := false) (by kernel_rfl) rfl]; rfl) 20 rfl (by decide) (.bool false) (fun a' F' => op_map_nil rfl (F'.ev 19 rfl) rfl) ?_
  clear F a9
  intro a9 F
  refine fr_ch F 1 [(21, .bool false)] (by kernel_rfl) ?_
  clear F a9
  intro a9 F
  refine wpList_nil ?_
  show Code.wp _ _ _ _ _
  refine wp_cond_false (F.ev 21 rfl) ?_
  refine wp_skip ?_
  show Code.wp _ _ _ _ _
  replace F := F.cut [(6, .bool false), (5, .bool false), (4, .string ⟨#[]⟩), (3, .pointer (some ⟨B, 0, none⟩)), (0, .pointer (some ⟨m, 0, none⟩))] (by kernel_rfl)
  refine wp_seq ?_
  refine wp_block ?_
  refine wp_seq ?_
  refine wp_region_lit ?_
  refine fr_ch F 1 [(23, .pointer (some ⟨B, 0, none⟩))] (by kernel_rfl) ?_
  clear F a9
  intro a9 F
  refine fr_do F (wanted_free rfl) 24 rfl (by decide) (.int .u8 (n.kind : Int)) (by intro a' F'; have hc : w9.cell? ⟨B, 0, none⟩ = some (.int .u8 (n.kind : Int)) := (HK.at 0 rfl).cells 0; have h23 := F'.at' 23 _ rfl; go_simp) ?_
  clear F a9
  intro a9 F
  refine fr_do F (wanted_free rfl) 25 rfl (by decide) (.bool false) (by intro a' F'; have h24 := F'.at' 24 _ rfl; go_simp) ?_
  clear F a9
  intro a9 F
  refine fr_ch F 1 [(22, .bool false)] (by kernel_rfl) ?_
  clear F a9
  intro a9 F
  refine wpList_nil ?_
  show Code.wp _ _ _ _ _
  refine wp_cond_false (F.ev 22 rfl) ?_
  replace F := F.cut [(6, .bool false), (5, .bool false), (4, .string ⟨#[]⟩), (3, .pointer (some ⟨B, 0, none⟩)), (0, .pointer (some ⟨m, 0, none⟩))] (by kernel_rfl)
  refine wp_seq ?_
  refine wp_region_lit ?_
  refine fr_ch F 1 [(34, .pointer (some ⟨B, 0, none⟩))] (by kernel_rfl) ?_
  clear F a9
  intro a9 F
  refine fr_do F (wanted_free rfl) 35 rfl (by decide) (.int .u8 (n.kind : Int)) (by intro a' F'; have hc : w9.cell? ⟨B, 0, none⟩ = some (.int .u8 (n.kind : Int)) := (HK.at 0 rfl).cells 0; have h34 := F'.at' 34 _ rfl; go_simp) ?_
  clear F a9
  intro a9 F
  refine fr_do F (wanted_free rfl) 36 rfl (by decide) (.bool false) (by intro a' F'; have h35 := F'.at' 35 _ rfl; go_simp) ?_
  clear F a9
  intro a9 F
  refine fr_ch F 1 [(33, .bool false)] (by kernel_rfl) ?_
  clear F a9
  intro a9 F
  refine wpList_nil ?_
  show Code.wp _ _ _ _ _
  refine wp_cond_false (F.ev 33 rfl) ?_
  replace F := F.cut [(6, .bool false), (5, .bool false), (4, .string ⟨#[]⟩), (3, .pointer (some ⟨B, 0, none⟩)), (0, .pointer (some ⟨m, 0, none⟩))] (by kernel_rfl)
  refine wp_seq ?_
  refine wp_region_lit ?_
  refine fr_ch F 2 [(39, .pointer (some ⟨B, 4, none⟩))] (by kernel_rfl) ?_
  clear F a9
  intro a9 F
  refine fr_do F (wanted_free rfl) 40 rfl (by decide) (.int .u8 (n.p.ty : Int)) (by intro a' F'; have hc : w9.cell? ⟨B, 4, none⟩ = some (.int .u8 (n.p.ty : Int)) := (HK.at 0 rfl).cells 4; have h39 := F'.at' 39 _ rfl; go_simp) ?_
  clear F a9
  intro a9 F
  refine fr_do F (wanted_free rfl) 41 rfl (by decide) (.bool false) (by intro a' F'; have h40 := F'.at' 40 _ rfl; go_simp) ?_
  clear F a9
  intro a9 F
  refine fr_ch F 1 [(37, .bool false)] (by kernel_rfl) ?_
  clear F a9
  intro a9 F
  refine wpList_nil ?_
  show Code.wp _ _ _ _ _
  refine wp_cond_false (F.ev 37 rfl) ?_
  replace F := F.cut [(6, .bool false), (5, .bool false), (4, .string ⟨#[]⟩), (3, .pointer (some ⟨B, 0, none⟩)), (0, .pointer (some ⟨m, 0, none⟩))] (by kernel_rfl)
  refine wp_skip ?_
  show Code.wp _ _ _ _ _
  refine wp_seq ?_
  refine wp_region_lit ?_
  refine fr_ch F 2 [(51, .pointer (some ⟨B, 3, none⟩)), (50, .pointer (some ⟨m, 0, none⟩))] (by kernel_rfl) ?_
  clear F a9
  intro a9 F
  refine fr_do F (wanted_free rfl) 52 rfl (by decide) (.string n.client) (by intro a' F'; have hc : w9.cell? ⟨B, 3, none⟩ = some (.string n.client) := (HK.at 0 rfl).cells 3; have h51 := F'.at' 51 _ rfl; go_simp) ?_
  clear F a9
  intro a9 F
  refine fr_call F (wanted_free rfl) 53 rfl (by decide) 43 #[.pointer (some ⟨m, 0, none⟩), .string n.client] (by intro a' F'; have h50 := F'.at' 50 _ rfl; have h52 := F'.at' 52 _ rfl; go_simp) (model_seat w9 n.client HMO) ?_
  rintro e9 w8 ⟨rfl, rfl⟩
  rw [HX]
  refine ⟨_, rfl, ?_⟩
  clear F a9
  intro a9 F
  refine fr_as F (wanted_free rfl) 7 rfl (by decide) 53 rfl rfl ?_
  clear F a9
  intro a9 F
  refine wpList_nil ?_
  show Code.wp _ _ _ _ _
  replace F := F.cut [(7, .pointer (some ⟨x.s, 0, none⟩)), (6, .bool false), (5, .bool false), (4, .string ⟨#[]⟩), (3, .pointer (some ⟨B, 0, none⟩)), (0, .pointer (some ⟨m, 0, none⟩))] (by kernel_rfl)
  refine wp_seq ?_
  refine wp_seq ?_
  refine wp_region_noPanic ?_
  have hb8 : Below w9.heap.size w9 w9.drew := below_draws (n := 1) rfl
  replace HK := HK.below hb8
  replace HMO := HMO.below hb8
  replace HON := HON.then hb8
  clear hb8
  refine AnyT.begin (S := fun w' => BoxAt w' B (ntV n a c) 35 ∧ BoxAt w' x.s (stV x) 74) (z := 1000) (by kernel_rfl) ⟨HK.at 0 rfl, (HMO.st x (find_mem HX).1).box⟩ (fun hS0 => ?_)
  clear hS0
  generalize w9.drew = w8 at *
  clear w9
  rename World => w9
  refine fr_chT F [0, 1, 2, 3] [(57, .pointer (some ⟨B, 2, none⟩)), (56, .bool false), (55, .bool false), (54, .pointer (some ⟨x.s, 0, none⟩))] ⟨HK.at 0 rfl, (HMO.st x (find_mem HX).1).box⟩ (by kernel_rfl) ?_
  clear F a9
  intro a9 F
  refine fr_takeG (i := 4) (o := ⟨some 58, _, _, _, _, _⟩) F ⟨HK.at 0 rfl, (HMO.st x (find_mem HX).1).box⟩ rfl (by rw [wanted_at F rfl (t := 56) (b := false) (by kernel_rfl) rfl]; rfl) 58 rfl (by decide) (.int .i64 n.conn) (fun w9 hS => (by intro a' F'; have h57 := F'.at' 57 _ rfl; have hc : w9.cell? ⟨B, 2, none⟩ = some (.int .i64 n.conn) := hS.1.cells 2; go_simp)) ?_
  clear F a9
  intro a9 F
  refine fr_takeG (i := 5) (o := ⟨some 59, _, _, _, _, _⟩) F ⟨HK.at 0 rfl, (HMO.st x (find_mem HX).1).box⟩ rfl (by rw [wanted_at F rfl (t := 56) (b := false) (by kernel_rfl) rfl]; rfl) 59 rfl (by decide) (.bool false) (fun w9 hS => (by intro a' F'; have h58 := F'.at' 58 _ rfl; go_simp)) ?_
  clear F a9
  intro a9 F
  refine fr_chT F [6, 7, 8, 9, 10] [(64, .pointer (some ⟨x.s, 1, none⟩)), (63, .pointer (some ⟨x.s, 0, none⟩)), (62, .pointer (some ⟨x.s, 0, none⟩)), (61, .bool false), (60, .bool false)] ⟨HK.at 0 rfl, (HMO.st x (find_mem HX).1).box⟩ (by kernel_rfl) ?_
  clear F a9
  intro a9 F
  refine fr_takeG (i := 11) (o := ⟨some 65, _, _, _, _, _⟩) F ⟨HK.at 0 rfl, (HMO.st x (find_mem HX).1).box⟩ rfl (by rw [wanted_at F rfl (t := 61) (b := false) (by kernel_rfl) rfl]; rfl) 65 rfl (by decide) (.int .i64 x.conn) (fun w9 hS => (by intro a' F'; have h64 := F'.at' 64 _ rfl; have hc : w9.cell? ⟨x.s, 1, none⟩ = some (.int .i64 x.conn) := hS.2.cells 1; go_simp)) ?_
  clear F a9
  intro a9 F
  refine fr_chT F [12] [(66, .pointer (some ⟨B, 2, none⟩))] ⟨HK.at 0 rfl, (HMO.st x (find_mem HX).1).box⟩ (by kernel_rfl) ?_
  clear F a9
  intro a9 F
  refine fr_takeG (i := 13) (o := ⟨some 67, _, _, _, _, _⟩) F ⟨HK.at 0 rfl, (HMO.st x (find_mem HX).1).box⟩ rfl (by rw [wanted_at F rfl (t := 61) (b := false) (by kernel_rfl) rfl]; rfl) 67 rfl (by decide) (.int .i64 n.conn) (fun w9 hS => (by intro a' F'; have h66 := F'.at' 66 _ rfl; have hc : w9.cell? ⟨B, 2, none⟩ = some (.int .i64 n.conn) := hS.1.cells 2; go_simp)) ?_
  clear F a9
  intro a9 F
  refine fr_takeG (i := 14) (o := ⟨some 68, _, _, _, _, _⟩) F ⟨HK.at 0 rfl, (HMO.st x (find_mem HX).1).box⟩ rfl (by rw [wanted_at F rfl (t := 61) (b := false) (by kernel_rfl) rfl]; rfl) 68 rfl (by decide) (.bool false) (fun w9 hS => (by intro a' F'; have h65 := F'.at' 65 _ rfl; have h67 := F'.at' 67 _ rfl; go_simp)) ?_
  clear F a9
  intro a9 F
  refine fr_chT F [15] [(69, .bool false)] ⟨HK.at 0 rfl, (HMO.st x (find_mem HX).1).box⟩ (by kernel_rfl) ?_
  clear F a9
  intro a9 F
  refine AnyT.done (by kernel_rfl) ?_ _
  refine NoPanic.normal ?_
  show Code.wp _ _ _ _ _
  refine wp_cond_false (F.ev 69 rfl) ?_
  refine wp_skip ?_
  show Code.wp _ _ _ _ _
  replace F := F.cut [(7, .pointer (some ⟨x.s, 0, none⟩)), (6, .bool false), (5, .bool false), (4, .string ⟨#[]⟩), (3, .pointer (some ⟨B, 0, none⟩)), (0, .pointer (some ⟨m, 0, none⟩))] (by kernel_rfl)
  refine wp_seq ?_
  refine wp_seq ?_
  refine wp_region_lit ?_
  refine fr_ch F 2 [(71, .pointer (some ⟨B, 4, none⟩))] (by kernel_rfl) ?_
  clear F a9
  intro a9 F
  refine fr_do F (wanted_free rfl) 72 rfl (by decide) (.int .u8 (n.p.ty : Int)) (by intro a' F'; have hc : w9.cell? ⟨B, 4, none⟩ = some (.int .u8 (n.p.ty : Int)) := (HK.at 0 rfl).cells 4; have h71 := F'.at' 71 _ rfl; go_simp) ?_
  clear F a9
  intro a9 F
  refine wpList_nil ?_
  show Code.wp _ _ _ _ _
  replace F := F.cut [(72, .int .u8 (n.p.ty : Int)), (7, .pointer (some ⟨x.s, 0, none⟩)), (6, .bool false), (5, .bool false), (4, .string ⟨#[]⟩), (3, .pointer (some ⟨B, 0, none⟩)), (0, .pointer (some ⟨m, 0, none⟩))] (by kernel_rfl)
  refine wp_block ?_
  refine wp_seq ?_
  refine wp_region_lit ?_
  refine fr_do F (wanted_free rfl) 74 rfl (by decide) (.bool false) (by intro a' F'; have h72 := F'.at' 72 _ rfl; go_simp) ?_
  clear F a9
  intro a9 F
  refine fr_ch F 1 [(73, .bool false)] (by kernel_rfl) ?_
  clear F a9
  intro a9 F
  refine wpList_nil ?_
  show Code.wp _ _ _ _ _
  refine wp_cond_false (F.ev 73 rfl) ?_
  replace F := F.cut [(72, .int .u8 (n.p.ty : Int)), (7, .pointer (some ⟨x.s, 0, none⟩)), (6, .bool false), (5, .bool false), (4, .string ⟨#[]⟩), (3, .pointer (some ⟨B, 0, none⟩)), (0, .pointer (some ⟨m, 0, none⟩))] (by kernel_rfl)
  refine wp_seq ?_
  refine wp_region_lit ?_
  refine fr_do F (wanted_free rfl) 104 rfl (by decide) (.bool false) (by intro a' F'; have h72 := F'.at' 72 _ rfl; go_simp) ?_
  clear F a9
  intro a9 F
  refine fr_ch F 1 [(103, .bool false)] (by kernel_rfl) ?_
  clear F a9
  intro a9 F
  refine wpList_nil ?_
  show Code.wp _ _ _ _ _
  refine wp_cond_false (F.ev 103 rfl) ?_
  replace F := F.cut [(72, .int .u8 (n.p.ty : Int)), (7, .pointer (some ⟨x.s, 0, none⟩)), (6, .bool false), (5, .bool false), (4, .string ⟨#[]⟩), (3, .pointer (some ⟨B, 0, none⟩)), (0, .pointer (some ⟨m, 0, none⟩))] (by kernel_rfl)
  refine wp_seq ?_
  refine wp_seq ?_
  refine wp_region_lit ?_
  refine fr_do F (wanted_free rfl) 122 rfl (by decide) (.bool true) (by intro a' F'; have h72 := F'.at' 72 _ rfl; go_simp) ?_
  clear F a9
  intro a9 F
  refine fr_ch F 1 [(121, .bool true)] (by kernel_rfl) ?_
  clear F a9
  intro a9 F
  refine wpList_nil ?_
  show Code.wp _ _ _ _ _
  replace F := F.cut [(121, .bool true), (72, .int .u8 (n.p.ty : Int)), (7, .pointer (some ⟨x.s, 0, none⟩)), (6, .bool false), (5, .bool false), (4, .string ⟨#[]⟩), (3, .pointer (some ⟨B, 0, none⟩)), (0, .pointer (some ⟨m, 0, none⟩))] (by kernel_rfl)
  refine wp_cond_true (F.ev 121 rfl) ?_
  refine wp_skip ?_
  show Code.wp _ _ _ _ _
  refine wp_cond_true (F.ev 121 rfl) ?_
  replace F := F.cut [(7, .pointer (some ⟨x.s, 0, none⟩)), (6, .bool false), (5, .bool false), (4, .string ⟨#[]⟩), (3, .pointer (some ⟨B, 0, none⟩)), (0, .pointer (some ⟨m, 0, none⟩))] (by kernel_rfl)
  have hst := HMO.st x (find_mem HX).1
  have HK2 := HK.withBox ⟨x.s, stV x, 74⟩ hst.box hst.lo (fun z hz => by rw [List.mem_singleton.1 hz]; exact box_ne (HK.at 0 rfl) hst.box (by decide))
  clear HK hst
  have HK := HK2
  clear HK2
  have HX1 : findL L x.client = some x := by rw [(find_mem HX).2]; exact HX
  replace HK : Keep w0 [(x.s, (stV x), 74), (B, (ntV n a c), 35)] [] w9 := HK
  refine wp_seq ?_
  refine wp_region_lit ?_
  refine fr_ch F 3 [(126, .pointer (some ⟨x.s, 1, none⟩))] (by kernel_rfl) ?_
  clear F a9
  intro a9 F
  refine fr_putO F HK 0 rfl rfl rfl 3 _ _ rfl 1 (.int .i64 0) (fun a' F' => F'.ev 126 rfl) (fun a' F' => rfl) z_intM (Nat.le_of_ble_eq_true (by kernel_rfl)) (by kernel_rfl) ?_
  intro a10 w10 F' HK' HO
  replace HMO := HMO.turn (y := { x with conn := 0 }) HX1 rfl rfl rfl rfl HO (HK'.at 0 rfl)
  replace HON := HON.trans HO (fun j _ h => h ▸ FootM.seat HX (Or.inl rfl))
  clear HK F HO
  clear a9 w9
  rename World => w9
  rename Act => a9
  have HK := HK'
  have F := F'
  clear HK' F'
  replace HK : Keep w0 [(x.s, (stV { x with conn := 0 }), 74), (B, (ntV n a c), 35)] [] w9 := HK
  refine wpList_nil ?_
  show Code.wp _ _ _ _ _
  replace F := F.cut [(7, .pointer (some ⟨x.s, 0, none⟩)), (6, .bool false), (5, .bool false), (4, .string ⟨#[]⟩), (3, .pointer (some ⟨B, 0, none⟩)), (0, .pointer (some ⟨m, 0, none⟩))] (by kernel_rfl)
  refine wp_seq ?_
  refine wp_region_lit ?_
  refine fr_ch F 3 [(129, .pointer (some ⟨x.s, 2, none⟩))] (by kernel_rfl) ?_
  clear F a9
  intro a9 F
  refine fr_do F (wanted_free rfl) 130 rfl (by decide) (.bool false) (by intro a' F'; have h129 := F'.at' 129 _ rfl; have hc : w9.cell? ⟨x.s, 2, none⟩ = some (.bool false) := ((HK.at 0 rfl).cells 2).trans (congrArg (fun b => some (Value.bool b)) hxl); go_simp) ?_
  clear F a9
  intro a9 F
  refine wpList_nil ?_
  show Code.wp _ _ _ _ _
  refine wp_cond_false (F.ev 130 rfl) ?_
  replace F := F.cut [(7, .pointer (some ⟨x.s, 0, none⟩)), (6, .bool false), (5, .bool false), (4, .string ⟨#[]⟩), (3, .pointer (some ⟨B, 0, none⟩)), (0, .pointer (some ⟨m, 0, none⟩))] (by kernel_rfl)
  refine wp_skip ?_
  show Code.wp _ _ _ _ _
  refine wp_seq ?_
  refine wp_region_lit ?_
  refine fr_ch F 3 [(6, .bool true), (5, .bool false), (4, .string ⟨#[]⟩)] (by kernel_rfl) ?_
  clear F a9
  intro a9 F
  refine wpList_nil ?_
  show Code.wp _ _ _ _ _
  have HA : applyS (absL L) n = ((e0, false, true), updS (absL L) n.client (some { conn := 0, clean := x.clean, S := x.S })) := by unfold applyS; rw [if_neg (by omega), if_neg (by omega), if_neg hty, absL_some HX]; dsimp only; rw [if_neg (by rintro (h | h); exact hc h; exact h hxc), if_neg h8, if_neg h10, if_pos (Or.inl hd), if_neg (by rw [hxl]; decide)]
  refine wp_ret ?_
  exact fr_ret3t F rfl _ _ _ rfl rfl rfl (FIN.out _ _ _ (putL L { x with conn := 0 }) _ (by rw [HA]; rfl) (by rw [HA]) (by rw [HA]) (by rw [HA, abs_put, show ({ x with conn := 0 } : St).client = n.client from (find_mem HX).2]) ⟨HMO, HK.sub (List.nil_sublist _) (fun r hr => hr), HON, fun k hk => (FootM.put HND.out hk).elim Or.inl (fun h => Or.inl (FootM.seat HX h))⟩)
set_option maxRecDepth 100000 in
set_option maxHeartbeats 4000000 in
theorem apply_end0true {w0 w : World} {m M K KM : Nat} {L : List St} (n : Nt) (a : Option Addr) (c : Nat) (HK : Keep w0 [] [] w) (HMO : MoAt w w0.heap.size m M K KM L) (hk : n.kind = 2) (hty : n.p.ty ≠ 1) {x : St} (HX : findL L n.client = some x) (hc : ¬ n.conn < 1) (hxc : x.conn = n.conn) (h8 : ¬ n.p.ty = 8) (h10 : ¬ n.p.ty = 10) (hd : n.p.ty = 0) (hxl : x.clean = true) : Calls Tryd.prog 21 #[.pointer (some ⟨m, 0, none⟩), .agg (ntV n a c)] w fun e w' => ∃ L', e = .returned (.tuple #[.string (applyS (absL L) n).1.1, .bool (applyS (absL L) n).1.2.1, .bool (applyS (absL L) n).1.2.2]) ∧ absL L' = (applyS (absL L) n).2 ∧ MOut w0 w m M K KM L L' w' := by
  obtain ⟨RR, hRR⟩ : ∃ RR : Ending → World → Prop, RR = fun e w' => ∃ L', e = .returned (.tuple #[.string (applyS (absL L) n).1.1, .bool (applyS (absL L) n).1.2.1, .bool (applyS (absL L) n).1.2.2]) ∧ absL L' = (applyS (absL L) n).2 ∧ MOut w0 w m M K KM L L' w' := ⟨_, rfl⟩
  have FIN := Lib.hid (show ∀ s p o' L' w', s = (applyS (absL L) n).1.1 → p = (applyS (absL L) n).1.2.1 → o' = (applyS (absL L) n).1.2.2 → absL L' = (applyS (absL L) n).2 → MOut w0 w m M K KM L L' w' → RR (.returned (.tuple #[.string s, .bool p, .bool o'])) w' from fun s p o' L' w' h0 h1 h2 h3 h4 => by rw [hRR, h0, h1, h2]; exact ⟨L', rfl, h3, h4⟩)
  rw [← hRR]
  have HND := Lib.hid HMO.nd
  have HF0 := Lib.hid (fun k hk => HMO.foot (k := k) hk)
  obtain ⟨w9, hw9⟩ : ∃ w9, w9 = w := ⟨_, rfl⟩
  have HON : Only (FootM m M K KM L) w w9 := by rw [hw9]; exact Only.refl _ _
  rw [← hw9] at HK HMO
  suffices hgo : Calls Tryd.prog 21 #[.pointer (some ⟨m, 0, none⟩), .agg (ntV n a c)] w9 RR by rw [hw9] at hgo; exact hgo
  clear hw9 hRR
  go_enter Tryd.func21, Tryd.ntmps21
  refine wp_forget (n := 137) (L := [(1, .agg (ntV n a c)), (0, .pointer (some ⟨m, 0, none⟩))]) (FrL.add (FrL.add (FrL.nil ?_ ?_) _ _ ?_) _ _ ?_) ?_
  iterate 4 rfl
  intro a9 F
  refine wp_seq ?_
  refine wp_region_lit ?_
  refine fr_box F HK 3 (by decide) rfl 35 _ rfl rfl (ntV n a c) (fun a' F' => F'.ev 1 rfl) ?_
  rintro B a10 w10 hX F' HK' hb
  replace HMO := HMO.below hb
  replace HON := HON.then hb
  clear HK F hb hX
  clear a9 w9
  rename World => w9
  rename Act => a9
  have HK := HK'
  have F := F'
  clear HK' F'
  replace HK : Keep w0 [(B, (ntV n a c), 35)] [] w9 := HK
  refine fr_ch F 3 [(6, .bool false), (5, .bool false), (4, .string ⟨#[]⟩)] (by kernel_rfl) ?_
  clear F a9
  intro a9 F
  refine wpList_nil ?_
  show Code.wp _ _ _ _ _
  replace F := F.cut [(6, .bool false), (5, .bool false), (4, .string ⟨#[]⟩), (3, .pointer (some ⟨B, 0, none⟩)), (0, .pointer (some ⟨m, 0, none⟩))] (by kernel_rfl)
  refine wp_seq ?_
  refine wp_seq ?_
  refine wp_region_lit ?_
  refine fr_ch F 6 [(18, .pointer (some ⟨m, 0, none⟩)), (15, .bool false), (14, .bool false), (13, .pointer (some ⟨m, 0, none⟩))] (by kernel_rfl) ?_
  clear F a9
  intro a9 F
  refine fr_do F (by rw [wanted_at F rfl (t := 15) (b := false) (by kernel_rfl) rfl]; rfl) 19 rfl (by decide) (.map (some M)) (by intro a' F'; have h18 := F'.at' 18 _ rfl; have hc : w9.cell? ⟨m, 0, none⟩ = some (.map (some M)) := HMO.box.cells 0; go_simp) ?_
  clear F a9
  intro a9 F
  refine fr_do F (by rw [wanted_at F rfl (t := 15) (b := false) (by kernel_rfl) rfl]; rfl) 20 rfl (by decide) (.bool false) (fun a' F' => op_map_nil rfl (F'.ev 19 rfl) rfl) ?_
  clear F a9
  intro a9 F
  refine fr_ch F 1 [(21, .bool false)] (by kernel_rfl) ?_
  clear F a9
  intro a9 F
  refine wpList_nil ?_
  show Code.wp _ _ _ _ _
  refine wp_cond_false (F.ev 21 rfl) ?_
  refine wp_skip ?_
  show Code.wp _ _ _ _ _
  replace F := F.cut [(6, .bool false), (5, .bool false), (4, .string ⟨#[]⟩), (3, .pointer (some ⟨B, 0, none⟩)), (0, .pointer (some ⟨m, 0, none⟩))] (by kernel_rfl)
  refine wp_seq ?_
  refine wp_block ?_
  refine wp_seq ?_
  refine wp_region_lit ?_
  refine fr_ch F 1 [(23, .pointer (some ⟨B, 0, none⟩))] (by kernel_rfl) ?_
  clear F a9
  intro a9 F
  refine fr_do F (wanted_free rfl) 24 rfl (by decide) (.int .u8 (n.kind : Int)) (by intro a' F'; have hc : w9.cell? ⟨B, 0, none⟩ = some (.int .u8 (n.kind : Int)) := (HK.at 0 rfl).cells 0; have h23 := F'.at' 23 _ rfl; go_simp) ?_
  clear F a9
  intro a9 F
  refine fr_do F (wanted_free rfl) 25 rfl (by decide) (.bool false) (by intro a' F'; have h24 := F'.at' 24 _ rfl; go_simp) ?_
  clear F a9
  intro a9 F
  refine fr_ch F 1 [(22, .bool false)] (by kernel_rfl) ?_
  clear F a9
  intro a9 F
  refine wpList_nil ?_
  show Code.wp _ _ _ _ _
  refine wp_cond_false (F.ev 22 rfl) ?_
  replace F := F.cut [(6, .bool false), (5, .bool false), (4, .string ⟨#[]⟩), (3, .pointer (some ⟨B, 0, none⟩)), (0, .pointer (some ⟨m, 0, none⟩))] (by kernel_rfl)
  refine wp_seq ?_
  refine wp_region_lit ?_
  refine fr_ch F 1 [(34, .pointer (some ⟨B, 0, none⟩))] (by kernel_rfl) ?_
  clear F a9
  intro a9 F
  refine fr_do F (wanted_free rfl) 35 rfl (by decide) (.int .u8 (n.kind : Int)) (by intro a' F'; have hc : w9.cell? ⟨B, 0, none⟩ = some (.int .u8 (n.kind : Int)) := (HK.at 0 rfl).cells 0; have h34 := F'.at' 34 _ rfl; go_simp) ?_
  clear F a9
  intro a9 F
  refine fr_do F (wanted_free rfl) 36 rfl (by decide) (.bool false) (by intro a' F'; have h35 := F'.at' 35 _ rfl; go_simp) ?_
  clear F a9
  intro a9 F
  refine fr_ch F 1 [(33, .bool false)] (by kernel_rfl) ?_
  clear F a9
  intro a9 F
  refine wpList_nil ?_
  show Code.wp _ _ _ _ _
  refine wp_cond_false (F.ev 33 rfl) ?_
  replace F := F.cut [(6, .bool false), (5, .bool false), (4, .string ⟨#[]⟩), (3, .pointer (some ⟨B, 0, none⟩)), (0, .pointer (some ⟨m, 0, none⟩))] (by kernel_rfl)
  refine wp_seq ?_
  refine wp_region_lit ?_
  refine fr_ch F 2 [(39, .pointer (some ⟨B, 4, none⟩))] (by kernel_rfl) ?_
  clear F a9
  intro a9 F
  refine fr_do F (wanted_free rfl) 40 rfl (by decide) (.int .u8 (n.p.ty : Int)) (by intro a' F'; have hc : w9.cell? ⟨B, 4, none⟩ = some (.int .u8 (n.p.ty : Int)) := (HK.at 0 rfl).cells 4; have h39 := F'.at' 39 _ rfl; go_simp) ?_
  clear F a9
  intro a9 F
  refine fr_do F (wanted_free rfl) 41 rfl (by decide) (.bool false) (by intro a' F'; have h40 := F'.at' 40 _ rfl; go_simp) ?_
  clear F a9
  intro a9 F
  refine fr_ch F 1 [(37, .bool false)] (by kernel_rfl) ?_
  clear F a9
  intro a9 F
  refine wpList_nil ?_
  show Code.wp _ _ _ _ _
  refine wp_cond_false (F.ev 37 rfl) ?_
  replace F := F.cut [(6, .bool false), (5, .bool false), (4, .string ⟨#[]⟩), (3, .pointer (some ⟨B, 0, none⟩)), (0, .pointer (some ⟨m, 0, none⟩))] (by kernel_rfl)
  refine wp_skip ?_
  show Code.wp _ _ _ _ _
  refine wp_seq ?_
  refine wp_region_lit ?_
  refine fr_ch F 2 [(51, .pointer (some ⟨B, 3, none⟩)), (50, .pointer (some ⟨m, 0, none⟩))] (by kernel_rfl) ?_
  clear F a9
  intro a9 F
  refine fr_do F (wanted_free rfl) 52 rfl (by decide) (.string n.client) (by intro a' F'; have hc : w9.cell? ⟨B, 3, none⟩ = some (.string n.client) := (HK.at 0 rfl).cells 3; have h51 := F'.at' 51 _ rfl; go_simp) ?_
  clear F a9
  intro a9 F
  refine fr_call F (wanted_free rfl) 53 rfl (by decide) 43 #[.pointer (some ⟨m, 0, none⟩), .string n.client] (by intro a' F'; have h50 := F'.at' 50 _ rfl; have h52 := F'.at' 52 _ rfl; go_simp) (model_seat w9 n.client HMO) ?_
  rintro e9 w8 ⟨rfl, rfl⟩
  rw [HX]
  refine ⟨_, rfl, ?_⟩
  clear F a9
  intro a9 F
  refine fr_as F (wanted_free rfl) 7 rfl (by decide) 53 rfl rfl ?_
  clear F a9
  intro a9 F
  refine wpList_nil ?_
  show Code.wp _ _ _ _ _
  replace F := F.cut [(7, .pointer (some ⟨x.s, 0, none⟩)), (6, .bool false), (5, .bool false), (4, .string ⟨#[]⟩), (3, .pointer (some ⟨B, 0, none⟩)), (0, .pointer (some ⟨m, 0, none⟩))] (by kernel_rfl)
  refine wp_seq ?_
  refine wp_seq ?_
  refine wp_region_noPanic ?_
  have hb8 : Below w9.heap.size w9 w9.drew := below_draws (n := 1) rfl
  replace HK := HK.below hb8
  replace HMO := HMO.below hb8
  replace HON := HON.then hb8
  clear hb8
  refine AnyT.begin (S := fun w' => BoxAt w' B (ntV n a c) 35 ∧ BoxAt w' x.s (stV x) 74) (z := 1000) (by kernel_rfl) ⟨HK.at 0 rfl, (HMO.st x (find_mem HX).1).box⟩ (fun hS0 => ?_)
  clear hS0
  generalize w9.drew = w8 at *
  clear w9
  rename World => w9
  refine fr_chT F [0, 1, 2, 3] [(57, .pointer (some ⟨B, 2, none⟩)), (56, .bool false), (55, .bool false), (54, .pointer (some ⟨x.s, 0, none⟩))] ⟨HK.at 0 rfl, (HMO.st x (find_mem HX).1).box⟩ (by kernel_rfl) ?_
  clear F a9
  intro a9 F
  refine fr_takeG (i := 4) (o := ⟨some 58, _, _, _, _, _⟩) F ⟨HK.at 0 rfl, (HMO.st x (find_mem HX).1).box⟩ rfl (by rw [wanted_at F rfl (t := 56) (b := false) (by kernel_rfl) rfl]; rfl) 58 rfl (by decide) (.int .i64 n.conn) (fun w9 hS => (by intro a' F'; have h57 := F'.at' 57 _ rfl; have hc : w9.cell? ⟨B, 2, none⟩ = some (.int .i64 n.conn) := hS.1.cells 2; go_simp)) ?_
  clear F a9
  intro a9 F
  refine fr_takeG (i := 5) (o := ⟨some 59, _, _, _, _, _⟩) F ⟨HK.at 0 rfl, (HMO.st x (find_mem HX).1).box⟩ rfl (by rw [wanted_at F rfl (t := 56) (b := false) (by kernel_rfl) rfl]; rfl) 59 rfl (by decide) (.bool false) (fun w9 hS => (by intro a' F'; have h58 := F'.at' 58 _ rfl; go_simp)) ?_
  clear F a9
  intro a9 F
  refine fr_chT F [6, 7, 8, 9, 10] [(64, .pointer (some ⟨x.s, 1, none⟩)), (63, .pointer (some ⟨x.s, 0, none⟩)), (62, .pointer (some ⟨x.s, 0, none⟩)), (61, .bool false), (60, .bool false)] ⟨HK.at 0 rfl, (HMO.st x (find_mem HX).1).box⟩ (by kernel_rfl) ?_
  clear F a9
  intro a9 F
  refine fr_takeG (i := 11) (o := ⟨some 65, _, _, _, _, _⟩) F ⟨HK.at 0 rfl, (HMO.st x (find_mem HX).1).box⟩ rfl (by rw [wanted_at F rfl (t := 61) (b := false) (by kernel_rfl) rfl]; rfl) 65 rfl (by decide) (.int .i64 x.conn) (fun w9 hS => (by intro a' F'; have h64 := F'.at' 64 _ rfl; have hc : w9.cell? ⟨x.s, 1, none⟩ = some (.int .i64 x.conn) := hS.2.cells 1; go_simp)) ?_
  clear F a9
  intro a9 F
  refine fr_chT F [12] [(66, .pointer (some ⟨B, 2, none⟩))] ⟨HK.at 0 rfl, (HMO.st x (find_mem HX).1).box⟩ (by kernel_rfl) ?_
  clear F a9
  intro a9 F
  refine fr_takeG (i := 13) (o := ⟨some 67, _, _, _, _, _⟩) F ⟨HK.at 0 rfl, (HMO.st x (find_mem HX).1).box⟩ rfl (by rw [wanted_at F rfl (t := 61) (b := false) (by kernel_rfl) rfl]; rfl) 67 rfl (by decide) (.int .i64 n.conn) (fun w9 hS => (by intro a' F'; have h66 := F'.at' 66 _ rfl; have hc : w9.cell? ⟨B, 2, none⟩ = some (.int .i64 n.conn) := hS.1.cells 2; go_simp)) ?_
  clear F a9
  intro a9 F
  refine fr_takeG (i := 14) (o := ⟨some 68, _, _, _, _, _⟩) F ⟨HK.at 0 rfl, (HMO.st x (find_mem HX).1).box⟩ rfl (by rw [wanted_at F rfl (t := 61) (b := false) (by kernel_rfl) rfl]; rfl) 68 rfl (by decide) (.bool false) (fun w9 hS => (by intro a' F'; have h65 := F'.at' 65 _ rfl; have h67 := F'.at' 67 _ rfl; go_simp)) ?_
  clear F a9
  intro a9 F
  refine fr_chT F [15] [(69, .bool false)] ⟨HK.at 0 rfl, (HMO.st x (find_mem HX).1).box⟩ (by kernel_rfl) ?_
  clear F a9
  intro a9 F
  refine AnyT.done (by kernel_rfl) ?_ _
  refine NoPanic.normal ?_
  show Code.wp _ _ _ _ _
  refine wp_cond_false (F.ev 69 rfl) ?_
  refine wp_skip ?_
  show Code.wp _ _ _ _ _
  replace F := F.cut [(7, .pointer (some ⟨x.s, 0, none⟩)), (6, .bool false), (5, .bool false), (4, .string ⟨#[]⟩), (3, .pointer (some ⟨B, 0, none⟩)), (0, .pointer (some ⟨m, 0, none⟩))] (by kernel_rfl)
  refine wp_seq ?_
  refine wp_seq ?_
  refine wp_region_lit ?_
  refine fr_ch F 2 [(71, .pointer (some ⟨B, 4, none⟩))] (by kernel_rfl) ?_
  clear F a9
  intro a9 F
  refine fr_do F (wanted_free rfl) 72 rfl (by decide) (.int .u8 (n.p.ty : Int)) (by intro a' F'; have hc : w9.cell? ⟨B, 4, none⟩ = some (.int .u8 (n.p.ty : Int)) := (HK.at 0 rfl).cells 4; have h71 := F'.at' 71 _ rfl; go_simp) ?_
  clear F a9
  intro a9 F
  refine wpList_nil ?_
  show Code.wp _ _ _ _ _
  replace F := F.cut [(72, .int .u8 (n.p.ty : Int)), (7, .pointer (some ⟨x.s, 0, none⟩)), (6, .bool false), (5, .bool false), (4, .string ⟨#[]⟩), (3, .pointer (some ⟨B, 0, none⟩)), (0, .pointer (some ⟨m, 0, none⟩))] (by kernel_rfl)
  refine wp_block ?_
  refine wp_seq ?_
  refine wp_region_lit ?_
  refine fr_do F (wanted_free rfl) 74 rfl (by decide) (.bool false) (by intro a' F'; have h72 := F'.at' 72 _ rfl; go_simp) ?_
  clear F a9
  intro a9 F
  refine fr_ch F 1 [(73, .bool false)] (by kernel_rfl) ?_
  clear F a9
  intro a9 F
  refine wpList_nil ?_
  show Code.wp _ _ _ _ _
  refine wp_cond_false (F.ev 73 rfl) ?_
  replace F := F.cut [(72, .int .u8 (n.p.ty : Int)), (7, .pointer (some ⟨x.s, 0, none⟩)), (6, .bool false), (5, .bool false), (4, .string ⟨#[]⟩), (3, .pointer (some ⟨B, 0, none⟩)), (0, .pointer (some ⟨m, 0, none⟩))] (by kernel_rfl)
  refine wp_seq ?_
  refine wp_region_lit ?_
  refine fr_do F (wanted_free rfl) 104 rfl (by decide) (.bool false) (by intro a' F'; have h72 := F'.at' 72 _ rfl; go_simp) ?_
  clear F a9
  intro a9 F
  refine fr_ch F 1 [(103, .bool false)] (by kernel_rfl) ?_
  clear F a9
  intro a9 F
  refine wpList_nil ?_
  show Code.wp _ _ _ _ _
  refine wp_cond_false (F.ev 103 rfl) ?_
  replace F := F.cut [(72, .int .u8 (n.p.ty : Int)), (7, .pointer (some ⟨x.s, 0, none⟩)), (6, .bool false), (5, .bool false), (4, .string ⟨#[]⟩), (3, .pointer (some ⟨B, 0, none⟩)), (0, .pointer (some ⟨m, 0, none⟩))] (by kernel_rfl)
  refine wp_seq ?_
  refine wp_seq ?_
  refine wp_region_lit ?_
  refine fr_do F (wanted_free rfl) 122 rfl (by decide) (.bool false) (by intro a' F'; have h72 := F'.at' 72 _ rfl; go_simp) ?_
  clear F a9
  intro a9 F
  refine fr_ch F 1 [(121, .bool false)] (by kernel_rfl) ?_
  clear F a9
  intro a9 F
  refine wpList_nil ?_
  show Code.wp _ _ _ _ _
  replace F := F.cut [(121, .bool false), (72, .int .u8 (n.p.ty : Int)), (7, .pointer (some ⟨x.s, 0, none⟩)), (6, .bool false), (5, .bool false), (4, .string ⟨#[]⟩), (3, .pointer (some ⟨B, 0, none⟩)), (0, .pointer (some ⟨m, 0, none⟩))] (by kernel_rfl)
  refine wp_cond_false (F.ev 121 rfl) ?_
  refine wp_region_lit ?_
  refine fr_do F (wanted_free rfl) 123 rfl (by decide) (.bool true) (by intro a' F'; have h72 := F'.at' 72 _ rfl; go_simp) ?_
  clear F a9
  intro a9 F
  refine fr_ch F 1 [(121, .bool true)] (by kernel_rfl) ?_
  clear F a9
  intro a9 F
  refine wpList_nil ?_
  show Code.wp _ _ _ _ _
  replace F := F.cut [(121, .bool true), (72, .int .u8 (n.p.ty : Int)), (7, .pointer (some ⟨x.s, 0, none⟩)), (6, .bool false), (5, .bool false), (4, .string ⟨#[]⟩), (3, .pointer (some ⟨B, 0, none⟩)), (0, .pointer (some ⟨m, 0, none⟩))] (by kernel_rfl)
  refine wp_cond_true (F.ev 121 rfl) ?_
  replace F := F.cut [(7, .pointer (some ⟨x.s, 0, none⟩)), (6, .bool false), (5, .bool false), (4, .string ⟨#[]⟩), (3, .pointer (some ⟨B, 0, none⟩)), (0, .pointer (some ⟨m, 0, none⟩))] (by kernel_rfl)
  have hst := HMO.st x (find_mem HX).1
  have HK2 := HK.withBox ⟨x.s, stV x, 74⟩ hst.box hst.lo (fun z hz => by rw [List.mem_singleton.1 hz]; exact box_ne (HK.at 0 rfl) hst.box (by decide))
  clear HK hst
  have HK := HK2
  clear HK2
  have HX1 : findL L x.client = some x := by rw [(find_mem HX).2]; exact HX
  replace HK : Keep w0 [(x.s, (stV x), 74), (B, (ntV n a c), 35)] [] w9 := HK
  refine wp_seq ?_
  refine wp_region_lit ?_
  refine fr_ch F 3 [(126, .pointer (some ⟨x.s, 1, none⟩))] (by kernel_rfl) ?_
  clear F a9
  intro a9 F
  refine fr_putO F HK 0 rfl rfl rfl 3 _ _ rfl 1 (.int .i64 0) (fun a' F' => F'.ev 126 rfl) (fun a' F' => rfl) z_intM (Nat.le_of_ble_eq_true (by kernel_rfl)) (by kernel_rfl) ?_
  intro a10 w10 F' HK' HO
  replace HMO := HMO.turn (y := { x with conn := 0 }) HX1 rfl rfl rfl rfl HO (HK'.at 0 rfl)
  replace HON := HON.trans HO (fun j _ h => h ▸ FootM.seat HX (Or.inl rfl))
  clear HK F HO
  clear a9 w9
  rename World => w9
  rename Act => a9
  have HK := HK'
  have F := F'
  clear HK' F'
  replace HK : Keep w0 [(x.s, (stV { x with conn := 0 }), 74), (B, (ntV n a c), 35)] [] w9 := HK
  refine wpList_nil ?_
  show Code.wp _ _ _ _ _
  replace F := F.cut [(7, .pointer (some ⟨x.s, 0, none⟩)), (6, .bool false), (5, .bool false), (4, .string ⟨#[]⟩), (3, .pointer (some ⟨B, 0, none⟩)), (0, .pointer (some ⟨m, 0, none⟩))] (by kernel_rfl)
  refine wp_seq ?_
  refine wp_region_lit ?_
  refine fr_ch F 3 [(129, .pointer (some ⟨x.s, 2, none⟩))] (by kernel_rfl) ?_
  clear F a9
  intro a9 F
  refine fr_do F (wanted_free rfl) 130 rfl (by decide) (.bool true) (by intro a' F'; have h129 := F'.at' 129 _ rfl; have hc : w9.cell? ⟨x.s, 2, none⟩ = some (.bool true) := ((HK.at 0 rfl).cells 2).trans (congrArg (fun b => some (Value.bool b)) hxl); go_simp) ?_
  clear F a9
  intro a9 F
  refine wpList_nil ?_
  show Code.wp _ _ _ _ _
  refine wp_cond_true (F.ev 130 rfl) ?_
  replace F := F.cut [(7, .pointer (some ⟨x.s, 0, none⟩)), (6, .bool false), (5, .bool false), (4, .string ⟨#[]⟩), (3, .pointer (some ⟨B, 0, none⟩)), (0, .pointer (some ⟨m, 0, none⟩))] (by kernel_rfl)
  refine wp_region_noPanic ?_
  have hb8 : Below w9.heap.size w9 w9.drew := below_draws (n := 1) rfl
  replace HK := HK.below hb8
  replace HMO := HMO.below hb8
  replace HON := HON.then hb8
  clear hb8
  refine AnyT.begin (S := fun w' => BoxAt w' m #[.map (some M), .pointer (some ⟨K, 0, none⟩)] 66 ∧ BoxAt w' B (ntV n a c) 35) (z := 1000) (by kernel_rfl) ⟨HMO.box, HK.at 1 rfl⟩ (fun hS0 => ?_)
  clear hS0
  generalize w9.drew = w8 at *
  clear w9
  rename World => w9
  refine fr_chT F [0, 1, 2] [(133, .pointer (some ⟨m, 0, none⟩)), (132, .pointer (some ⟨m, 0, none⟩)), (131, .pointer (some ⟨m, 0, none⟩))] ⟨HMO.box, HK.at 1 rfl⟩ (by kernel_rfl) ?_
  clear F a9
  intro a9 F
  refine fr_takeG (i := 3) (o := ⟨some 134, _, _, _, _, _⟩) F ⟨HMO.box, HK.at 1 rfl⟩ rfl (wanted_free rfl) 134 rfl (by decide) (.map (some M)) (fun w9 hS => (by intro a' F'; have h133 := F'.at' 133 _ rfl; have hc : w9.cell? ⟨m, 0, none⟩ = some (.map (some M)) := hS.1.cells 0; go_simp)) ?_
  clear F a9
  intro a9 F
  refine fr_chT F [4] [(135, .pointer (some ⟨B, 3, none⟩))] ⟨HMO.box, HK.at 1 rfl⟩ (by kernel_rfl) ?_
  clear F a9
  intro a9 F
  refine fr_takeG (i := 5) (o := ⟨some 136, _, _, _, _, _⟩) F ⟨HMO.box, HK.at 1 rfl⟩ rfl (wanted_free rfl) 136 rfl (by decide) (.string n.client) (fun w9 hS => (by intro a' F'; have h135 := F'.at' 135 _ rfl; have hc : w9.cell? ⟨B, 3, none⟩ = some (.string n.client) := hS.2.cells 3; go_simp)) ?_
  clear F a9
  intro a9 F
  have hBM := box_map_ne (HK.at 1 rfl) HMO.map
  have hxM : x.s ≠ M := (HMO.far _ (find_mem (find_put_self L { x with conn := 0 })).1 _ (Or.inl rfl)).2.1
  obtain ⟨w7, hm7, ho7, hrun⟩ := op_delete keyS Tryd.underlying62 HMO.map n.client 9
  refine fr_stepVn (i := 6) (o := ⟨none, _, _, _, _, _⟩) F rfl rfl rfl (.tuple #[]) w7 (fun a' F' => hrun rfl (F'.ev 134 rfl) (F'.ev 136 rfl)) ⟨?_, ?_⟩ ?_
  · exact HMO.box.only ho7 HMO.ne.1
  · exact (HK.at 1 rfl).only ho7 hBM
  replace HON := HON.trans ho7 (fun j _ h => h ▸ Or.inr (Or.inl rfl))
  replace HK := HK.onlyOut ho7 HMO.lo.2.1 (fun z hz => by rcases List.mem_cons.1 hz with rfl | hz; exact hxM; rw [List.mem_singleton.1 hz]; exact hBM)
  replace HMO := HMO.del (c := n.client) ho7 (by rw [entM_del]; exact hm7)
  clear hrun hm7 ho7 w9
  rename World => w9
  clear F a9
  intro a9 F
  refine AnyT.done (by kernel_rfl) ?_ _
  refine NoPanic.normal ?_
  show Code.wp _ _ _ _ _
  replace F := F.cut [(7, .pointer (some ⟨x.s, 0, none⟩)), (6, .bool false), (5, .bool false), (4, .string ⟨#[]⟩), (3, .pointer (some ⟨B, 0, none⟩)), (0, .pointer (some ⟨m, 0, none⟩))] (by kernel_rfl)
  refine wp_seq ?_
  refine wp_region_lit ?_
  refine fr_ch F 3 [(6, .bool true), (5, .bool false), (4, .string ⟨#[]⟩)] (by kernel_rfl) ?_
  clear F a9
  intro a9 F
  refine wpList_nil ?_
  show Code.wp _ _ _ _ _
  have HA : applyS (absL L) n = ((e0, false, true), updS (absL L) n.client none) := by unfold applyS; rw [if_neg (by omega), if_neg (by omega), if_neg hty, absL_some HX]; dsimp only; rw [if_neg (by rintro (h | h); exact hc h; exact h hxc), if_neg h8, if_neg h10, if_pos (Or.inr hd), if_pos hxl]
  refine wp_ret ?_
  exact fr_ret3t F rfl _ _ _ rfl rfl rfl (FIN.out _ _ _ (delL (putL L { x with conn := 0 }) n.client) _ (by rw [HA]; rfl) (by rw [HA]) (by rw [HA]) (by rw [HA, abs_del n.client (put_nd HND.out), abs_put, show ({ x with conn := 0 } : St).client = n.client from (find_mem HX).2, upd_upd]) ⟨HMO, HK.sub (List.nil_sublist _) (fun r hr => hr), HON, fun k hk => (FootM.put HND.out hk.del).elim Or.inl (fun h => Or.inl (FootM.seat HX h))⟩)
set_option maxRecDepth 100000 in
set_option maxHeartbeats 4000000 in
theorem apply_end0false {w0 w : World} {m M K KM : Nat} {L : List St} (n : Nt) (a : Option Addr) (c : Nat) (HK : Keep w0 [] [] w) (HMO : MoAt w w0.heap.size m M K KM L) (hk : n.kind = 2) (hty : n.p.ty ≠ 1) {x : St} (HX : findL L n.client = some x) (hc : ¬ n.conn < 1) (hxc : x.conn = n.conn) (h8 : ¬ n.p.ty = 8) (h10 : ¬ n.p.ty = 10) (hd : n.p.ty = 0) (hxl : x.clean = false) : Calls Tryd.prog 21 #[.pointer (some ⟨m, 0, none⟩), .agg (ntV n a c)] w fun e w' => ∃ L', e = .returned (.tuple #[.string (applyS (absL L) n).1.1, .bool (applyS (absL L) n).1.2.1, .bool (applyS (absL L) n).1.2.2]) ∧ absL L' = (applyS (absL L) n).2 ∧ MOut w0 w m M K KM L L' w' := by
  obtain ⟨RR, hRR⟩ : ∃ RR : Ending → World → Prop, RR = fun e w' => ∃ L', e = .returned (.tuple #[.string (applyS (absL L) n).1.1, .bool (applyS (absL L) n).1.2.1, .bool (applyS (absL L) n).1.2.2]) ∧ absL L' = (applyS (absL L) n).2 ∧ MOut w0 w m M K KM L L' w' := ⟨_, rfl⟩
  have FIN := Lib.hid (show ∀ s p o' L' w', s = (applyS (absL L) n).1.1 → p = (applyS (absL L) n).1.2.1 → o' = (applyS (absL L) n).1.2.2 → absL L' = (applyS (absL L) n).2 → MOut w0 w m M K KM L L' w' → RR (.returned (.tuple #[.string s, .bool p, .bool o'])) w' from fun s p o' L' w' h0 h1 h2 h3 h4 => by rw [hRR, h0, h1, h2]; exact ⟨L', rfl, h3, h4⟩)
  rw [← hRR]
  have HND := Lib.hid HMO.nd
  have HF0 := Lib.hid (fun k hk => HMO.foot (k := k) hk)
  obtain ⟨w9, hw9⟩ : ∃ w9, w9 = w := ⟨_, rfl⟩
  have HON : Only (FootM m M K KM L) w w9 := by rw [hw9]; exact Only.refl _ _
  rw [← hw9] at HK HMO
  suffices hgo : Calls Tryd.prog 21 #[.pointer (some ⟨m, 0, none⟩), .agg (ntV n a c)] w9 RR by rw [hw9] at hgo; exact hgo
  clear hw9 hRR
  go_enter Tryd.func21, Tryd.ntmps21
  refine wp_forget (n := 137) (L := [(1, .agg (ntV n a c)), (0, .pointer (some ⟨m, 0, none⟩))]) (FrL.add (FrL.add (FrL.nil ?_ ?_) _ _ ?_) _ _ ?_) ?_
  iterate 4 rfl
  intro a9 F
  refine wp_seq ?_
  refine wp_region_lit ?_
  refine fr_box F HK 3 (by decide) rfl 35 _ rfl rfl (ntV n a c) (fun a' F' => F'.ev 1 rfl) ?_
  rintro B a10 w10 hX F' HK' hb
  replace HMO := HMO.below hb
  replace HON := HON.then hb
  clear HK F hb hX
  clear a9 w9
  rename World => w9
  rename Act => a9
  have HK := HK'
  have F := F'
  clear HK' F'
  replace HK : Keep w0 [(B, (ntV n a c), 35)] [] w9 := HK
  refine fr_ch F 3 [(6, .bool false), (5, .bool false), (4, .string ⟨#[]⟩)] (by kernel_rfl) ?_
  clear F a9
  intro a9 F
  refine wpList_nil ?_
  show Code.wp _ _ _ _ _
  replace F := F.cut [(6, .bool false), (5, .bool false), (4, .string ⟨#[]⟩), (3, .pointer (some ⟨B, 0, none⟩)), (0, .pointer (some ⟨m, 0, none⟩))] (by kernel_rfl)
  refine wp_seq ?_
  refine wp_seq ?_
  refine wp_region_lit ?_
  refine fr_ch F 6 [(18, .pointer (some ⟨m, 0, none⟩)), (15, .bool false), (14, .bool false), (13, .pointer (some ⟨m, 0, none⟩))] (by kernel_rfl) ?_
  clear F a9
  intro a9 F
  refine fr_do F (by rw [wanted_at F rfl (t := 15) (b := false) (by kernel_rfl) rfl]; rfl) 19 rfl (by decide) (.map (some M)) (by intro a' F'; have h18 := F'.at' 18 _ rfl; have hc : w9.cell? ⟨m, 0, none⟩ = some (.map (some M)) := HMO.box.cells 0; go_simp) ?_
  clear F a9
  intro a9 F
  refine fr_do F (by rw [wanted_at F rfl (t := 15) (b := false) (by kernel_rfl) rfl]; rfl) 20 rfl (by decide) (.bool false) (fun a' F' => op_map_nil rfl (F'.ev 19 rfl) rfl) ?_
  clear F a9
  intro a9 F
  refine fr_ch F 1 [(21, .bool false)] (by kernel_rfl) ?_
  clear F a9
  intro a9 F
  refine wpList_nil ?_
  show Code.wp _ _ _ _ _
  refine wp_cond_false (F.ev 21 rfl) ?_
  refine wp_skip ?_
  show Code.wp _ _ _ _ _
  replace F := F.cut [(6, .bool false), (5, .bool false), (4, .string ⟨#[]⟩), (3, .pointer (some ⟨B, 0, none⟩)), (0, .pointer (some ⟨m, 0, none⟩))] (by kernel_rfl)
  refine wp_seq ?_
  refine wp_block ?_
  refine wp_seq ?_
  refine wp_region_lit ?_
  refine fr_ch F 1 [(23, .pointer (some ⟨B, 0, none⟩))] (by kernel_rfl) ?_
  clear F a9
  intro a9 F
  refine fr_do F (wanted_free rfl) 24 rfl (by decide) (.int .u8 (n.kind : Int)) (by intro a' F'; have hc : w9.cell? ⟨B, 0, none⟩ = some (.int .u8 (n.kind : Int)) := (HK.at 0 rfl).cells 0; have h23 := F'.at' 23 _ rfl; go_simp) ?_
  clear F a9
  intro a9 F
  refine fr_do F (wanted_free rfl) 25 rfl (by decide) (.bool false) (by intro a' F'; have h24 := F'.at' 24 _ rfl; go_simp) ?_
  clear F a9
  intro a9 F
  refine fr_ch F 1 [(22, .bool false)] (by kernel_rfl) ?_
  clear F a9
  intro a9 F
  refine wpList_nil ?_
  show Code.wp _ _ _ _ _
  refine wp_cond_false (F.ev 22 rfl) ?_
  replace F := F.cut [(6, .bool false), (5, .bool false), (4, .string ⟨#[]⟩), (3, .pointer (some ⟨B, 0, none⟩)), (0, .pointer (some ⟨m, 0, none⟩))] (by kernel_rfl)
  refine wp_seq ?_
  refine wp_region_lit ?_
  refine fr_ch F 1 [(34, .pointer (some ⟨B, 0, none⟩))] (by kernel_rfl) ?_
  clear F a9
  intro a9 F
  refine fr_do F (wanted_free rfl) 35 rfl (by decide) (.int .u8 (n.kind : Int)) (by intro a' F'; have hc : w9.cell? ⟨B, 0, none⟩ = some (.int .u8 (n.kind : Int)) := (HK.at 0 rfl).cells 0; have h34 := F'.at' 34 _ rfl; go_simp) ?_
  clear F a9
  intro a9 F
  refine fr_do F (wanted_free rfl) 36 rfl (by decide) (.bool false) (by intro a' F'; have h35 := F'.at' 35 _ rfl; go_simp) ?_
  clear F a9
  intro a9 F
  refine fr_ch F 1 [(33, .bool false)] (by kernel_rfl) ?_
  clear F a9
  intro a9 F
  refine wpList_nil ?_
  show Code.wp _ _ _ _ _
  refine wp_cond_false (F.ev 33 rfl) ?_
  replace F := F.cut [(6, .bool false), (5, .bool false), (4, .string ⟨#[]⟩), (3, .pointer (some ⟨B, 0, none⟩)), (0, .pointer (some ⟨m, 0, none⟩))] (by kernel_rfl)
  refine wp_seq ?_
  refine wp_region_lit ?_
  refine fr_ch F 2 [(39, .pointer (some ⟨B, 4, none⟩))] (by kernel_rfl) ?_
  clear F a9
  intro a9 F
  refine fr_do F (wanted_free rfl) 40 rfl (by decide) (.int .u8 (n.p.ty : Int)) (by intro a' F'; have hc : w9.cell? ⟨B, 4, none⟩ = some (.int .u8 (n.p.ty : Int)) := (HK.at 0 rfl).cells 4; have h39 := F'.at' 39 _ rfl; go_simp) ?_
  clear F a9
  intro a9 F
  refine fr_do F (wanted_free rfl) 41 rfl (by decide) (.bool false) (by intro a' F'; have h40 := F'.at' 40 _ rfl; go_simp) ?_
  clear F a9
  intro a9 F
  refine fr_ch F 1 [(37, .bool false)] (by kernel_rfl) ?_
  clear F a9
  intro a9 F
  refine wpList_nil ?_
  show Code.wp _ _ _ _ _
  refine wp_cond_false (F.ev 37 rfl) ?_
  replace F := F.cut [(6, .bool false), (5, .bool false), (4, .string ⟨#[]⟩), (3, .pointer (some ⟨B, 0, none⟩)), (0, .pointer (some ⟨m, 0, none⟩))] (by kernel_rfl)
  refine wp_skip ?_
  show Code.wp _ _ _ _ _
  refine wp_seq ?_
  refine wp_region_lit ?_
  refine fr_ch F 2 [(51, .pointer (some ⟨B, 3, none⟩)), (50, .pointer (some ⟨m, 0, none⟩))] (by kernel_rfl) ?_
  clear F a9
  intro a9 F
  refine fr_do F (wanted_free rfl) 52 rfl (by decide) (.string n.client) (by intro a' F'; have hc : w9.cell? ⟨B, 3, none⟩ = some (.string n.client) := (HK.at 0 rfl).cells 3; have h51 := F'.at' 51 _ rfl; go_simp) ?_
  clear F a9
  intro a9 F
  refine fr_call F (wanted_free rfl) 53 rfl (by decide) 43 #[.pointer (some ⟨m, 0, none⟩), .string n.client] (by intro a' F'; have h50 := F'.at' 50 _ rfl; have h52 := F'.at' 52 _ rfl; go_simp) (model_seat w9 n.client HMO) ?_
  rintro e9 w8 ⟨rfl, rfl⟩
  rw [HX]
  refine ⟨_, rfl, ?_⟩
  clear F a9
  intro a9 F
  refine fr_as F (wanted_free rfl) 7 rfl (by decide) 53 rfl rfl ?_
  clear F a9
  intro a9 F
  refine wpList_nil ?_
  show Code.wp _ _ _ _ _
  replace F := F.cut [(7, .pointer (some ⟨x.s, 0, none⟩)), (6, .bool false), (5, .bool false), (4, .string ⟨#[]⟩), (3, .pointer (some ⟨B, 0, none⟩)), (0, .pointer (some ⟨m, 0, none⟩))] (by kernel_rfl)
  refine wp_seq ?_
  refine wp_seq ?_
  refine wp_region_noPanic ?_
  have hb8 : Below w9.heap.size w9 w9.drew := below_draws (n := 1) rfl
  replace HK := HK.below hb8
  replace HMO := HMO.below hb8
  replace HON := HON.then hb8
  clear hb8
  refine AnyT.begin (S := fun w' => BoxAt w' B (ntV n a c) 35 ∧ BoxAt w' x.s (stV x) 74) (z := 1000) (by kernel_rfl) ⟨HK.at 0 rfl, (HMO.st x (find_mem HX).1).box⟩ (fun hS0 => ?_)
  clear hS0
  generalize w9.drew = w8 at *
  clear w9
  rename World => w9
  refine fr_chT F [0, 1, 2, 3] [(57, .pointer (some ⟨B, 2, none⟩)), (56, .bool false), (55, .bool false), (54, .pointer (some ⟨x.s, 0, none⟩))] ⟨HK.at 0 rfl, (HMO.st x (find_mem HX).1).box⟩ (by kernel_rfl) ?_
  clear F a9
  intro a9 F
  refine fr_takeG (i := 4) (o := ⟨some 58, _, _, _, _, _⟩) F ⟨HK.at 0 rfl, (HMO.st x (find_mem HX).1).box⟩ rfl (by rw [wanted_at F rfl (t := 56) (b := false) (by kernel_rfl) rfl]; rfl) 58 rfl (by decide) (.int .i64 n.conn) (fun w9 hS => (by intro a' F'; have h57 := F'.at' 57 _ rfl; have hc : w9.cell? ⟨B, 2, none⟩ = some (.int .i64 n.conn) := hS.1.cells 2; go_simp)) ?_
  clear F a9
  intro a9 F
  refine fr_takeG (i := 5) (o := ⟨some 59, _, _, _, _, _⟩) F ⟨HK.at 0 rfl, (HMO.st x (find_mem HX).1).box⟩ rfl (by rw [wanted_at F rfl (t := 56) (b := false) (by kernel_rfl) rfl]; rfl) 59 rfl (by decide) (.bool false) (fun w9 hS => (by intro a' F'; have h58 := F'.at' 58 _ rfl; go_simp)) ?_
  clear F a9
  intro a9 F
  refine fr_chT F [6, 7, 8, 9, 10] [(64, .pointer (some ⟨x.s, 1, none⟩)), (63, .pointer (some ⟨x.s, 0, none⟩)), (62, .pointer (some ⟨x.s, 0, none⟩)), (61, .bool false), (60, .bool false)] ⟨HK.at 0 rfl, (HMO.st x (find_mem HX).1).box⟩ (by kernel_rfl) ?_
  clear F a9
  intro a9 F
  refine fr_takeG (i := 11) (o := ⟨some 65, _, _, _, _, _⟩) F ⟨HK.at 0 rfl, (HMO.st x (find_mem HX).1).box⟩ rfl (by rw [wanted_at F rfl (t := 61) (b := false) (by kernel_rfl) rfl]; rfl) 65 rfl (by decide) (.int .i64 x.conn) (fun w9 hS => (by intro a' F'; have h64 := F'.at' 64 _ rfl; have hc : w9.cell? ⟨x.s, 1, none⟩ = some (.int .i64 x.conn) := hS.2.cells 1; go_simp)) ?_
  clear F a9
  intro a9 F
  refine fr_chT F [12] [(66, .pointer (some ⟨B, 2, none⟩))] ⟨HK.at 0 rfl, (HMO.st x (find_mem HX).1).box⟩ (by kernel_rfl) ?_
  clear F a9
  intro a9 F
  refine fr_takeG (i := 13) (o := ⟨some 67, _, _, _, _, _⟩) F ⟨HK.at 0 rfl, (HMO.st x (find_mem HX).1).box⟩ rfl (by rw [wanted_at F rfl (t := 61) (b := false) (by kernel_rfl) rfl]; rfl) 67 rfl (by decide) (.int .i64 n.conn) (fun w9 hS => (by intro a' F'; have h66 := F'.at' 66 _ rfl; have hc : w9.cell? ⟨B, 2, none⟩ = some (.int .i64 n.conn) := hS.1.cells 2; go_simp)) ?_
  clear F a9
  intro a9 F
  refine fr_takeG (i := 14) (o := ⟨some 68, _, _, _, _, _⟩) F ⟨HK.at 0 rfl, (HMO.st x (find_mem HX).1).box⟩ rfl (by rw [wanted_at F rfl (t := 61) (b := false) (by kernel_rfl) rfl]; rfl) 68 rfl (by decide) (.bool false) (fun w9 hS => (by intro a' F'; have h65 := F'.at' 65 _ rfl; have h67 := F'.at' 67 _ rfl; go_simp)) ?_
  clear F a9
  intro a9 F
  refine fr_chT F [15] [(69, .bool false)] ⟨HK.at 0 rfl, (HMO.st x (find_mem HX).1).box⟩ (by kernel_rfl) ?_
  clear F a9
  intro a9 F
  refine AnyT.done (by kernel_rfl) ?_ _
  refine NoPanic.normal ?_
  show Code.wp _ _ _ _ _
  refine wp_cond_false (F.ev 69 rfl) ?_
  refine wp_skip ?_
  show Code.wp _ _ _ _ _
  replace F := F.cut [(7, .pointer (some ⟨x.s, 0, none⟩)), (6, .bool false), (5, .bool false), (4, .string ⟨#[]⟩), (3, .pointer (some ⟨B, 0, none⟩)), (0, .pointer (some ⟨m, 0, none⟩))] (by kernel_rfl)
  refine wp_seq ?_
  refine wp_seq ?_
  refine wp_region_lit ?_
  refine fr_ch F 2 [(71, .pointer (some ⟨B, 4, none⟩))] (by kernel_rfl) ?_
  clear F a9
  intro a9 F
  refine fr_do F (wanted_free rfl) 72 rfl (by decide) (.int .u8 (n.p.ty : Int)) (by intro a' F'; have hc : w9.cell? ⟨B, 4, none⟩ = some (.int .u8 (n.p.ty : Int)) := (HK.at 0 rfl).cells 4; have h71 := F'.at' 71 _ rfl; go_simp) ?_
  clear F a9
  intro a9 F
  refine wpList_nil ?_
  show Code.wp _ _ _ _ _
  replace F := F.cut [(72, .int .u8 (n.p.ty : Int)), (7, .pointer (some ⟨x.s, 0, none⟩)), (6, .bool false), (5, .bool false), (4, .string ⟨#[]⟩), (3, .pointer (some ⟨B, 0, none⟩)), (0, .pointer (some ⟨m, 0, none⟩))] (by kernel_rfl)
  refine wp_block ?_
  refine wp_seq ?_
  refine wp_region_lit ?_
  refine fr_do F (wanted_free rfl) 74 rfl (by decide) (.bool false) (by intro a' F'; have h72 := F'.at' 72 _ rfl; go_simp) ?_
  clear F a9
  intro a9 F
  refine fr_ch F 1 [(73, .bool false)] (by kernel_rfl) ?_
  clear F a9
  intro a9 F
  refine wpList_nil ?_
  show Code.wp _ _ _ _ _
  refine wp_cond_false (F.ev 73 rfl) ?_
  replace F := F.cut [(72, .int .u8 (n.p.ty : Int)), (7, .pointer (some ⟨x.s, 0, none⟩)), (6, .bool false), (5, .bool false), (4, .string ⟨#[]⟩), (3, .pointer (some ⟨B, 0, none⟩)), (0, .pointer (some ⟨m, 0, none⟩))] (by kernel_rfl)
  refine wp_seq ?_
  refine wp_region_lit ?_
  refine fr_do F (wanted_free rfl) 104 rfl (by decide) (.bool false) (by intro a' F'; have h72 := F'.at' 72 _ rfl; go_simp) ?_
  clear F a9
  intro a9 F
  refine fr_ch F 1 [(103, .bool false)] (by kernel_rfl) ?_
  clear F a9
  intro a9 F
  refine wpList_nil ?_
  show Code.wp _ _ _ _ _
  refine wp_cond_false (F.ev 103 rfl) ?_
  replace F := F.cut [(72, .int .u8 (n.p.ty : Int)), (7, .pointer (some ⟨x.s, 0, none⟩)), (6, .bool false), (5, .bool false), (4, .string ⟨#[]⟩), (3, .pointer (some ⟨B, 0, none⟩)), (0, .pointer (some ⟨m, 0, none⟩))] (by kernel_rfl)
  refine wp_seq ?_
  refine wp_seq ?_
  refine wp_region_lit ?_
  refine fr_do F (wanted_free rfl) 122 rfl (by decide) (.bool false) (by intro a' F'; have h72 := F'.at' 72 _ rfl; go_simp) ?_
  clear F a9
  intro a9 F
  refine fr_ch F 1 [(121, .bool false)] (by kernel_rfl) ?_
  clear F a9
  intro a9 F
  refine wpList_nil ?_
  show Code.wp _ _ _ _ _
  replace F := F.cut [(121, .bool false), (72, .int .u8 (n.p.ty : Int)), (7, .pointer (some ⟨x.s, 0, none⟩)), (6, .bool false), (5, .bool false), (4, .string ⟨#[]⟩), (3, .pointer (some ⟨B, 0, none⟩)), (0, .pointer (some ⟨m, 0, none⟩))] (by kernel_rfl)
  refine wp_cond_false (F.ev 121 rfl) ?_
  refine wp_region_lit ?_
  refine fr_do F (wanted_free rfl) 123 rfl (by decide) (.bool true) (by intro a' F'; have h72 := F'.at' 72 _ rfl; go_simp) ?_
  clear F a9
  intro a9 F
  refine fr_ch F 1 [(121, .bool true)] (by kernel_rfl) ?_
  clear F a9
  intro a9 F
  refine wpList_nil ?_
  show Code.wp _ _ _ _ _
  replace F := F.cut [(121, .bool true), (72, .int .u8 (n.p.ty : Int)), (7, .pointer (some ⟨x.s, 0, none⟩)), (6, .bool false), (5, .bool false), (4, .string ⟨#[]⟩), (3, .pointer (some ⟨B, 0, none⟩)), (0, .pointer (some ⟨m, 0, none⟩))] (by kernel_rfl)
  refine wp_cond_true (F.ev 121 rfl) ?_
  replace F := F.cut [(7, .pointer (some ⟨x.s, 0, none⟩)), (6, .bool false), (5, .bool false), (4, .string ⟨#[]⟩), (3, .pointer (some ⟨B, 0, none⟩)), (0, .pointer (some ⟨m, 0, none⟩))] (by kernel_rfl)
  have hst := HMO.st x (find_mem HX).1
  have HK2 := HK.withBox ⟨x.s, stV x, 74⟩ hst.box hst.lo (fun z hz => by rw [List.mem_singleton.1 hz]; exact box_ne (HK.at 0 rfl) hst.box (by decide))
  clear HK hst
  have HK := HK2
  clear HK2
  have HX1 : findL L x.client = some x := by rw [(find_mem HX).2]; exact HX
  replace HK : Keep w0 [(x.s, (stV x), 74), (B, (ntV n a c), 35)] [] w9 := HK
  refine wp_seq ?_
  refine wp_region_lit ?_
  refine fr_ch F 3 [(126, .pointer (some ⟨x.s, 1, none⟩))] (by kernel_rfl) ?_
  clear F a9
  intro a9 F
  refine fr_putO F HK 0 rfl rfl rfl 3 _ _ rfl 1 (.int .i64 0) (fun a' F' => F'.ev 126 rfl) (fun a' F' => rfl) z_intM (Nat.le_of_ble_eq_true (by kernel_rfl)) (by kernel_rfl) ?_
  intro a10 w10 F' HK' HO
  replace HMO := HMO.turn (y := { x with conn := 0 }) HX1 rfl rfl rfl rfl HO (HK'.at 0 rfl)
  replace HON := HON.trans HO (fun j _ h => h ▸ FootM.seat HX (Or.inl rfl))
  clear HK F HO
  clear a9 w9
  rename World => w9
  rename Act => a9
  have HK := HK'
  have F := F'
  clear HK' F'
  replace HK : Keep w0 [(x.s, (stV { x with conn := 0 }), 74), (B, (ntV n a c), 35)] [] w9 := HK
  refine wpList_nil ?_
  show Code.wp _ _ _ _ _
  replace F := F.cut [(7, .pointer (some ⟨x.s, 0, none⟩)), (6, .bool false), (5, .bool false), (4, .string ⟨#[]⟩), (3, .pointer (some ⟨B, 0, none⟩)), (0, .pointer (some ⟨m, 0, none⟩))] (by kernel_rfl)
  refine wp_seq ?_
  refine wp_region_lit ?_
  refine fr_ch F 3 [(129, .pointer (some ⟨x.s, 2, none⟩))] (by kernel_rfl) ?_
  clear F a9
  intro a9 F
  refine fr_do F (wanted_free rfl) 130 rfl (by decide) (.bool false) (by intro a' F'; have h129 := F'.at' 129 _ rfl; have hc : w9.cell? ⟨x.s, 2, none⟩ = some (.bool false) := ((HK.at 0 rfl).cells 2).trans (congrArg (fun b => some (Value.bool b)) hxl); go_simp) ?_
  clear F a9
  intro a9 F
  refine wpList_nil ?_
  show Code.wp _ _ _ _ _
  refine wp_cond_false (F.ev 130 rfl) ?_
  replace F := F.cut [(7, .pointer (some ⟨x.s, 0, none⟩)), (6, .bool false), (5, .bool false), (4, .string ⟨#[]⟩), (3, .pointer (some ⟨B, 0, none⟩)), (0, .pointer (some ⟨m, 0, none⟩))] (by kernel_rfl)
  refine wp_skip ?_
  show Code.wp _ _ _ _ _
  refine wp_seq ?_
  refine wp_region_lit ?_
  refine fr_ch F 3 [(6, .bool true), (5, .bool false), (4, .string ⟨#[]⟩)] (by kernel_rfl) ?_
  clear F a9
  intro a9 F
  refine wpList_nil ?_
  show Code.wp _ _ _ _ _
  have HA : applyS (absL L) n = ((e0, false, true), updS (absL L) n.client (some { conn := 0, clean := x.clean, S := x.S })) := by unfold applyS; rw [if_neg (by omega), if_neg (by omega), if_neg hty, absL_some HX]; dsimp only; rw [if_neg (by rintro (h | h); exact hc h; exact h hxc), if_neg h8, if_neg h10, if_pos (Or.inr hd), if_neg (by rw [hxl]; decide)]
  refine wp_ret ?_
  exact fr_ret3t F rfl _ _ _ rfl rfl rfl (FIN.out _ _ _ (putL L { x with conn := 0 }) _ (by rw [HA]; rfl) (by rw [HA]) (by rw [HA]) (by rw [HA, abs_put, show ({ x with conn := 0 } : St).client = n.client from (find_mem HX).2]) ⟨HMO, HK.sub (List.nil_sublist _) (fun r hr => hr), HON, fun k hk => (FootM.put HND.out hk).elim Or.inl (fun h => Or.inl (FootM.seat HX h))⟩)
/-- What a note keeps to. -/
structure NtOk (w0 : World) (n : Nt) (a : Option Addr) : Prop where
  row : CellsA w0 a (subCells n.p.subs)
  small : SmallS n.p.subs
  few : n.p.subs.length ≤ 20
  qos : n.msg.qos < 256
  topic : n.msg.topic.size < 4294967281
theorem model_Apply {w0 w : World} {m M K KM : Nat} {L : List St} (n : Nt) (a : Option Addr) (c : Nat) (HK : Keep w0 [] [] w) (HMO : MoAt w w0.heap.size m M K KM L) (HN : NtOk w0 n a) : Calls Tryd.prog 21 #[.pointer (some ⟨m, 0, none⟩), .agg (ntV n a c)] w fun e w' => ∃ L', e = .returned (.tuple #[.string (applyS (absL L) n).1.1, .bool (applyS (absL L) n).1.2.1, .bool (applyS (absL L) n).1.2.2]) ∧ absL L' = (applyS (absL L) n).2 ∧ MOut w0 w m M K KM L L' w' := by
  by_cases h5 : n.kind = 5
  · exact apply_keeps n a c HK HMO h5 HN.qos HN.topic
  by_cases hk : n.kind = 2
  rotate_left
  · exact apply_other n a c HK HMO h5 hk
  by_cases hty : n.p.ty = 1
  · exact apply_connect n a c HK HMO hk hty
  cases HX : findL L n.client with
  | none => exact apply_none n a c HK HMO hk hty HX
  | some x =>
    by_cases hc : n.conn < 1
    · exact apply_low n a c HK HMO hk hty HX hc
    by_cases hxc : x.conn = n.conn
    rotate_left
    · exact apply_away n a c HK HMO hk hty HX hc hxc
    by_cases h8 : n.p.ty = 8
    · exact apply_set n a c HK HMO hk hty HX hc hxc HN.row HN.small HN.few h8 HK.size
    by_cases h10 : n.p.ty = 10
    · exact apply_drop n a c HK HMO hk hty HX hc hxc HN.row HN.small HN.few h8 h10
    by_cases h14 : n.p.ty = 14
    · cases hxl : x.clean with
      | true => exact apply_end14true n a c HK HMO hk hty HX hc hxc h8 h10 h14 hxl
      | false => exact apply_end14false n a c HK HMO hk hty HX hc hxc h8 h10 h14 hxl
    by_cases h0 : n.p.ty = 0
    · cases hxl : x.clean with
      | true => exact apply_end0true n a c HK HMO hk hty HX hc hxc h8 h10 h0 hxl
      | false => exact apply_end0false n a c HK HMO hk hty HX hc hxc h8 h10 h0 hxl
    exact apply_not n a c HK HMO hk hty HX hc hxc h8 h10 h14 h0
end Go.Proofs.YtmppkgonkkffhaaDoor

