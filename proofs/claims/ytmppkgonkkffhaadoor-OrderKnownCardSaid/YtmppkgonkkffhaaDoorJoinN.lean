/- The walk of the model's connect. Conditions: the model lies behind its pointer; the decoder's tables lie as Go lays them. -/
import Derived.Test.YtmppkgonkkffhaaDoorJoinM
import Derived.Test.YtmppkgonkkffhaaDoorFrameT
namespace Go.Proofs.YtmppkgonkkffhaaDoor
open Go.RowKit
section
variable {P : Program} {o : Oper} {ops : Array Oper} {n : Nat} {L : List (Nat × Value)} {a : Act}
theorem wanted_undef (F : FrL n L a) {g t : Nat} {want : Bool} (hg : o.guard = some (g, want)) (hy : (ops[g]?).bind (·.dst) = some t) (hb : L.lookup t = some undef) : Region.wanted o (yielded ops a.tmps) = false := by
  unfold Region.wanted yielded
  rw [hg]
  simp only [hy, Option.bind_some, F.at' t _ hb]
  cases want <;> rfl
end
theorem z_intM : (Tryd.prog.info? 3).map (·.size) = some 1 := by kernel_rfl
theorem RowAt.neBox {w : World} {g : Nat} {t : TypeId} {cs : Array Value} (h : BoxAt w g cs t) {B n size : Nat} {e : TypeId} {x : Value} {xs : List Value} (k : RowAt w B e size x n xs) (hne : e ≠ t) : x.ownBlock ≠ some g := by
  rcases k.2 with ⟨rfl, _⟩ | ⟨g', cap, cur, rfl, _, hh, _⟩
  · simp [Value.ownBlock]
  · intro he
    have : g' = g := by simpa [Value.ownBlock] using he
    subst this
    unfold BoxAt at h
    rw [hh] at h
    injection h with h
    injection h with _ ht
    exact hne ht
theorem entM_same : ∀ {L : List St} {y x : St}, findL L y.client = some x → y.s = x.s → entM (putL L y) = entM L
  | [], _, _, h, _ => by cases h
  | z :: r, y, x, h, hs => by
    unfold findL at h
    unfold putL
    split at h
    · rename_i e
      injection h with h
      subst h
      rw [if_pos e]
      show (y.client, _) :: _ = (_, _) :: _
      rw [e, hs]
    · rename_i e
      rw [if_neg e]
      show _ :: entM (putL r y) = _ :: entM r
      rw [entM_same h hs]
theorem FootM.put {m M K KM : Nat} {L : List St} {y : St} {k : Nat} (hn : (L.map (·.client)).Nodup) (h : FootM m M K KM (putL L y) k) : FootM m M K KM L k ∨ FootS y k := by
  rcases h with h | h | h | h | ⟨x, hx, h⟩
  · exact Or.inl (Or.inl h)
  · exact Or.inl (Or.inr (Or.inl h))
  · exact Or.inl (Or.inr (Or.inr (Or.inl h)))
  · exact Or.inl (Or.inr (Or.inr (Or.inr (Or.inl h))))
  · rcases put_mem hn hx with rfl | ⟨hx, _⟩
    · exact Or.inr h
    · exact Or.inl (Or.inr (Or.inr (Or.inr (Or.inr ⟨x, hx, h⟩))))
theorem FootM.seat {m M K KM : Nat} {L : List St} {c : ByteArray} {x : St} (h : findL L c = some x) {k : Nat} (hk : FootS x k) : FootM m M K KM L k := Or.inr (Or.inr (Or.inr (Or.inr ⟨x, (find_mem h).1, hk⟩)))
/-- A seat's connection or cleanness is turned. -/
theorem MoAt.turn {w w' : World} {B m M K KM : Nat} {L : List St} {x y : St} (h : MoAt w B m M K KM L) (hx : findL L y.client = some x) (hs : y.s = x.s) (hg : y.g = x.g) (hv : y.v = x.v) (hS : y.S = x.S) (k : Only (fun j => j = x.s) w w') (hb : BoxAt w' x.s (stV y) 74) : MoAt w' B m M K KM (putL L y) := by
  obtain ⟨hm, hc⟩ := find_mem hx
  have hst := h.st x hm
  have hfar : ∀ j, FootS y j → FootS x j := fun j hj => by
    unfold FootS at hj ⊢
    rw [hs, hg, hv] at hj
    exact hj
  have hMx : ¬ M = x.s := fun e => (h.far x hm _ (Or.inl rfl)).2.1 e.symm
  have hne : ∀ j, Foot x.g x.v j → ¬ j = x.s := by
    intro j hj e
    subst e
    rcases hj with e | e
    · have h1 := hst.box
      have h2 := hst.list.blk
      unfold BoxAt at h1
      unfold OneAt at h2
      rw [← e, h1] at h2
      injection h2 with h2
      injection h2 with _ h2
      exact absurd h2 (by decide)
    · exact RowAt.neBox hst.box hst.list.own (by decide) e
  refine h.put k (fun j hj _ => Or.inr ⟨x, hm, hc, Or.inl hj⟩) (by rw [entM_same hx hs]; exact h.map.only k hMx) ⟨hs ▸ hb, ?_, hS ▸ hst.fine, hs ▸ hst.lo⟩ (fun j hj => Or.inl ⟨x, hm, hc, hfar j hj⟩)
  rw [hg, hv, hS]
  exact hst.list.only k (hne _ (Or.inl rfl)) (fun r hr => hne _ (Or.inr hr))
theorem upd_upd (σ : Sess) (c : ByteArray) (x y : Option Se) : updS (updS σ c x) c y = updS σ c y := by
  funext d
  unfold updS
  split <;> rfl
theorem box_ne {w : World} {X Y : Nat} {cs ds : Array Value} {T U : TypeId} (h : BoxAt w X cs T) (k : BoxAt w Y ds U) (hne : T ≠ U) : X ≠ Y := by
  rintro rfl
  unfold BoxAt at h k
  rw [h] at k
  injection k with k
  injection k with _ k
  exact hne k
theorem box_map_ne {w : World} {X M : Nat} {cs : Array Value} {T : TypeId} {es : List (ByteArray × Value)} (h : BoxAt w X cs T) (k : MapAt w M Value.string es) : X ≠ M := by
  rintro rfl
  obtain ⟨arr, c, k, _⟩ := k
  unfold BoxAt at h
  rw [h] at k
  cases k
theorem Keep.onlyOut {w0 w w' : World} {L : List Box} (h : Keep w0 L [] w) {g : Nat} (k : Only (fun j => j = g) w w') (h1 : w0.heap.size ≤ g) (h2 : ∀ x ∈ L, x.1 ≠ g) : Keep w0 L [] w' :=
  ⟨h.env0, h.low.trans (k.below h.low.size (fun _ e => e ▸ h1)), fun x hx => (h.box x hx).only k (h2 x hx), h.up, h.nod, fun r hr => (by cases hr), fun r hr => (by cases hr)⟩
theorem absL_none {L : List St} {c : ByteArray} (h : findL L c = none) : absL L c = none := by unfold absL; rw [h]; rfl
theorem absL_some {L : List St} {c : ByteArray} {x : St} (h : findL L c = some x) : absL L c = some ⟨x.conn, x.clean, x.S⟩ := by unfold absL; rw [h]; rfl
theorem conn_none {σ : Sess} {n : Nt} (hk : n.kind = 2) (hty : n.p.ty = 1) (hc : ¬ n.conn < 1) (h : σ n.client = none) : applyS σ n = ((e0, false, true), updS σ n.client (some ⟨n.conn, n.p.clean, []⟩)) := by
  unfold applyS
  rw [if_neg (by omega), if_neg (by omega), if_pos hty, if_neg (by rw [h]; rintro (h | ⟨_, h, _⟩); exact hc h; cases h), h]
theorem conn_some {σ : Sess} {n : Nt} {s : Se} (hk : n.kind = 2) (hty : n.p.ty = 1) (hc : ¬ n.conn < 1) (h : σ n.client = some s) (hs : ¬ 0 < s.conn) : applyS σ n = if s.clean = false ∧ n.p.clean = false then ((e0, true, true), updS σ n.client (some ⟨n.conn, n.p.clean, s.S⟩)) else ((e0, false, true), updS σ n.client (some ⟨n.conn, n.p.clean, []⟩)) := by
  unfold applyS
  rw [if_neg (by omega), if_neg (by omega), if_pos hty, if_neg (by rw [h]; rintro (h | ⟨_, h, h2⟩); exact hc h; injection h with h; subst h; exact hs h2), h]
theorem abs_put2 {L : List St} {y1 y2 : St} {d : ByteArray} (h1 : y1.client = d) (h2 : y2.client = d) : absL (putL (putL L y1) y2) = updS (absL L) d (some ⟨y2.conn, y2.clean, y2.S⟩) := by
  rw [abs_put, abs_put, h1, h2, upd_upd]
theorem abs_put3 {L : List St} {y0 y1 y2 : St} {d : ByteArray} (h0 : y0.client = d) (h1 : y1.client = d) (h2 : y2.client = d) : absL (putL (putL (putL L y0) y1) y2) = updS (absL L) d (some ⟨y2.conn, y2.clean, y2.S⟩) := by
  rw [abs_put2 h1 h2, abs_put, h0, upd_upd]
theorem find_put_self (L : List St) (y : St) : findL (putL L y) y.client = some y := by rw [find_put, if_pos rfl]
/-- What a call of the model leaves. -/
structure MOut (w0 w : World) (m M K KM : Nat) (L L' : List St) (w' : World) : Prop where
  mo : MoAt w' w0.heap.size m M K KM L'
  keep : Keep w0 [] [] w'
  only : Only (FootM m M K KM L) w w'
  foot : ∀ k, FootM m M K KM L' k → FootM m M K KM L k ∨ w.heap.size ≤ k
set_option maxRecDepth 100000 in
set_option maxHeartbeats 4000000 in
theorem connect_low0 {w0 w : World} {m M K KM : Nat} {L : List St} (n : Nt) (a : Option Addr) (c : Nat) (HK : Keep w0 [] [] w) (HMO : MoAt w w0.heap.size m M K KM L) (hk : n.kind = 2) (hty : n.p.ty = 1) (HX : findL L n.client = none) (hc : n.conn < 1) : Calls Tryd.prog 42 #[.pointer (some ⟨m, 0, none⟩), .agg (ntV n a c)] w fun e w' => ∃ L', e = .returned (.tuple #[.bool (applyS (absL L) n).1.2.1, .bool (applyS (absL L) n).1.2.2]) ∧ absL L' = (applyS (absL L) n).2 ∧ MOut w0 w m M K KM L L' w' := by
  obtain ⟨RR, hRR⟩ : ∃ RR : Ending → World → Prop, RR = fun e w' => ∃ L', e = .returned (.tuple #[.bool (applyS (absL L) n).1.2.1, .bool (applyS (absL L) n).1.2.2]) ∧ absL L' = (applyS (absL L) n).2 ∧ MOut w0 w m M K KM L L' w' := ⟨_, rfl⟩
  have FIN := Lib.hid (show ∀ p o' L' w', p = (applyS (absL L) n).1.2.1 → o' = (applyS (absL L) n).1.2.2 → absL L' = (applyS (absL L) n).2 → MOut w0 w m M K KM L L' w' → RR (.returned (.tuple #[.bool p, .bool o'])) w' from fun p o' L' w' h1 h2 h3 h4 => by rw [hRR, h1, h2]; exact ⟨L', rfl, h3, h4⟩)
  rw [← hRR]
  have HND := Lib.hid HMO.nd
  have HF0 := Lib.hid (fun k hk => HMO.foot (k := k) hk)
  obtain ⟨w9, hw9⟩ : ∃ w9, w9 = w := ⟨_, rfl⟩
  have HON : Only (FootM m M K KM L) w w9 := by rw [hw9]; exact Only.refl _ _
  rw [← hw9] at HK HMO
  suffices hgo : Calls Tryd.prog 42 #[.pointer (some ⟨m, 0, none⟩), .agg (ntV n a c)] w9 RR by rw [hw9] at hgo; exact hgo
  clear hw9 hRR
  go_enter Tryd.func42, Tryd.ntmps42
  refine wp_forget (n := 64) (L := [(1, .agg (ntV n a c)), (0, .pointer (some ⟨m, 0, none⟩))]) (FrL.add (FrL.add (FrL.nil ?_ ?_) _ _ ?_) _ _ ?_) ?_
  iterate 4 rfl
  intro a9 F
  refine wp_seq ?_
  refine wp_region_lit ?_
  refine fr_box F HK 3 (by decide) rfl 35 _ rfl rfl (ntV n a c) (fun a' F' => F'.ev 1 rfl) ?_
  rintro B a10 w10 hX F' HK' hb
  replace HMO := HMO.below hb
  replace HON := HON.then hb
  clear HK F hb hX
  clear a9 w9
  rename World => w9
  rename Act => a9
  have HK := HK'
  have F := F'
  clear HK' F'
  replace HK : Keep w0 [(B, (ntV n a c), 35)] [] w9 := HK
  refine fr_ch F 2 [(5, .bool false), (4, .bool false)] (by kernel_rfl) ?_
  clear F a9
  intro a9 F
  refine wpList_nil ?_
  show Code.wp _ _ _ _ _
  replace F := F.cut [(5, .bool false), (4, .bool false), (3, .pointer (some ⟨B, 0, none⟩)), (0, .pointer (some ⟨m, 0, none⟩))] (by kernel_rfl)
  refine wp_seq ?_
  refine wp_region_lit ?_
  refine fr_ch F 2 [(8, .pointer (some ⟨B, 3, none⟩)), (7, .pointer (some ⟨m, 0, none⟩))] (by kernel_rfl) ?_
  clear F a9
  intro a9 F
  refine fr_do F (wanted_free rfl) 9 rfl (by decide) (.string n.client) (by intro a' F'; have hc : w9.cell? ⟨B, 3, none⟩ = some (.string n.client) := (HK.at 0 rfl).cells 3; have h8 := F'.at' 8 _ rfl; go_simp) ?_
  clear F a9
  intro a9 F
  refine fr_call F (wanted_free rfl) 10 rfl (by decide) 43 #[.pointer (some ⟨m, 0, none⟩), .string n.client] (by intro a' F'; have h7 := F'.at' 7 _ rfl; have h9 := F'.at' 9 _ rfl; go_simp) (model_seat w9 n.client HMO) ?_
  rintro e9 w8 ⟨rfl, rfl⟩
  rw [HX]
  refine ⟨_, rfl, ?_⟩
  clear F a9
  intro a9 F
  refine fr_as F (wanted_free rfl) 6 rfl (by decide) 10 rfl rfl ?_
  clear F a9
  intro a9 F
  refine wpList_nil ?_
  show Code.wp _ _ _ _ _
  replace F := F.cut [(6, .pointer none), (5, .bool false), (4, .bool false), (3, .pointer (some ⟨B, 0, none⟩)), (0, .pointer (some ⟨m, 0, none⟩))] (by kernel_rfl)
  refine wp_seq ?_
  refine wp_seq ?_
  refine wp_region_lit ?_
  refine fr_ch F 1 [(11, .pointer (some ⟨B, 2, none⟩))] (by kernel_rfl) ?_
  clear F a9
  intro a9 F
  refine fr_do F (wanted_free rfl) 12 rfl (by decide) (.int .i64 n.conn) (by intro a' F'; have hc : w9.cell? ⟨B, 2, none⟩ = some (.int .i64 n.conn) := (HK.at 0 rfl).cells 2; have h11 := F'.at' 11 _ rfl; go_simp) ?_
  clear F a9
  intro a9 F
  refine fr_do F (wanted_free rfl) 13 rfl (by decide) (.bool true) (by intro a' F'; have h12 := F'.at' 12 _ rfl; go_simp) ?_
  clear F a9
  intro a9 F
  refine fr_ch F 4 [(17, undef), (16, undef), (15, undef), (14, .bool true)] (by kernel_rfl) ?_
  clear F a9
  intro a9 F
  refine fr_left F (wanted_undef F rfl (t := 17) (by kernel_rfl) rfl) 18 rfl (by decide) ?_
  clear F a9
  intro a9 F
  refine fr_left F (wanted_undef F rfl (t := 17) (by kernel_rfl) rfl) 19 rfl (by decide) ?_
  clear F a9
  intro a9 F
  refine fr_left F (wanted_undef F rfl (t := 17) (by kernel_rfl) rfl) 20 rfl (by decide) ?_
  clear F a9
  intro a9 F
  refine fr_left F (wanted_undef F rfl (t := 17) (by kernel_rfl) rfl) 21 rfl (by decide) ?_
  clear F a9
  intro a9 F
  refine fr_left F (wanted_undef F rfl (t := 17) (by kernel_rfl) rfl) 22 rfl (by decide) ?_
  clear F a9
  intro a9 F
  refine fr_ch F 2 [(24, .bool true), (23, undef)] (by kernel_rfl) ?_
  clear F a9
  intro a9 F
  refine wpList_nil ?_
  show Code.wp _ _ _ _ _
  refine wp_cond_true (F.ev 24 rfl) ?_
  refine wp_seq ?_
  refine wp_region_lit ?_
  refine fr_ch F 2 [(5, .bool false), (4, .bool false)] (by kernel_rfl) ?_
  clear F a9
  intro a9 F
  refine wpList_nil ?_
  show Code.wp _ _ _ _ _
  have HA : applyS (absL L) n = ((e0, false, false), absL L) := by unfold applyS; rw [if_neg (by omega), if_neg (by omega), if_pos hty, if_pos (Or.inl hc)]
  refine wp_ret ?_
  exact fr_ret2 F rfl _ _ rfl rfl (FIN.out _ _ L _ (by rw [HA]) (by rw [HA]) (by rw [HA]) ⟨HMO, HK.sub (List.nil_sublist _) (fun r hr => hr), HON, fun k hk => Or.inl hk⟩)
set_option maxRecDepth 100000 in
set_option maxHeartbeats 4000000 in
theorem connect_low1 {w0 w : World} {m M K KM : Nat} {L : List St} (n : Nt) (a : Option Addr) (c : Nat) (HK : Keep w0 [] [] w) (HMO : MoAt w w0.heap.size m M K KM L) (hk : n.kind = 2) (hty : n.p.ty = 1) {x : St} (HX : findL L n.client = some x) (hc : n.conn < 1) : Calls Tryd.prog 42 #[.pointer (some ⟨m, 0, none⟩), .agg (ntV n a c)] w fun e w' => ∃ L', e = .returned (.tuple #[.bool (applyS (absL L) n).1.2.1, .bool (applyS (absL L) n).1.2.2]) ∧ absL L' = (applyS (absL L) n).2 ∧ MOut w0 w m M K KM L L' w' := by
  obtain ⟨RR, hRR⟩ : ∃ RR : Ending → World → Prop, RR = fun e w' => ∃ L', e = .returned (.tuple #[.bool (applyS (absL L) n).1.2.1, .bool (applyS (absL L) n).1.2.2]) ∧ absL L' = (applyS (absL L) n).2 ∧ MOut w0 w m M K KM L L' w' := ⟨_, rfl⟩
  have FIN := Lib.hid (show ∀ p o' L' w', p = (applyS (absL L) n).1.2.1 → o' = (applyS (absL L) n).1.2.2 → absL L' = (applyS (absL L) n).2 → MOut w0 w m M K KM L L' w' → RR (.returned (.tuple #[.bool p, .bool o'])) w' from fun p o' L' w' h1 h2 h3 h4 => by rw [hRR, h1, h2]; exact ⟨L', rfl, h3, h4⟩)
  rw [← hRR]
  have HND := Lib.hid HMO.nd
  have HF0 := Lib.hid (fun k hk => HMO.foot (k := k) hk)
  obtain ⟨w9, hw9⟩ : ∃ w9, w9 = w := ⟨_, rfl⟩
  have HON : Only (FootM m M K KM L) w w9 := by rw [hw9]; exact Only.refl _ _
  rw [← hw9] at HK HMO
  suffices hgo : Calls Tryd.prog 42 #[.pointer (some ⟨m, 0, none⟩), .agg (ntV n a c)] w9 RR by rw [hw9] at hgo; exact hgo
  clear hw9 hRR
  go_enter Tryd.func42, Tryd.ntmps42
  refine wp_forget (n := 64) (L := [(1, .agg (ntV n a c)), (0, .pointer (some ⟨m, 0, none⟩))]) (FrL.add (FrL.add (FrL.nil ?_ ?_) _ _ ?_) _ _ ?_) ?_
  iterate 4 rfl
  intro a9 F
  refine wp_seq ?_
  refine wp_region_lit ?_
  refine fr_box F HK 3 (by decide) rfl 35 _ rfl rfl (ntV n a c) (fun a' F' => F'.ev 1 rfl) ?_
  rintro B a10 w10 hX F' HK' hb
  replace HMO := HMO.below hb
  replace HON := HON.then hb
  clear HK F hb hX
  clear a9 w9
  rename World => w9
  rename Act => a9
  have HK := HK'
  have F := F'
  clear HK' F'
  replace HK : Keep w0 [(B, (ntV n a c), 35)] [] w9 := HK
  refine fr_ch F 2 [(5, .bool false), (4, .bool false)] (by kernel_rfl) ?_
  clear F a9
  intro a9 F
  refine wpList_nil ?_
  show Code.wp _ _ _ _ _
  replace F := F.cut [(5, .bool false), (4, .bool false), (3, .pointer (some ⟨B, 0, none⟩)), (0, .pointer (some ⟨m, 0, none⟩))] (by kernel_rfl)
  refine wp_seq ?_
  refine wp_region_lit ?_
  refine fr_ch F 2 [(8, .pointer (some ⟨B, 3, none⟩)), (7, .pointer (some ⟨m, 0, none⟩))] (by kernel_rfl) ?_
  clear F a9
  intro a9 F
  refine fr_do F (wanted_free rfl) 9 rfl (by decide) (.string n.client) (by intro a' F'; have hc : w9.cell? ⟨B, 3, none⟩ = some (.string n.client) := (HK.at 0 rfl).cells 3; have h8 := F'.at' 8 _ rfl; go_simp) ?_
  clear F a9
  intro a9 F
  refine fr_call F (wanted_free rfl) 10 rfl (by decide) 43 #[.pointer (some ⟨m, 0, none⟩), .string n.client] (by intro a' F'; have h7 := F'.at' 7 _ rfl; have h9 := F'.at' 9 _ rfl; go_simp) (model_seat w9 n.client HMO) ?_
  rintro e9 w8 ⟨rfl, rfl⟩
  rw [HX]
  refine ⟨_, rfl, ?_⟩
  clear F a9
  intro a9 F
  refine fr_as F (wanted_free rfl) 6 rfl (by decide) 10 rfl rfl ?_
  clear F a9
  intro a9 F
  refine wpList_nil ?_
  show Code.wp _ _ _ _ _
  replace F := F.cut [(6, .pointer (some ⟨x.s, 0, none⟩)), (5, .bool false), (4, .bool false), (3, .pointer (some ⟨B, 0, none⟩)), (0, .pointer (some ⟨m, 0, none⟩))] (by kernel_rfl)
  refine wp_seq ?_
  refine wp_seq ?_
  refine wp_region_lit ?_
  refine fr_ch F 1 [(11, .pointer (some ⟨B, 2, none⟩))] (by kernel_rfl) ?_
  clear F a9
  intro a9 F
  refine fr_do F (wanted_free rfl) 12 rfl (by decide) (.int .i64 n.conn) (by intro a' F'; have hc : w9.cell? ⟨B, 2, none⟩ = some (.int .i64 n.conn) := (HK.at 0 rfl).cells 2; have h11 := F'.at' 11 _ rfl; go_simp) ?_
  clear F a9
  intro a9 F
  refine fr_do F (wanted_free rfl) 13 rfl (by decide) (.bool true) (by intro a' F'; have h12 := F'.at' 12 _ rfl; go_simp) ?_
  clear F a9
  intro a9 F
  refine fr_ch F 4 [(17, undef), (16, undef), (15, undef), (14, .bool true)] (by kernel_rfl) ?_
  clear F a9
  intro a9 F
  refine fr_left F (wanted_undef F rfl (t := 17) (by kernel_rfl) rfl) 18 rfl (by decide) ?_
  clear F a9
  intro a9 F
  refine fr_left F (wanted_undef F rfl (t := 17) (by kernel_rfl) rfl) 19 rfl (by decide) ?_
  clear F a9
  intro a9 F
  refine fr_left F (wanted_undef F rfl (t := 17) (by kernel_rfl) rfl) 20 rfl (by decide) ?_
  clear F a9
  intro a9 F
  refine fr_left F (wanted_undef F rfl (t := 17) (by kernel_rfl) rfl) 21 rfl (by decide) ?_
  clear F a9
  intro a9 F
  refine fr_left F (wanted_undef F rfl (t := 17) (by kernel_rfl) rfl) 22 rfl (by decide) ?_
  clear F a9
  intro a9 F
  refine fr_ch F 2 [(24, .bool true), (23, undef)] (by kernel_rfl) ?_
  clear F a9
  intro a9 F
  refine wpList_nil ?_
  show Code.wp _ _ _ _ _
  refine wp_cond_true (F.ev 24 rfl) ?_
  refine wp_seq ?_
  refine wp_region_lit ?_
  refine fr_ch F 2 [(5, .bool false), (4, .bool false)] (by kernel_rfl) ?_
  clear F a9
  intro a9 F
  refine wpList_nil ?_
  show Code.wp _ _ _ _ _
  have HA : applyS (absL L) n = ((e0, false, false), absL L) := by unfold applyS; rw [if_neg (by omega), if_neg (by omega), if_pos hty, if_pos (Or.inl hc)]
  refine wp_ret ?_
  exact fr_ret2 F rfl _ _ rfl rfl (FIN.out _ _ L _ (by rw [HA]) (by rw [HA]) (by rw [HA]) ⟨HMO, HK.sub (List.nil_sublist _) (fun r hr => hr), HON, fun k hk => Or.inl hk⟩)
set_option maxRecDepth 100000 in
set_option maxHeartbeats 4000000 in
theorem connect_taken {w0 w : World} {m M K KM : Nat} {L : List St} (n : Nt) (a : Option Addr) (c : Nat) (HK : Keep w0 [] [] w) (HMO : MoAt w w0.heap.size m M K KM L) (hk : n.kind = 2) (hty : n.p.ty = 1) {x : St} (HX : findL L n.client = some x) (hc : ¬ n.conn < 1) (hxc : 0 < x.conn) : Calls Tryd.prog 42 #[.pointer (some ⟨m, 0, none⟩), .agg (ntV n a c)] w fun e w' => ∃ L', e = .returned (.tuple #[.bool (applyS (absL L) n).1.2.1, .bool (applyS (absL L) n).1.2.2]) ∧ absL L' = (applyS (absL L) n).2 ∧ MOut w0 w m M K KM L L' w' := by
  obtain ⟨RR, hRR⟩ : ∃ RR : Ending → World → Prop, RR = fun e w' => ∃ L', e = .returned (.tuple #[.bool (applyS (absL L) n).1.2.1, .bool (applyS (absL L) n).1.2.2]) ∧ absL L' = (applyS (absL L) n).2 ∧ MOut w0 w m M K KM L L' w' := ⟨_, rfl⟩
  have FIN := Lib.hid (show ∀ p o' L' w', p = (applyS (absL L) n).1.2.1 → o' = (applyS (absL L) n).1.2.2 → absL L' = (applyS (absL L) n).2 → MOut w0 w m M K KM L L' w' → RR (.returned (.tuple #[.bool p, .bool o'])) w' from fun p o' L' w' h1 h2 h3 h4 => by rw [hRR, h1, h2]; exact ⟨L', rfl, h3, h4⟩)
  rw [← hRR]
  have HND := Lib.hid HMO.nd
  have HF0 := Lib.hid (fun k hk => HMO.foot (k := k) hk)
  obtain ⟨w9, hw9⟩ : ∃ w9, w9 = w := ⟨_, rfl⟩
  have HON : Only (FootM m M K KM L) w w9 := by rw [hw9]; exact Only.refl _ _
  rw [← hw9] at HK HMO
  suffices hgo : Calls Tryd.prog 42 #[.pointer (some ⟨m, 0, none⟩), .agg (ntV n a c)] w9 RR by rw [hw9] at hgo; exact hgo
  clear hw9 hRR
  go_enter Tryd.func42, Tryd.ntmps42
  refine wp_forget (n := 64) (L := [(1, .agg (ntV n a c)), (0, .pointer (some ⟨m, 0, none⟩))]) (FrL.add (FrL.add (FrL.nil ?_ ?_) _ _ ?_) _ _ ?_) ?_
  iterate 4 rfl
  intro a9 F
  refine wp_seq ?_
  refine wp_region_lit ?_
  refine fr_box F HK 3 (by decide) rfl 35 _ rfl rfl (ntV n a c) (fun a' F' => F'.ev 1 rfl) ?_
  rintro B a10 w10 hX F' HK' hb
  replace HMO := HMO.below hb
  replace HON := HON.then hb
  clear HK F hb hX
  clear a9 w9
  rename World => w9
  rename Act => a9
  have HK := HK'
  have F := F'
  clear HK' F'
  replace HK : Keep w0 [(B, (ntV n a c), 35)] [] w9 := HK
  refine fr_ch F 2 [(5, .bool false), (4, .bool false)] (by kernel_rfl) ?_
  clear F a9
  intro a9 F
  refine wpList_nil ?_
  show Code.wp _ _ _ _ _
  replace F := F.cut [(5, .bool false), (4, .bool false), (3, .pointer (some ⟨B, 0, none⟩)), (0, .pointer (some ⟨m, 0, none⟩))] (by kernel_rfl)
  refine wp_seq ?_
  refine wp_region_lit ?_
  refine fr_ch F 2 [(8, .pointer (some ⟨B, 3, none⟩)), (7, .pointer (some ⟨m, 0, none⟩))] (by kernel_rfl) ?_
  clear F a9
  intro a9 F
  refine fr_do F (wanted_free rfl) 9 rfl (by decide) (.string n.client) (by intro a' F'; have hc : w9.cell? ⟨B, 3, none⟩ = some (.string n.client) := (HK.at 0 rfl).cells 3; have h8 := F'.at' 8 _ rfl; go_simp) ?_
  clear F a9
  intro a9 F
  refine fr_call F (wanted_free rfl) 10 rfl (by decide) 43 #[.pointer (some ⟨m, 0, none⟩), .string n.client] (by intro a' F'; have h7 := F'.at' 7 _ rfl; have h9 := F'.at' 9 _ rfl; go_simp) (model_seat w9 n.client HMO) ?_
  rintro e9 w8 ⟨rfl, rfl⟩
  rw [HX]
  refine ⟨_, rfl, ?_⟩
  clear F a9
  intro a9 F
  refine fr_as F (wanted_free rfl) 6 rfl (by decide) 10 rfl rfl ?_
  clear F a9
  intro a9 F
  refine wpList_nil ?_
  show Code.wp _ _ _ _ _
  replace F := F.cut [(6, .pointer (some ⟨x.s, 0, none⟩)), (5, .bool false), (4, .bool false), (3, .pointer (some ⟨B, 0, none⟩)), (0, .pointer (some ⟨m, 0, none⟩))] (by kernel_rfl)
  refine wp_seq ?_
  refine wp_seq ?_
  refine wp_region_lit ?_
  refine fr_ch F 1 [(11, .pointer (some ⟨B, 2, none⟩))] (by kernel_rfl) ?_
  clear F a9
  intro a9 F
  refine fr_do F (wanted_free rfl) 12 rfl (by decide) (.int .i64 n.conn) (by intro a' F'; have hc : w9.cell? ⟨B, 2, none⟩ = some (.int .i64 n.conn) := (HK.at 0 rfl).cells 2; have h11 := F'.at' 11 _ rfl; go_simp) ?_
  clear F a9
  intro a9 F
  refine fr_do F (wanted_free rfl) 13 rfl (by decide) (.bool false) (by intro a' F'; have h12 := F'.at' 12 _ rfl; go_simp) ?_
  clear F a9
  intro a9 F
  refine fr_ch F 1 [(14, .bool false)] (by kernel_rfl) ?_
  clear F a9
  intro a9 F
  refine fr_mv F (by rw [wanted_at F rfl (t := 14) (b := false) (by kernel_rfl) rfl]; rfl) 15 rfl (by decide) 6 rfl rfl ?_
  clear F a9
  intro a9 F
  refine fr_ch F 2 [(17, .bool true), (16, .bool true)] (by kernel_rfl) ?_
  clear F a9
  intro a9 F
  refine fr_mv F (by rw [wanted_at F rfl (t := 17) (b := true) (by kernel_rfl) rfl]; rfl) 18 rfl (by decide) 6 rfl rfl ?_
  clear F a9
  intro a9 F
  refine fr_nc F (by rw [wanted_at F rfl (t := 17) (b := true) (by kernel_rfl) rfl]; rfl) 19 rfl (by decide) 18 rfl rfl ?_
  clear F a9
  intro a9 F
  refine fr_ch F 1 [(20, .pointer (some ⟨x.s, 1, none⟩))] (by kernel_rfl) ?_
  clear F a9
  intro a9 F
  refine fr_do F (by rw [wanted_at F rfl (t := 17) (b := true) (by kernel_rfl) rfl]; rfl) 21 rfl (by decide) (.int .i64 x.conn) (by intro a' F'; have h20 := F'.at' 20 _ rfl; have hc : w9.cell? ⟨x.s, 1, none⟩ = some (.int .i64 x.conn) := (HMO.st x (find_mem HX).1).box.cells 1; go_simp) ?_
  clear F a9
  intro a9 F
  refine fr_do F (by rw [wanted_at F rfl (t := 17) (b := true) (by kernel_rfl) rfl]; rfl) 22 rfl (by decide) (.bool true) (by intro a' F'; have h21 := F'.at' 21 _ rfl; go_simp) ?_
  clear F a9
  intro a9 F
  refine fr_ch F 2 [(24, .bool true), (23, .bool true)] (by kernel_rfl) ?_
  clear F a9
  intro a9 F
  refine wpList_nil ?_
  show Code.wp _ _ _ _ _
  refine wp_cond_true (F.ev 24 rfl) ?_
  refine wp_seq ?_
  refine wp_region_lit ?_
  refine fr_ch F 2 [(5, .bool false), (4, .bool false)] (by kernel_rfl) ?_
  clear F a9
  intro a9 F
  refine wpList_nil ?_
  show Code.wp _ _ _ _ _
  have HA : applyS (absL L) n = ((e0, false, false), absL L) := by unfold applyS; rw [if_neg (by omega), if_neg (by omega), if_pos hty, if_pos (Or.inr ⟨⟨x.conn, x.clean, x.S⟩, by unfold absL; rw [HX]; rfl, hxc⟩)]
  refine wp_ret ?_
  exact fr_ret2 F rfl _ _ rfl rfl (FIN.out _ _ L _ (by rw [HA]) (by rw [HA]) (by rw [HA]) ⟨HMO, HK.sub (List.nil_sublist _) (fun r hr => hr), HON, fun k hk => Or.inl hk⟩)
set_option maxRecDepth 100000 in
set_option maxHeartbeats 4000000 in
theorem connect_back {w0 w : World} {m M K KM : Nat} {L : List St} (n : Nt) (a : Option Addr) (c : Nat) (HK : Keep w0 [] [] w) (HMO : MoAt w w0.heap.size m M K KM L) (hk : n.kind = 2) (hty : n.p.ty = 1) {x : St} (HX : findL L n.client = some x) (hc : ¬ n.conn < 1) (hxc : ¬ 0 < x.conn) (hxl : x.clean = false) (hnl : n.p.clean = false) : Calls Tryd.prog 42 #[.pointer (some ⟨m, 0, none⟩), .agg (ntV n a c)] w fun e w' => ∃ L', e = .returned (.tuple #[.bool (applyS (absL L) n).1.2.1, .bool (applyS (absL L) n).1.2.2]) ∧ absL L' = (applyS (absL L) n).2 ∧ MOut w0 w m M K KM L L' w' := by
  obtain ⟨RR, hRR⟩ : ∃ RR : Ending → World → Prop, RR = fun e w' => ∃ L', e = .returned (.tuple #[.bool (applyS (absL L) n).1.2.1, .bool (applyS (absL L) n).1.2.2]) ∧ absL L' = (applyS (absL L) n).2 ∧ MOut w0 w m M K KM L L' w' := ⟨_, rfl⟩
  have FIN := Lib.hid (show ∀ p o' L' w', p = (applyS (absL L) n).1.2.1 → o' = (applyS (absL L) n).1.2.2 → absL L' = (applyS (absL L) n).2 → MOut w0 w m M K KM L L' w' → RR (.returned (.tuple #[.bool p, .bool o'])) w' from fun p o' L' w' h1 h2 h3 h4 => by rw [hRR, h1, h2]; exact ⟨L', rfl, h3, h4⟩)
  rw [← hRR]
  have HND := Lib.hid HMO.nd
  have HF0 := Lib.hid (fun k hk => HMO.foot (k := k) hk)
  obtain ⟨w9, hw9⟩ : ∃ w9, w9 = w := ⟨_, rfl⟩
  have HON : Only (FootM m M K KM L) w w9 := by rw [hw9]; exact Only.refl _ _
  rw [← hw9] at HK HMO
  suffices hgo : Calls Tryd.prog 42 #[.pointer (some ⟨m, 0, none⟩), .agg (ntV n a c)] w9 RR by rw [hw9] at hgo; exact hgo
  clear hw9 hRR
  go_enter Tryd.func42, Tryd.ntmps42
  refine wp_forget (n := 64) (L := [(1, .agg (ntV n a c)), (0, .pointer (some ⟨m, 0, none⟩))]) (FrL.add (FrL.add (FrL.nil ?_ ?_) _ _ ?_) _ _ ?_) ?_
  iterate 4 rfl
  intro a9 F
  refine wp_seq ?_
  refine wp_region_lit ?_
  refine fr_box F HK 3 (by decide) rfl 35 _ rfl rfl (ntV n a c) (fun a' F' => F'.ev 1 rfl) ?_
  rintro B a10 w10 hX F' HK' hb
  replace HMO := HMO.below hb
  replace HON := HON.then hb
  clear HK F hb hX
  clear a9 w9
  rename World => w9
  rename Act => a9
  have HK := HK'
  have F := F'
  clear HK' F'
  replace HK : Keep w0 [(B, (ntV n a c), 35)] [] w9 := HK
  refine fr_ch F 2 [(5, .bool false), (4, .bool false)] (by kernel_rfl) ?_
  clear F a9
  intro a9 F
  refine wpList_nil ?_
  show Code.wp _ _ _ _ _
  replace F := F.cut [(5, .bool false), (4, .bool false), (3, .pointer (some ⟨B, 0, none⟩)), (0, .pointer (some ⟨m, 0, none⟩))] (by kernel_rfl)
  refine wp_seq ?_
  refine wp_region_lit ?_
  refine fr_ch F 2 [(8, .pointer (some ⟨B, 3, none⟩)), (7, .pointer (some ⟨m, 0, none⟩))] (by kernel_rfl) ?_
  clear F a9
  intro a9 F
  refine fr_do F (wanted_free rfl) 9 rfl (by decide) (.string n.client) (by intro a' F'; have hc : w9.cell? ⟨B, 3, none⟩ = some (.string n.client) := (HK.at 0 rfl).cells 3; have h8 := F'.at' 8 _ rfl; go_simp) ?_
  clear F a9
  intro a9 F
  refine fr_call F (wanted_free rfl) 10 rfl (by decide) 43 #[.pointer (some ⟨m, 0, none⟩), .string n.client] (by intro a' F'; have h7 := F'.at' 7 _ rfl; have h9 := F'.at' 9 _ rfl; go_simp) (model_seat w9 n.client HMO) ?_
  rintro e9 w8 ⟨rfl, rfl⟩
  rw [HX]
  refine ⟨_, rfl, ?_⟩
  clear F a9
  intro a9 F
  refine fr_as F (wanted_free rfl) 6 rfl (by decide) 10 rfl rfl ?_
  clear F a9
  intro a9 F
  refine wpList_nil ?_
  show Code.wp _ _ _ _ _
  replace F := F.cut [(6, .pointer (some ⟨x.s, 0, none⟩)), (5, .bool false), (4, .bool false), (3, .pointer (some ⟨B, 0, none⟩)), (0, .pointer (some ⟨m, 0, none⟩))] (by kernel_rfl)
  refine wp_seq ?_
  refine wp_seq ?_
  refine wp_region_lit ?_
  refine fr_ch F 1 [(11, .pointer (some ⟨B, 2, none⟩))] (by kernel_rfl) ?_
  clear F a9
  intro a9 F
  refine fr_do F (wanted_free rfl) 12 rfl (by decide) (.int .i64 n.conn) (by intro a' F'; have hc : w9.cell? ⟨B, 2, none⟩ = some (.int .i64 n.conn) := (HK.at 0 rfl).cells 2; have h11 := F'.at' 11 _ rfl; go_simp) ?_
  clear F a9
  intro a9 F
  refine fr_do F (wanted_free rfl) 13 rfl (by decide) (.bool false) (by intro a' F'; have h12 := F'.at' 12 _ rfl; go_simp) ?_
  clear F a9
  intro a9 F
  refine fr_ch F 1 [(14, .bool false)] (by kernel_rfl) ?_
  clear F a9
  intro a9 F
  refine fr_mv F (by rw [wanted_at F rfl (t := 14) (b := false) (by kernel_rfl) rfl]; rfl) 15 rfl (by decide) 6 rfl rfl ?_
  clear F a9
  intro a9 F
  refine fr_ch F 2 [(17, .bool true), (16, .bool true)] (by kernel_rfl) ?_
  clear F a9
  intro a9 F
  refine fr_mv F (by rw [wanted_at F rfl (t := 17) (b := true) (by kernel_rfl) rfl]; rfl) 18 rfl (by decide) 6 rfl rfl ?_
  clear F a9
  intro a9 F
  refine fr_nc F (by rw [wanted_at F rfl (t := 17) (b := true) (by kernel_rfl) rfl]; rfl) 19 rfl (by decide) 18 rfl rfl ?_
  clear F a9
  intro a9 F
  refine fr_ch F 1 [(20, .pointer (some ⟨x.s, 1, none⟩))] (by kernel_rfl) ?_
  clear F a9
  intro a9 F
  refine fr_do F (by rw [wanted_at F rfl (t := 17) (b := true) (by kernel_rfl) rfl]; rfl) 21 rfl (by decide) (.int .i64 x.conn) (by intro a' F'; have h20 := F'.at' 20 _ rfl; have hc : w9.cell? ⟨x.s, 1, none⟩ = some (.int .i64 x.conn) := (HMO.st x (find_mem HX).1).box.cells 1; go_simp) ?_
  clear F a9
  intro a9 F
  refine fr_do F (by rw [wanted_at F rfl (t := 17) (b := true) (by kernel_rfl) rfl]; rfl) 22 rfl (by decide) (.bool false) (by intro a' F'; have h21 := F'.at' 21 _ rfl; go_simp) ?_
  clear F a9
  intro a9 F
  refine fr_ch F 2 [(24, .bool false), (23, .bool false)] (by kernel_rfl) ?_
  clear F a9
  intro a9 F
  refine wpList_nil ?_
  show Code.wp _ _ _ _ _
  refine wp_cond_false (F.ev 24 rfl) ?_
  refine wp_skip ?_
  show Code.wp _ _ _ _ _
  replace F := F.cut [(6, .pointer (some ⟨x.s, 0, none⟩)), (5, .bool false), (4, .bool false), (3, .pointer (some ⟨B, 0, none⟩)), (0, .pointer (some ⟨m, 0, none⟩))] (by kernel_rfl)
  refine wp_seq ?_
  refine wp_region_lit ?_
  refine fr_ch F 6 [(30, .pointer (some ⟨x.s, 2, none⟩)), (27, .bool true)] (by kernel_rfl) ?_
  clear F a9
  intro a9 F
  refine fr_do F (by rw [wanted_at F rfl (t := 27) (b := true) (by kernel_rfl) rfl]; rfl) 31 rfl (by decide) (.bool false) (by intro a' F'; have h30 := F'.at' 30 _ rfl; have hc : w9.cell? ⟨x.s, 2, none⟩ = some (.bool false) := ((HMO.st x (find_mem HX).1).box.cells 2).trans (congrArg (fun b => some (Value.bool b)) hxl); go_simp) ?_
  clear F a9
  intro a9 F
  refine fr_ch F 5 [(36, .pointer (some ⟨B, 12, none⟩)), (35, .pointer (some ⟨B, 4, none⟩)), (34, .bool true), (33, .bool true), (32, .bool true)] (by kernel_rfl) ?_
  clear F a9
  intro a9 F
  refine fr_do F (by rw [wanted_at F rfl (t := 34) (b := true) (by kernel_rfl) rfl]; rfl) 37 rfl (by decide) (.bool false) (by intro a' F'; have h36 := F'.at' 36 _ rfl; have hc : w9.cell? ⟨B, 12, none⟩ = some (.bool false) := ((HK.at 0 rfl).cells 12).trans (congrArg (fun b => some (Value.bool b)) hnl); go_simp) ?_
  clear F a9
  intro a9 F
  refine fr_ch F 3 [(4, .bool true), (39, .bool true), (38, .bool true)] (by kernel_rfl) ?_
  clear F a9
  intro a9 F
  refine wpList_nil ?_
  show Code.wp _ _ _ _ _
  replace F := F.cut [(6, .pointer (some ⟨x.s, 0, none⟩)), (5, .bool false), (4, .bool true), (3, .pointer (some ⟨B, 0, none⟩)), (0, .pointer (some ⟨m, 0, none⟩))] (by kernel_rfl)
  refine wp_seq ?_
  refine wp_seq ?_
  refine wp_region_lit ?_
  refine fr_ch F 2 [(41, .bool false)] (by kernel_rfl) ?_
  clear F a9
  intro a9 F
  refine wpList_nil ?_
  show Code.wp _ _ _ _ _
  refine wp_cond_false (F.ev 41 rfl) ?_
  refine wp_skip ?_
  show Code.wp _ _ _ _ _
  replace F := F.cut [(6, .pointer (some ⟨x.s, 0, none⟩)), (5, .bool false), (4, .bool true), (3, .pointer (some ⟨B, 0, none⟩)), (0, .pointer (some ⟨m, 0, none⟩))] (by kernel_rfl)
  have hst := HMO.st x (find_mem HX).1
  have HK2 := HK.withBox ⟨x.s, stV x, 74⟩ hst.box hst.lo (fun z hz => by rw [List.mem_singleton.1 hz]; exact box_ne (HK.at 0 rfl) hst.box (by decide))
  clear HK hst
  have HK := HK2
  clear HK2
  have HX1 : findL L x.client = some x := by rw [(find_mem HX).2]; exact HX
  replace HK : Keep w0 [(x.s, (stV x), 74), (B, (ntV n a c), 35)] [] w9 := HK
  refine wp_seq ?_
  refine wp_region_lit ?_
  refine fr_ch F 2 [(53, .pointer (some ⟨B, 2, none⟩)), (52, .pointer (some ⟨x.s, 0, none⟩))] (by kernel_rfl) ?_
  clear F a9
  intro a9 F
  refine fr_do F (wanted_free rfl) 54 rfl (by decide) (.int .i64 n.conn) (by intro a' F'; have hc : w9.cell? ⟨B, 2, none⟩ = some (.int .i64 n.conn) := (HK.at 1 rfl).cells 2; have h53 := F'.at' 53 _ rfl; go_simp) ?_
  clear F a9
  intro a9 F
  refine fr_nc F (wanted_free rfl) 55 rfl (by decide) 52 rfl rfl ?_
  clear F a9
  intro a9 F
  refine fr_ch F 1 [(56, .pointer (some ⟨x.s, 1, none⟩))] (by kernel_rfl) ?_
  clear F a9
  intro a9 F
  refine fr_putO F HK 0 rfl rfl rfl 3 _ _ rfl 1 (.int .i64 n.conn) (fun a' F' => F'.ev 56 rfl) (fun a' F' => F'.ev 54 rfl) z_intM (Nat.le_of_ble_eq_true (by kernel_rfl)) (by kernel_rfl) ?_
  intro a10 w10 F' HK' HO
  replace HMO := HMO.turn (y := { x with conn := n.conn }) HX1 rfl rfl rfl rfl HO (HK'.at 0 rfl)
  replace HON := HON.trans HO (fun j _ h => h ▸ FootM.seat HX (Or.inl rfl))
  clear HK F HO
  clear a9 w9
  rename World => w9
  rename Act => a9
  have HK := HK'
  have F := F'
  clear HK' F'
  replace HK : Keep w0 [(x.s, (stV { x with conn := n.conn }), 74), (B, (ntV n a c), 35)] [] w9 := HK
  refine wpList_nil ?_
  show Code.wp _ _ _ _ _
  replace F := F.cut [(6, .pointer (some ⟨x.s, 0, none⟩)), (5, .bool false), (4, .bool true), (3, .pointer (some ⟨B, 0, none⟩)), (0, .pointer (some ⟨m, 0, none⟩))] (by kernel_rfl)
  have HX2 := find_put_self (L) { x with conn := n.conn }
  refine wp_seq ?_
  refine wp_region_lit ?_
  refine fr_ch F 3 [(59, .pointer (some ⟨B, 12, none⟩)), (57, .pointer (some ⟨x.s, 0, none⟩))] (by kernel_rfl) ?_
  clear F a9
  intro a9 F
  refine fr_do F (wanted_free rfl) 60 rfl (by decide) (.bool n.p.clean) (by intro a' F'; have hc : w9.cell? ⟨B, 12, none⟩ = some (.bool n.p.clean) := (HK.at 1 rfl).cells 12; have h59 := F'.at' 59 _ rfl; go_simp) ?_
  clear F a9
  intro a9 F
  refine fr_nc F (wanted_free rfl) 61 rfl (by decide) 57 rfl rfl ?_
  clear F a9
  intro a9 F
  refine fr_ch F 1 [(62, .pointer (some ⟨x.s, 2, none⟩))] (by kernel_rfl) ?_
  clear F a9
  intro a9 F
  refine fr_putO F HK 0 rfl rfl rfl 4 _ _ rfl 2 (.bool n.p.clean) (fun a' F' => F'.ev 62 rfl) (fun a' F' => F'.ev 60 rfl) z_bool (Nat.le_of_ble_eq_true (by kernel_rfl)) (by kernel_rfl) ?_
  intro a10 w10 F' HK' HO
  replace HMO := HMO.turn (y := { x with conn := n.conn, clean := n.p.clean }) HX2 rfl rfl rfl rfl HO (HK'.at 0 rfl)
  replace HON := HON.trans HO (fun j _ h => h ▸ FootM.seat HX (Or.inl rfl))
  clear HK F HO
  clear a9 w9
  rename World => w9
  rename Act => a9
  have HK := HK'
  have F := F'
  clear HK' F'
  replace HK : Keep w0 [(x.s, (stV { x with conn := n.conn, clean := n.p.clean }), 74), (B, (ntV n a c), 35)] [] w9 := HK
  refine wpList_nil ?_
  show Code.wp _ _ _ _ _
  replace F := F.cut [(6, .pointer (some ⟨x.s, 0, none⟩)), (5, .bool false), (4, .bool true), (3, .pointer (some ⟨B, 0, none⟩)), (0, .pointer (some ⟨m, 0, none⟩))] (by kernel_rfl)
  refine wp_seq ?_
  refine wp_region_lit ?_
  refine fr_ch F 3 [(5, .bool true), (4, .bool true)] (by kernel_rfl) ?_
  clear F a9
  intro a9 F
  refine wpList_nil ?_
  show Code.wp _ _ _ _ _
  have HA := conn_some hk hty hc (absL_some HX) hxc
  rw [if_pos ⟨hxl, hnl⟩] at HA
  have hcl := (find_mem HX).2
  refine wp_ret ?_
  exact fr_ret2 F rfl _ _ rfl rfl (FIN.out _ _ (putL (putL (L) { x with conn := n.conn }) { x with conn := n.conn, clean := n.p.clean }) _ (by rw [HA]) (by rw [HA]) (by rw [HA]; exact abs_put2 hcl hcl) ⟨HMO, HK.sub (List.nil_sublist _) (fun r hr => hr), HON, fun k hk => (FootM.put (put_nd HND.out) hk).elim (fun h => (FootM.put HND.out h).elim Or.inl (fun h => Or.inl (FootM.seat HX h))) (fun h => Or.inl (FootM.seat HX h))⟩)
theorem fine_nil : Fine [] := ⟨List.Pairwise.nil, Nat.zero_le _, fun x hx => (by cases hx)⟩
set_option maxRecDepth 100000 in
set_option maxHeartbeats 4000000 in
theorem connect_new0 {w0 w : World} {m M K KM : Nat} {L : List St} (n : Nt) (a : Option Addr) (c : Nat) (HK : Keep w0 [] [] w) (HMO : MoAt w w0.heap.size m M K KM L) (hk : n.kind = 2) (hty : n.p.ty = 1) (HX : findL L n.client = none) (hc : ¬ n.conn < 1) : Calls Tryd.prog 42 #[.pointer (some ⟨m, 0, none⟩), .agg (ntV n a c)] w fun e w' => ∃ L', e = .returned (.tuple #[.bool (applyS (absL L) n).1.2.1, .bool (applyS (absL L) n).1.2.2]) ∧ absL L' = (applyS (absL L) n).2 ∧ MOut w0 w m M K KM L L' w' := by
  obtain ⟨RR, hRR⟩ : ∃ RR : Ending → World → Prop, RR = fun e w' => ∃ L', e = .returned (.tuple #[.bool (applyS (absL L) n).1.2.1, .bool (applyS (absL L) n).1.2.2]) ∧ absL L' = (applyS (absL L) n).2 ∧ MOut w0 w m M K KM L L' w' := ⟨_, rfl⟩
  have FIN := Lib.hid (show ∀ p o' L' w', p = (applyS (absL L) n).1.2.1 → o' = (applyS (absL L) n).1.2.2 → absL L' = (applyS (absL L) n).2 → MOut w0 w m M K KM L L' w' → RR (.returned (.tuple #[.bool p, .bool o'])) w' from fun p o' L' w' h1 h2 h3 h4 => by rw [hRR, h1, h2]; exact ⟨L', rfl, h3, h4⟩)
  rw [← hRR]
  have HND := Lib.hid HMO.nd
  have HF0 := Lib.hid (fun k hk => HMO.foot (k := k) hk)
  obtain ⟨w9, hw9⟩ : ∃ w9, w9 = w := ⟨_, rfl⟩
  have HON : Only (FootM m M K KM L) w w9 := by rw [hw9]; exact Only.refl _ _
  rw [← hw9] at HK HMO
  suffices hgo : Calls Tryd.prog 42 #[.pointer (some ⟨m, 0, none⟩), .agg (ntV n a c)] w9 RR by rw [hw9] at hgo; exact hgo
  clear hw9 hRR
  go_enter Tryd.func42, Tryd.ntmps42
  refine wp_forget (n := 64) (L := [(1, .agg (ntV n a c)), (0, .pointer (some ⟨m, 0, none⟩))]) (FrL.add (FrL.add (FrL.nil ?_ ?_) _ _ ?_) _ _ ?_) ?_
  iterate 4 rfl
  intro a9 F
  refine wp_seq ?_
  refine wp_region_lit ?_
  refine fr_box F HK 3 (by decide) rfl 35 _ rfl rfl (ntV n a c) (fun a' F' => F'.ev 1 rfl) ?_
  rintro B a10 w10 hX F' HK' hb
  replace HMO := HMO.below hb
  replace HON := HON.then hb
  clear HK F hb hX
  clear a9 w9
  rename World => w9
  rename Act => a9
  have HK := HK'
  have F := F'
  clear HK' F'
  replace HK : Keep w0 [(B, (ntV n a c), 35)] [] w9 := HK
  refine fr_ch F 2 [(5, .bool false), (4, .bool false)] (by kernel_rfl) ?_
  clear F a9
  intro a9 F
  refine wpList_nil ?_
  show Code.wp _ _ _ _ _
  replace F := F.cut [(5, .bool false), (4, .bool false), (3, .pointer (some ⟨B, 0, none⟩)), (0, .pointer (some ⟨m, 0, none⟩))] (by kernel_rfl)
  refine wp_seq ?_
  refine wp_region_lit ?_
  refine fr_ch F 2 [(8, .pointer (some ⟨B, 3, none⟩)), (7, .pointer (some ⟨m, 0, none⟩))] (by kernel_rfl) ?_
  clear F a9
  intro a9 F
  refine fr_do F (wanted_free rfl) 9 rfl (by decide) (.string n.client) (by intro a' F'; have hc : w9.cell? ⟨B, 3, none⟩ = some (.string n.client) := (HK.at 0 rfl).cells 3; have h8 := F'.at' 8 _ rfl; go_simp) ?_
  clear F a9
  intro a9 F
  refine fr_call F (wanted_free rfl) 10 rfl (by decide) 43 #[.pointer (some ⟨m, 0, none⟩), .string n.client] (by intro a' F'; have h7 := F'.at' 7 _ rfl; have h9 := F'.at' 9 _ rfl; go_simp) (model_seat w9 n.client HMO) ?_
  rintro e9 w8 ⟨rfl, rfl⟩
  rw [HX]
  refine ⟨_, rfl, ?_⟩
  clear F a9
  intro a9 F
  refine fr_as F (wanted_free rfl) 6 rfl (by decide) 10 rfl rfl ?_
  clear F a9
  intro a9 F
  refine wpList_nil ?_
  show Code.wp _ _ _ _ _
  replace F := F.cut [(6, .pointer none), (5, .bool false), (4, .bool false), (3, .pointer (some ⟨B, 0, none⟩)), (0, .pointer (some ⟨m, 0, none⟩))] (by kernel_rfl)
  refine wp_seq ?_
  refine wp_seq ?_
  refine wp_region_lit ?_
  refine fr_ch F 1 [(11, .pointer (some ⟨B, 2, none⟩))] (by kernel_rfl) ?_
  clear F a9
  intro a9 F
  refine fr_do F (wanted_free rfl) 12 rfl (by decide) (.int .i64 n.conn) (by intro a' F'; have hc : w9.cell? ⟨B, 2, none⟩ = some (.int .i64 n.conn) := (HK.at 0 rfl).cells 2; have h11 := F'.at' 11 _ rfl; go_simp) ?_
  clear F a9
  intro a9 F
  refine fr_do F (wanted_free rfl) 13 rfl (by decide) (.bool false) (by intro a' F'; have h12 := F'.at' 12 _ rfl; go_simp) ?_
  clear F a9
  intro a9 F
  refine fr_ch F 1 [(14, .bool false)] (by kernel_rfl) ?_
  clear F a9
  intro a9 F
  refine fr_mv F (by rw [wanted_at F rfl (t := 14) (b := false) (by kernel_rfl) rfl]; rfl) 15 rfl (by decide) 6 rfl rfl ?_
  clear F a9
  intro a9 F
  refine fr_ch F 9 [(24, .bool false), (23, .bool false), (22, undef), (21, undef), (20, undef), (19, undef), (18, undef), (17, .bool false), (16, .bool false)] (by kernel_rfl) ?_
  clear F a9
  intro a9 F
  refine wpList_nil ?_
  show Code.wp _ _ _ _ _
  refine wp_cond_false (F.ev 24 rfl) ?_
  refine wp_skip ?_
  show Code.wp _ _ _ _ _
  replace F := F.cut [(6, .pointer none), (5, .bool false), (4, .bool false), (3, .pointer (some ⟨B, 0, none⟩)), (0, .pointer (some ⟨m, 0, none⟩))] (by kernel_rfl)
  refine wp_seq ?_
  refine wp_region_lit ?_
  refine fr_ch F 16 [(4, .bool false)] (by kernel_rfl) ?_
  clear F a9
  intro a9 F
  refine wpList_nil ?_
  show Code.wp _ _ _ _ _
  replace F := F.cut [(6, .pointer none), (5, .bool false), (4, .bool false), (3, .pointer (some ⟨B, 0, none⟩)), (0, .pointer (some ⟨m, 0, none⟩))] (by kernel_rfl)
  refine wp_seq ?_
  refine wp_seq ?_
  refine wp_region_lit ?_
  refine fr_ch F 2 [(41, .bool true)] (by kernel_rfl) ?_
  clear F a9
  intro a9 F
  refine wpList_nil ?_
  show Code.wp _ _ _ _ _
  refine wp_cond_true (F.ev 41 rfl) ?_
  replace F := F.cut [(6, .pointer none), (5, .bool false), (4, .bool false), (3, .pointer (some ⟨B, 0, none⟩)), (0, .pointer (some ⟨m, 0, none⟩))] (by kernel_rfl)
  refine wp_seq ?_
  refine wp_region_lit ?_
  refine fr_call F (wanted_free rfl) 42 rfl (by decide) 61 #[] (by intro a' F'; go_simp) (subs_New w9) ?_
  rintro e9 w8 ⟨he9, hL0, hb8⟩
  obtain ⟨g0, hg0⟩ : ∃ g0, w9.heap.size = g0 := ⟨_, rfl⟩
  have hg9 : w.heap.size ≤ g0 := hg0 ▸ HON.size
  have hgu : w0.heap.size ≤ g0 := hg0 ▸ HK.size
  have hgF : ¬ FootM m M K KM L g0 := fun h => by have h2 := HMO.foot h; omega
  rw [hg0] at he9 hL0
  subst he9
  clear hg0
  replace HK := HK.below hb8
  replace HMO := HMO.below hb8
  replace HON := HON.then hb8
  clear hb8
  clear w9
  rename World => w9
  refine ⟨_, rfl, ?_⟩
  clear F a9
  intro a9 F
  refine fr_ch F 1 [(43, .agg #[.pointer (some ⟨g0, 0, none⟩), .int .i64 0, .bool false])] (by kernel_rfl) ?_
  clear F a9
  intro a9 F
  refine fr_box F HK 44 (by decide) rfl 74 _ rfl rfl #[.pointer (some ⟨g0, 0, none⟩), .int .i64 0, .bool false] (fun a' F' => F'.ev 43 rfl) ?_
  rintro S1 a10 w10 hX F' HK' hb
  have hS9 : w.heap.size ≤ S1 := hX ▸ HON.size
  have hSg : g0 < S1 := hX ▸ hL0.blk.lt
  have hSF : ¬ FootM m M K KM L S1 := fun h => by have h2 := HMO.foot h; omega
  replace HMO := HMO.below hb
  replace HON := HON.then hb
  replace hL0 := hL0.below hb
  clear HK F hb hX
  clear a9 w9
  rename World => w9
  rename Act => a9
  have HK := HK'
  have F := F'
  clear HK' F'
  replace HK : Keep w0 [(S1, #[.pointer (some ⟨g0, 0, none⟩), .int .i64 0, .bool false], 74), (B, (ntV n a c), 35)] [] w9 := HK
  refine fr_as F (wanted_free rfl) 6 rfl (by decide) 44 rfl rfl ?_
  clear F a9
  intro a9 F
  refine wpList_nil ?_
  show Code.wp _ _ _ _ _
  replace F := F.cut [(6, .pointer (some ⟨S1, 0, none⟩)), (5, .bool false), (4, .bool false), (3, .pointer (some ⟨B, 0, none⟩)), (0, .pointer (some ⟨m, 0, none⟩))] (by kernel_rfl)
  refine wp_region_noPanic ?_
  have hb8 : Below w9.heap.size w9 w9.drew := below_draws (n := 1) rfl
  replace HK := HK.below hb8
  replace HMO := HMO.below hb8
  replace HON := HON.then hb8
  replace hL0 := hL0.below hb8
  clear hb8
  refine AnyT.begin (S := fun w' => BoxAt w' m #[.map (some M), .pointer (some ⟨K, 0, none⟩)] 66 ∧ BoxAt w' B (ntV n a c) 35) (z := 1000) (by kernel_rfl) ⟨HMO.box, HK.at 1 rfl⟩ (fun hS0 => ?_)
  clear hS0
  generalize w9.drew = w8 at *
  clear w9
  rename World => w9
  refine fr_chT F [0, 1, 2] [(47, .pointer (some ⟨m, 0, none⟩)), (46, .pointer (some ⟨m, 0, none⟩)), (45, .pointer (some ⟨m, 0, none⟩))] ⟨HMO.box, HK.at 1 rfl⟩ (by kernel_rfl) ?_
  clear F a9
  intro a9 F
  refine fr_takeG (i := 3) (o := ⟨some 48, _, _, _, _, _⟩) F ⟨HMO.box, HK.at 1 rfl⟩ rfl (wanted_free rfl) 48 rfl (by decide) (.map (some M)) (fun w9 hS => (by intro a' F'; have h47 := F'.at' 47 _ rfl; have hc : w9.cell? ⟨m, 0, none⟩ = some (.map (some M)) := hS.1.cells 0; go_simp)) ?_
  clear F a9
  intro a9 F
  refine fr_chT F [4] [(49, .pointer (some ⟨B, 3, none⟩))] ⟨HMO.box, HK.at 1 rfl⟩ (by kernel_rfl) ?_
  clear F a9
  intro a9 F
  refine fr_takeG (i := 5) (o := ⟨some 50, _, _, _, _, _⟩) F ⟨HMO.box, HK.at 1 rfl⟩ rfl (wanted_free rfl) 50 rfl (by decide) (.string n.client) (fun w9 hS => (by intro a' F'; have h49 := F'.at' 49 _ rfl; have hc : w9.cell? ⟨B, 3, none⟩ = some (.string n.client) := hS.2.cells 3; go_simp)) ?_
  clear F a9
  intro a9 F
  refine fr_chT F [6] [(51, .pointer (some ⟨S1, 0, none⟩))] ⟨HMO.box, HK.at 1 rfl⟩ (by kernel_rfl) ?_
  clear F a9
  intro a9 F
  have hSM : S1 ≠ M := fun e => hSF (e ▸ Or.inr (Or.inl rfl))
  have hgM : g0 ≠ M := fun e => hgF (e ▸ Or.inr (Or.inl rfl))
  have hBM := box_map_ne (HK.at 1 rfl) HMO.map
  obtain ⟨w7, hm7, ho7, hrun⟩ := op_update keyS Tryd.underlying62 HMO.map n.client (.pointer (some ⟨S1, 0, none⟩))
  refine fr_stepSk (i := 7) (o := ⟨none, _, _, _, _, _⟩) F rfl rfl rfl w7 (fun a' F' => hrun (Or.inl rfl) (F'.ev 48 rfl) (F'.ev 50 rfl) (F'.ev 51 rfl)) ⟨?_, ?_⟩ ?_
  · exact HMO.box.only ho7 HMO.ne.1
  · exact (HK.at 1 rfl).only ho7 hBM
  replace HON := HON.trans ho7 (fun j _ h => h ▸ Or.inr (Or.inl rfl))
  replace HK := HK.onlyOut ho7 HMO.lo.2.1 (fun x hx => by rcases List.mem_cons.1 hx with rfl | hx; exact hSM; rw [List.mem_singleton.1 hx]; exact hBM)
  replace hL0 := hL0.only ho7 hgM (fun r hr => by cases hr)
  replace HMO := HMO.put (y := ⟨n.client, S1, g0, .slice none 0 0, 0, false, []⟩) ho7 (fun j hj _ => Or.inl hj) (by rw [entM_put]; exact hm7) ⟨HK.at 0 rfl, ⟨hL0.blk, hL0.own.base hgu, hgu⟩, fine_nil, Nat.le_trans hgu (Nat.le_of_lt hSg)⟩ (fun j hj => Or.inr (by rcases hj with rfl | rfl | hj; exact hSF; exact hgF; cases hj))
  clear hrun hm7 ho7 hL0 w9
  rename World => w9
  clear F a9
  intro a9 F
  refine AnyT.done (by kernel_rfl) ?_ _
  refine NoPanic.normal ?_
  show Code.wp _ _ _ _ _
  replace F := F.cut [(6, .pointer (some ⟨S1, 0, none⟩)), (5, .bool false), (4, .bool false), (3, .pointer (some ⟨B, 0, none⟩)), (0, .pointer (some ⟨m, 0, none⟩))] (by kernel_rfl)
  have HX1 := find_put_self L ⟨n.client, S1, g0, .slice none 0 0, 0, false, []⟩
  refine wp_seq ?_
  refine wp_region_lit ?_
  refine fr_ch F 2 [(53, .pointer (some ⟨B, 2, none⟩)), (52, .pointer (some ⟨S1, 0, none⟩))] (by kernel_rfl) ?_
  clear F a9
  intro a9 F
  refine fr_do F (wanted_free rfl) 54 rfl (by decide) (.int .i64 n.conn) (by intro a' F'; have hc : w9.cell? ⟨B, 2, none⟩ = some (.int .i64 n.conn) := (HK.at 1 rfl).cells 2; have h53 := F'.at' 53 _ rfl; go_simp) ?_
  clear F a9
  intro a9 F
  refine fr_nc F (wanted_free rfl) 55 rfl (by decide) 52 rfl rfl ?_
  clear F a9
  intro a9 F
  refine fr_ch F 1 [(56, .pointer (some ⟨S1, 1, none⟩))] (by kernel_rfl) ?_
  clear F a9
  intro a9 F
  refine fr_putO F HK 0 rfl rfl rfl 3 _ _ rfl 1 (.int .i64 n.conn) (fun a' F' => F'.ev 56 rfl) (fun a' F' => F'.ev 54 rfl) z_intM (Nat.le_of_ble_eq_true (by kernel_rfl)) (by kernel_rfl) ?_
  intro a10 w10 F' HK' HO
  replace HMO := HMO.turn (y := { (⟨n.client, S1, g0, .slice none 0 0, 0, false, []⟩ : St) with conn := n.conn }) HX1 rfl rfl rfl rfl HO (HK'.at 0 rfl)
  replace HON := HON.trans HO (fun j hj h => absurd hj (by rw [h]; omega))
  clear HK F HO
  clear a9 w9
  rename World => w9
  rename Act => a9
  have HK := HK'
  have F := F'
  clear HK' F'
  replace HK : Keep w0 [(S1, (stV { (⟨n.client, S1, g0, .slice none 0 0, 0, false, []⟩ : St) with conn := n.conn }), 74), (B, (ntV n a c), 35)] [] w9 := HK
  refine wpList_nil ?_
  show Code.wp _ _ _ _ _
  replace F := F.cut [(6, .pointer (some ⟨S1, 0, none⟩)), (5, .bool false), (4, .bool false), (3, .pointer (some ⟨B, 0, none⟩)), (0, .pointer (some ⟨m, 0, none⟩))] (by kernel_rfl)
  have HX2 := find_put_self (putL L ⟨n.client, S1, g0, .slice none 0 0, 0, false, []⟩) { (⟨n.client, S1, g0, .slice none 0 0, 0, false, []⟩ : St) with conn := n.conn }
  refine wp_seq ?_
  refine wp_region_lit ?_
  refine fr_ch F 3 [(59, .pointer (some ⟨B, 12, none⟩)), (57, .pointer (some ⟨S1, 0, none⟩))] (by kernel_rfl) ?_
  clear F a9
  intro a9 F
  refine fr_do F (wanted_free rfl) 60 rfl (by decide) (.bool n.p.clean) (by intro a' F'; have hc : w9.cell? ⟨B, 12, none⟩ = some (.bool n.p.clean) := (HK.at 1 rfl).cells 12; have h59 := F'.at' 59 _ rfl; go_simp) ?_
  clear F a9
  intro a9 F
  refine fr_nc F (wanted_free rfl) 61 rfl (by decide) 57 rfl rfl ?_
  clear F a9
  intro a9 F
  refine fr_ch F 1 [(62, .pointer (some ⟨S1, 2, none⟩))] (by kernel_rfl) ?_
  clear F a9
  intro a9 F
  refine fr_putO F HK 0 rfl rfl rfl 4 _ _ rfl 2 (.bool n.p.clean) (fun a' F' => F'.ev 62 rfl) (fun a' F' => F'.ev 60 rfl) z_bool (Nat.le_of_ble_eq_true (by kernel_rfl)) (by kernel_rfl) ?_
  intro a10 w10 F' HK' HO
  replace HMO := HMO.turn (y := { (⟨n.client, S1, g0, .slice none 0 0, 0, false, []⟩ : St) with conn := n.conn, clean := n.p.clean }) HX2 rfl rfl rfl rfl HO (HK'.at 0 rfl)
  replace HON := HON.trans HO (fun j hj h => absurd hj (by rw [h]; omega))
  clear HK F HO
  clear a9 w9
  rename World => w9
  rename Act => a9
  have HK := HK'
  have F := F'
  clear HK' F'
  replace HK : Keep w0 [(S1, (stV { (⟨n.client, S1, g0, .slice none 0 0, 0, false, []⟩ : St) with conn := n.conn, clean := n.p.clean }), 74), (B, (ntV n a c), 35)] [] w9 := HK
  refine wpList_nil ?_
  show Code.wp _ _ _ _ _
  replace F := F.cut [(6, .pointer (some ⟨S1, 0, none⟩)), (5, .bool false), (4, .bool false), (3, .pointer (some ⟨B, 0, none⟩)), (0, .pointer (some ⟨m, 0, none⟩))] (by kernel_rfl)
  refine wp_seq ?_
  refine wp_region_lit ?_
  refine fr_ch F 3 [(5, .bool true), (4, .bool false)] (by kernel_rfl) ?_
  clear F a9
  intro a9 F
  refine wpList_nil ?_
  show Code.wp _ _ _ _ _
  have HA := conn_none hk hty hc (absL_none HX)
  have hft : ∀ k, FootS ⟨n.client, S1, g0, .slice none 0 0, 0, false, []⟩ k → w.heap.size ≤ k := fun k hk => by rcases hk with rfl | rfl | hk; exact hS9; exact hg9; cases hk
  refine wp_ret ?_
  exact fr_ret2 F rfl _ _ rfl rfl (FIN.out _ _ (putL (putL (putL L ⟨n.client, S1, g0, .slice none 0 0, 0, false, []⟩) { (⟨n.client, S1, g0, .slice none 0 0, 0, false, []⟩ : St) with conn := n.conn }) { (⟨n.client, S1, g0, .slice none 0 0, 0, false, []⟩ : St) with conn := n.conn, clean := n.p.clean }) _ (by rw [HA]) (by rw [HA]) (by rw [HA]; exact abs_put3 rfl rfl rfl) ⟨HMO, HK.sub (List.nil_sublist _) (fun r hr => hr), HON, fun k hk => (FootM.put (put_nd (put_nd HND.out)) hk).elim (fun h => (FootM.put (put_nd HND.out) h).elim (fun h => (FootM.put HND.out h).elim Or.inl (fun h => Or.inr (hft k h))) (fun h => Or.inr (hft k h))) (fun h => Or.inr (hft k h))⟩)
set_option maxRecDepth 100000 in
set_option maxHeartbeats 4000000 in
theorem connect_new1 {w0 w : World} {m M K KM : Nat} {L : List St} (n : Nt) (a : Option Addr) (c : Nat) (HK : Keep w0 [] [] w) (HMO : MoAt w w0.heap.size m M K KM L) (hk : n.kind = 2) (hty : n.p.ty = 1) {x : St} (HX : findL L n.client = some x) (hc : ¬ n.conn < 1) (hxc : ¬ 0 < x.conn) (hxl : x.clean = true) : Calls Tryd.prog 42 #[.pointer (some ⟨m, 0, none⟩), .agg (ntV n a c)] w fun e w' => ∃ L', e = .returned (.tuple #[.bool (applyS (absL L) n).1.2.1, .bool (applyS (absL L) n).1.2.2]) ∧ absL L' = (applyS (absL L) n).2 ∧ MOut w0 w m M K KM L L' w' := by
  obtain ⟨RR, hRR⟩ : ∃ RR : Ending → World → Prop, RR = fun e w' => ∃ L', e = .returned (.tuple #[.bool (applyS (absL L) n).1.2.1, .bool (applyS (absL L) n).1.2.2]) ∧ absL L' = (applyS (absL L) n).2 ∧ MOut w0 w m M K KM L L' w' := ⟨_, rfl⟩
  have FIN := Lib.hid (show ∀ p o' L' w', p = (applyS (absL L) n).1.2.1 → o' = (applyS (absL L) n).1.2.2 → absL L' = (applyS (absL L) n).2 → MOut w0 w m M K KM L L' w' → RR (.returned (.tuple #[.bool p, .bool o'])) w' from fun p o' L' w' h1 h2 h3 h4 => by rw [hRR, h1, h2]; exact ⟨L', rfl, h3, h4⟩)
  rw [← hRR]
  have HND := Lib.hid HMO.nd
  have HF0 := Lib.hid (fun k hk => HMO.foot (k := k) hk)
  obtain ⟨w9, hw9⟩ : ∃ w9, w9 = w := ⟨_, rfl⟩
  have HON : Only (FootM m M K KM L) w w9 := by rw [hw9]; exact Only.refl _ _
  rw [← hw9] at HK HMO
  suffices hgo : Calls Tryd.prog 42 #[.pointer (some ⟨m, 0, none⟩), .agg (ntV n a c)] w9 RR by rw [hw9] at hgo; exact hgo
  clear hw9 hRR
  go_enter Tryd.func42, Tryd.ntmps42
  refine wp_forget (n := 64) (L := [(1, .agg (ntV n a c)), (0, .pointer (some ⟨m, 0, none⟩))]) (FrL.add (FrL.add (FrL.nil ?_ ?_) _ _ ?_) _ _ ?_) ?_
  iterate 4 rfl
  intro a9 F
  refine wp_seq ?_
  refine wp_region_lit ?_
  refine fr_box F HK 3 (by decide) rfl 35 _ rfl rfl (ntV n a c) (fun a' F' => F'.ev 1 rfl) ?_
  rintro B a10 w10 hX F' HK' hb
  replace HMO := HMO.below hb
  replace HON := HON.then hb
  clear HK F hb hX
  clear a9 w9
  rename World => w9
  rename Act => a9
  have HK := HK'
  have F := F'
  clear HK' F'
  replace HK : Keep w0 [(B, (ntV n a c), 35)] [] w9 := HK
  refine fr_ch F 2 [(5, .bool false), (4, .bool false)] (by kernel_rfl) ?_
  clear F a9
  intro a9 F
  refine wpList_nil ?_
  show Code.wp _ _ _ _ _
  replace F := F.cut [(5, .bool false), (4, .bool false), (3, .pointer (some ⟨B, 0, none⟩)), (0, .pointer (some ⟨m, 0, none⟩))] (by kernel_rfl)
  refine wp_seq ?_
  refine wp_region_lit ?_
  refine fr_ch F 2 [(8, .pointer (some ⟨B, 3, none⟩)), (7, .pointer (some ⟨m, 0, none⟩))] (by kernel_rfl) ?_
  clear F a9
  intro a9 F
  refine fr_do F (wanted_free rfl) 9 rfl (by decide) (.string n.client) (by intro a' F'; have hc : w9.cell? ⟨B, 3, none⟩ = some (.string n.client) := (HK.at 0 rfl).cells 3; have h8 := F'.at' 8 _ rfl; go_simp) ?_
  clear F a9
  intro a9 F
  refine fr_call F (wanted_free rfl) 10 rfl (by decide) 43 #[.pointer (some ⟨m, 0, none⟩), .string n.client] (by intro a' F'; have h7 := F'.at' 7 _ rfl; have h9 := F'.at' 9 _ rfl; go_simp) (model_seat w9 n.client HMO) ?_
  rintro e9 w8 ⟨rfl, rfl⟩
  rw [HX]
  refine ⟨_, rfl, ?_⟩
  clear F a9
  intro a9 F
  refine fr_as F (wanted_free rfl) 6 rfl (by decide) 10 rfl rfl ?_
  clear F a9
  intro a9 F
  refine wpList_nil ?_
  show Code.wp _ _ _ _ _
  replace F := F.cut [(6, .pointer (some ⟨x.s, 0, none⟩)), (5, .bool false), (4, .bool false), (3, .pointer (some ⟨B, 0, none⟩)), (0, .pointer (some ⟨m, 0, none⟩))] (by kernel_rfl)
  refine wp_seq ?_
  refine wp_seq ?_
  refine wp_region_lit ?_
  refine fr_ch F 1 [(11, .pointer (some ⟨B, 2, none⟩))] (by kernel_rfl) ?_
  clear F a9
  intro a9 F
  refine fr_do F (wanted_free rfl) 12 rfl (by decide) (.int .i64 n.conn) (by intro a' F'; have hc : w9.cell? ⟨B, 2, none⟩ = some (.int .i64 n.conn) := (HK.at 0 rfl).cells 2; have h11 := F'.at' 11 _ rfl; go_simp) ?_
  clear F a9
  intro a9 F
  refine fr_do F (wanted_free rfl) 13 rfl (by decide) (.bool false) (by intro a' F'; have h12 := F'.at' 12 _ rfl; go_simp) ?_
  clear F a9
  intro a9 F
  refine fr_ch F 1 [(14, .bool false)] (by kernel_rfl) ?_
  clear F a9
  intro a9 F
  refine fr_mv F (by rw [wanted_at F rfl (t := 14) (b := false) (by kernel_rfl) rfl]; rfl) 15 rfl (by decide) 6 rfl rfl ?_
  clear F a9
  intro a9 F
  refine fr_ch F 2 [(17, .bool true), (16, .bool true)] (by kernel_rfl) ?_
  clear F a9
  intro a9 F
  refine fr_mv F (by rw [wanted_at F rfl (t := 17) (b := true) (by kernel_rfl) rfl]; rfl) 18 rfl (by decide) 6 rfl rfl ?_
  clear F a9
  intro a9 F
  refine fr_nc F (by rw [wanted_at F rfl (t := 17) (b := true) (by kernel_rfl) rfl]; rfl) 19 rfl (by decide) 18 rfl rfl ?_
  clear F a9
  intro a9 F
  refine fr_ch F 1 [(20, .pointer (some ⟨x.s, 1, none⟩))] (by kernel_rfl) ?_
  clear F a9
  intro a9 F
  refine fr_do F (by rw [wanted_at F rfl (t := 17) (b := true) (by kernel_rfl) rfl]; rfl) 21 rfl (by decide) (.int .i64 x.conn) (by intro a' F'; have h20 := F'.at' 20 _ rfl; have hc : w9.cell? ⟨x.s, 1, none⟩ = some (.int .i64 x.conn) := (HMO.st x (find_mem HX).1).box.cells 1; go_simp) ?_
  clear F a9
  intro a9 F
  refine fr_do F (by rw [wanted_at F rfl (t := 17) (b := true) (by kernel_rfl) rfl]; rfl) 22 rfl (by decide) (.bool false) (by intro a' F'; have h21 := F'.at' 21 _ rfl; go_simp) ?_
  clear F a9
  intro a9 F
  refine fr_ch F 2 [(24, .bool false), (23, .bool false)] (by kernel_rfl) ?_
  clear F a9
  intro a9 F
  refine wpList_nil ?_
  show Code.wp _ _ _ _ _
  refine wp_cond_false (F.ev 24 rfl) ?_
  refine wp_skip ?_
  show Code.wp _ _ _ _ _
  replace F := F.cut [(6, .pointer (some ⟨x.s, 0, none⟩)), (5, .bool false), (4, .bool false), (3, .pointer (some ⟨B, 0, none⟩)), (0, .pointer (some ⟨m, 0, none⟩))] (by kernel_rfl)
  refine wp_seq ?_
  refine wp_region_lit ?_
  refine fr_ch F 6 [(30, .pointer (some ⟨x.s, 2, none⟩)), (27, .bool true)] (by kernel_rfl) ?_
  clear F a9
  intro a9 F
  refine fr_do F (by rw [wanted_at F rfl (t := 27) (b := true) (by kernel_rfl) rfl]; rfl) 31 rfl (by decide) (.bool true) (by intro a' F'; have h30 := F'.at' 30 _ rfl; have hc : w9.cell? ⟨x.s, 2, none⟩ = some (.bool true) := ((HMO.st x (find_mem HX).1).box.cells 2).trans (congrArg (fun b => some (Value.bool b)) hxl); go_simp) ?_
  clear F a9
  intro a9 F
  refine fr_ch F 9 [(4, .bool false), (39, .bool false), (38, undef), (37, undef), (36, undef), (35, undef), (34, .bool false), (33, .bool false), (32, .bool false)] (by kernel_rfl) ?_
  clear F a9
  intro a9 F
  refine wpList_nil ?_
  show Code.wp _ _ _ _ _
  replace F := F.cut [(6, .pointer (some ⟨x.s, 0, none⟩)), (5, .bool false), (4, .bool false), (3, .pointer (some ⟨B, 0, none⟩)), (0, .pointer (some ⟨m, 0, none⟩))] (by kernel_rfl)
  refine wp_seq ?_
  refine wp_seq ?_
  refine wp_region_lit ?_
  refine fr_ch F 2 [(41, .bool true)] (by kernel_rfl) ?_
  clear F a9
  intro a9 F
  refine wpList_nil ?_
  show Code.wp _ _ _ _ _
  refine wp_cond_true (F.ev 41 rfl) ?_
  replace F := F.cut [(6, .pointer (some ⟨x.s, 0, none⟩)), (5, .bool false), (4, .bool false), (3, .pointer (some ⟨B, 0, none⟩)), (0, .pointer (some ⟨m, 0, none⟩))] (by kernel_rfl)
  refine wp_seq ?_
  refine wp_region_lit ?_
  refine fr_call F (wanted_free rfl) 42 rfl (by decide) 61 #[] (by intro a' F'; go_simp) (subs_New w9) ?_
  rintro e9 w8 ⟨he9, hL0, hb8⟩
  obtain ⟨g0, hg0⟩ : ∃ g0, w9.heap.size = g0 := ⟨_, rfl⟩
  have hg9 : w.heap.size ≤ g0 := hg0 ▸ HON.size
  have hgu : w0.heap.size ≤ g0 := hg0 ▸ HK.size
  have hgF : ¬ FootM m M K KM L g0 := fun h => by have h2 := HMO.foot h; omega
  rw [hg0] at he9 hL0
  subst he9
  clear hg0
  replace HK := HK.below hb8
  replace HMO := HMO.below hb8
  replace HON := HON.then hb8
  clear hb8
  clear w9
  rename World => w9
  refine ⟨_, rfl, ?_⟩
  clear F a9
  intro a9 F
  refine fr_ch F 1 [(43, .agg #[.pointer (some ⟨g0, 0, none⟩), .int .i64 0, .bool false])] (by kernel_rfl) ?_
  clear F a9
  intro a9 F
  refine fr_box F HK 44 (by decide) rfl 74 _ rfl rfl #[.pointer (some ⟨g0, 0, none⟩), .int .i64 0, .bool false] (fun a' F' => F'.ev 43 rfl) ?_
  rintro S1 a10 w10 hX F' HK' hb
  have hS9 : w.heap.size ≤ S1 := hX ▸ HON.size
  have hSg : g0 < S1 := hX ▸ hL0.blk.lt
  have hSF : ¬ FootM m M K KM L S1 := fun h => by have h2 := HMO.foot h; omega
  replace HMO := HMO.below hb
  replace HON := HON.then hb
  replace hL0 := hL0.below hb
  clear HK F hb hX
  clear a9 w9
  rename World => w9
  rename Act => a9
  have HK := HK'
  have F := F'
  clear HK' F'
  replace HK : Keep w0 [(S1, #[.pointer (some ⟨g0, 0, none⟩), .int .i64 0, .bool false], 74), (B, (ntV n a c), 35)] [] w9 := HK
  refine fr_as F (wanted_free rfl) 6 rfl (by decide) 44 rfl rfl ?_
  clear F a9
  intro a9 F
  refine wpList_nil ?_
  show Code.wp _ _ _ _ _
  replace F := F.cut [(6, .pointer (some ⟨S1, 0, none⟩)), (5, .bool false), (4, .bool false), (3, .pointer (some ⟨B, 0, none⟩)), (0, .pointer (some ⟨m, 0, none⟩))] (by kernel_rfl)
  refine wp_region_noPanic ?_
  have hb8 : Below w9.heap.size w9 w9.drew := below_draws (n := 1) rfl
  replace HK := HK.below hb8
  replace HMO := HMO.below hb8
  replace HON := HON.then hb8
  replace hL0 := hL0.below hb8
  clear hb8
  refine AnyT.begin (S := fun w' => BoxAt w' m #[.map (some M), .pointer (some ⟨K, 0, none⟩)] 66 ∧ BoxAt w' B (ntV n a c) 35) (z := 1000) (by kernel_rfl) ⟨HMO.box, HK.at 1 rfl⟩ (fun hS0 => ?_)
  clear hS0
  generalize w9.drew = w8 at *
  clear w9
  rename World => w9
  refine fr_chT F [0, 1, 2] [(47, .pointer (some ⟨m, 0, none⟩)), (46, .pointer (some ⟨m, 0, none⟩)), (45, .pointer (some ⟨m, 0, none⟩))] ⟨HMO.box, HK.at 1 rfl⟩ (by kernel_rfl) ?_
  clear F a9
  intro a9 F
  refine fr_takeG (i := 3) (o := ⟨some 48, _, _, _, _, _⟩) F ⟨HMO.box, HK.at 1 rfl⟩ rfl (wanted_free rfl) 48 rfl (by decide) (.map (some M)) (fun w9 hS => (by intro a' F'; have h47 := F'.at' 47 _ rfl; have hc : w9.cell? ⟨m, 0, none⟩ = some (.map (some M)) := hS.1.cells 0; go_simp)) ?_
  clear F a9
  intro a9 F
  refine fr_chT F [4] [(49, .pointer (some ⟨B, 3, none⟩))] ⟨HMO.box, HK.at 1 rfl⟩ (by kernel_rfl) ?_
  clear F a9
  intro a9 F
  refine fr_takeG (i := 5) (o := ⟨some 50, _, _, _, _, _⟩) F ⟨HMO.box, HK.at 1 rfl⟩ rfl (wanted_free rfl) 50 rfl (by decide) (.string n.client) (fun w9 hS => (by intro a' F'; have h49 := F'.at' 49 _ rfl; have hc : w9.cell? ⟨B, 3, none⟩ = some (.string n.client) := hS.2.cells 3; go_simp)) ?_
  clear F a9
  intro a9 F
  refine fr_chT F [6] [(51, .pointer (some ⟨S1, 0, none⟩))] ⟨HMO.box, HK.at 1 rfl⟩ (by kernel_rfl) ?_
  clear F a9
  intro a9 F
  have hSM : S1 ≠ M := fun e => hSF (e ▸ Or.inr (Or.inl rfl))
  have hgM : g0 ≠ M := fun e => hgF (e ▸ Or.inr (Or.inl rfl))
  have hBM := box_map_ne (HK.at 1 rfl) HMO.map
  obtain ⟨w7, hm7, ho7, hrun⟩ := op_update keyS Tryd.underlying62 HMO.map n.client (.pointer (some ⟨S1, 0, none⟩))
  refine fr_stepSk (i := 7) (o := ⟨none, _, _, _, _, _⟩) F rfl rfl rfl w7 (fun a' F' => hrun (Or.inl rfl) (F'.ev 48 rfl) (F'.ev 50 rfl) (F'.ev 51 rfl)) ⟨?_, ?_⟩ ?_
  · exact HMO.box.only ho7 HMO.ne.1
  · exact (HK.at 1 rfl).only ho7 hBM
  replace HON := HON.trans ho7 (fun j _ h => h ▸ Or.inr (Or.inl rfl))
  replace HK := HK.onlyOut ho7 HMO.lo.2.1 (fun x hx => by rcases List.mem_cons.1 hx with rfl | hx; exact hSM; rw [List.mem_singleton.1 hx]; exact hBM)
  replace hL0 := hL0.only ho7 hgM (fun r hr => by cases hr)
  replace HMO := HMO.put (y := ⟨n.client, S1, g0, .slice none 0 0, 0, false, []⟩) ho7 (fun j hj _ => Or.inl hj) (by rw [entM_put]; exact hm7) ⟨HK.at 0 rfl, ⟨hL0.blk, hL0.own.base hgu, hgu⟩, fine_nil, Nat.le_trans hgu (Nat.le_of_lt hSg)⟩ (fun j hj => Or.inr (by rcases hj with rfl | rfl | hj; exact hSF; exact hgF; cases hj))
  clear hrun hm7 ho7 hL0 w9
  rename World => w9
  clear F a9
  intro a9 F
  refine AnyT.done (by kernel_rfl) ?_ _
  refine NoPanic.normal ?_
  show Code.wp _ _ _ _ _
  replace F := F.cut [(6, .pointer (some ⟨S1, 0, none⟩)), (5, .bool false), (4, .bool false), (3, .pointer (some ⟨B, 0, none⟩)), (0, .pointer (some ⟨m, 0, none⟩))] (by kernel_rfl)
  have HX1 := find_put_self L ⟨n.client, S1, g0, .slice none 0 0, 0, false, []⟩
  refine wp_seq ?_
  refine wp_region_lit ?_
  refine fr_ch F 2 [(53, .pointer (some ⟨B, 2, none⟩)), (52, .pointer (some ⟨S1, 0, none⟩))] (by kernel_rfl) ?_
  clear F a9
  intro a9 F
  refine fr_do F (wanted_free rfl) 54 rfl (by decide) (.int .i64 n.conn) (by intro a' F'; have hc : w9.cell? ⟨B, 2, none⟩ = some (.int .i64 n.conn) := (HK.at 1 rfl).cells 2; have h53 := F'.at' 53 _ rfl; go_simp) ?_
  clear F a9
  intro a9 F
  refine fr_nc F (wanted_free rfl) 55 rfl (by decide) 52 rfl rfl ?_
  clear F a9
  intro a9 F
  refine fr_ch F 1 [(56, .pointer (some ⟨S1, 1, none⟩))] (by kernel_rfl) ?_
  clear F a9
  intro a9 F
  refine fr_putO F HK 0 rfl rfl rfl 3 _ _ rfl 1 (.int .i64 n.conn) (fun a' F' => F'.ev 56 rfl) (fun a' F' => F'.ev 54 rfl) z_intM (Nat.le_of_ble_eq_true (by kernel_rfl)) (by kernel_rfl) ?_
  intro a10 w10 F' HK' HO
  replace HMO := HMO.turn (y := { (⟨n.client, S1, g0, .slice none 0 0, 0, false, []⟩ : St) with conn := n.conn }) HX1 rfl rfl rfl rfl HO (HK'.at 0 rfl)
  replace HON := HON.trans HO (fun j hj h => absurd hj (by rw [h]; omega))
  clear HK F HO
  clear a9 w9
  rename World => w9
  rename Act => a9
  have HK := HK'
  have F := F'
  clear HK' F'
  replace HK : Keep w0 [(S1, (stV { (⟨n.client, S1, g0, .slice none 0 0, 0, false, []⟩ : St) with conn := n.conn }), 74), (B, (ntV n a c), 35)] [] w9 := HK
  refine wpList_nil ?_
  show Code.wp _ _ _ _ _
  replace F := F.cut [(6, .pointer (some ⟨S1, 0, none⟩)), (5, .bool false), (4, .bool false), (3, .pointer (some ⟨B, 0, none⟩)), (0, .pointer (some ⟨m, 0, none⟩))] (by kernel_rfl)
  have HX2 := find_put_self (putL L ⟨n.client, S1, g0, .slice none 0 0, 0, false, []⟩) { (⟨n.client, S1, g0, .slice none 0 0, 0, false, []⟩ : St) with conn := n.conn }
  refine wp_seq ?_
  refine wp_region_lit ?_
  refine fr_ch F 3 [(59, .pointer (some ⟨B, 12, none⟩)), (57, .pointer (some ⟨S1, 0, none⟩))] (by kernel_rfl) ?_
  clear F a9
  intro a9 F
  refine fr_do F (wanted_free rfl) 60 rfl (by decide) (.bool n.p.clean) (by intro a' F'; have hc : w9.cell? ⟨B, 12, none⟩ = some (.bool n.p.clean) := (HK.at 1 rfl).cells 12; have h59 := F'.at' 59 _ rfl; go_simp) ?_
  clear F a9
  intro a9 F
  refine fr_nc F (wanted_free rfl) 61 rfl (by decide) 57 rfl rfl ?_
  clear F a9
  intro a9 F
  refine fr_ch F 1 [(62, .pointer (some ⟨S1, 2, none⟩))] (by kernel_rfl) ?_
  clear F a9
  intro a9 F
  refine fr_putO F HK 0 rfl rfl rfl 4 _ _ rfl 2 (.bool n.p.clean) (fun a' F' => F'.ev 62 rfl) (fun a' F' => F'.ev 60 rfl) z_bool (Nat.le_of_ble_eq_true (by kernel_rfl)) (by kernel_rfl) ?_
  intro a10 w10 F' HK' HO
  replace HMO := HMO.turn (y := { (⟨n.client, S1, g0, .slice none 0 0, 0, false, []⟩ : St) with conn := n.conn, clean := n.p.clean }) HX2 rfl rfl rfl rfl HO (HK'.at 0 rfl)
  replace HON := HON.trans HO (fun j hj h => absurd hj (by rw [h]; omega))
  clear HK F HO
  clear a9 w9
  rename World => w9
  rename Act => a9
  have HK := HK'
  have F := F'
  clear HK' F'
  replace HK : Keep w0 [(S1, (stV { (⟨n.client, S1, g0, .slice none 0 0, 0, false, []⟩ : St) with conn := n.conn, clean := n.p.clean }), 74), (B, (ntV n a c), 35)] [] w9 := HK
  refine wpList_nil ?_
  show Code.wp _ _ _ _ _
  replace F := F.cut [(6, .pointer (some ⟨S1, 0, none⟩)), (5, .bool false), (4, .bool false), (3, .pointer (some ⟨B, 0, none⟩)), (0, .pointer (some ⟨m, 0, none⟩))] (by kernel_rfl)
  refine wp_seq ?_
  refine wp_region_lit ?_
  refine fr_ch F 3 [(5, .bool true), (4, .bool false)] (by kernel_rfl) ?_
  clear F a9
  intro a9 F
  refine wpList_nil ?_
  show Code.wp _ _ _ _ _
  have HA := conn_some hk hty hc (absL_some HX) hxc
  rw [if_neg (by rintro ⟨h, _⟩; exact absurd (h.symm.trans hxl) (by decide))] at HA
  have hft : ∀ k, FootS ⟨n.client, S1, g0, .slice none 0 0, 0, false, []⟩ k → w.heap.size ≤ k := fun k hk => by rcases hk with rfl | rfl | hk; exact hS9; exact hg9; cases hk
  refine wp_ret ?_
  exact fr_ret2 F rfl _ _ rfl rfl (FIN.out _ _ (putL (putL (putL L ⟨n.client, S1, g0, .slice none 0 0, 0, false, []⟩) { (⟨n.client, S1, g0, .slice none 0 0, 0, false, []⟩ : St) with conn := n.conn }) { (⟨n.client, S1, g0, .slice none 0 0, 0, false, []⟩ : St) with conn := n.conn, clean := n.p.clean }) _ (by rw [HA]) (by rw [HA]) (by rw [HA]; exact abs_put3 rfl rfl rfl) ⟨HMO, HK.sub (List.nil_sublist _) (fun r hr => hr), HON, fun k hk => (FootM.put (put_nd (put_nd HND.out)) hk).elim (fun h => (FootM.put (put_nd HND.out) h).elim (fun h => (FootM.put HND.out h).elim Or.inl (fun h => Or.inr (hft k h))) (fun h => Or.inr (hft k h))) (fun h => Or.inr (hft k h))⟩)
set_option maxRecDepth 100000 in
set_option maxHeartbeats 4000000 in
theorem connect_new2 {w0 w : World} {m M K KM : Nat} {L : List St} (n : Nt) (a : Option Addr) (c : Nat) (HK : Keep w0 [] [] w) (HMO : MoAt w w0.heap.size m M K KM L) (hk : n.kind = 2) (hty : n.p.ty = 1) {x : St} (HX : findL L n.client = some x) (hc : ¬ n.conn < 1) (hxc : ¬ 0 < x.conn) (hxl : x.clean = false) (hnl : n.p.clean = true) : Calls Tryd.prog 42 #[.pointer (some ⟨m, 0, none⟩), .agg (ntV n a c)] w fun e w' => ∃ L', e = .returned (.tuple #[.bool (applyS (absL L) n).1.2.1, .bool (applyS (absL L) n).1.2.2]) ∧ absL L' = (applyS (absL L) n).2 ∧ MOut w0 w m M K KM L L' w' := by
  obtain ⟨RR, hRR⟩ : ∃ RR : Ending → World → Prop, RR = fun e w' => ∃ L', e = .returned (.tuple #[.bool (applyS (absL L) n).1.2.1, .bool (applyS (absL L) n).1.2.2]) ∧ absL L' = (applyS (absL L) n).2 ∧ MOut w0 w m M K KM L L' w' := ⟨_, rfl⟩
  have FIN := Lib.hid (show ∀ p o' L' w', p = (applyS (absL L) n).1.2.1 → o' = (applyS (absL L) n).1.2.2 → absL L' = (applyS (absL L) n).2 → MOut w0 w m M K KM L L' w' → RR (.returned (.tuple #[.bool p, .bool o'])) w' from fun p o' L' w' h1 h2 h3 h4 => by rw [hRR, h1, h2]; exact ⟨L', rfl, h3, h4⟩)
  rw [← hRR]
  have HND := Lib.hid HMO.nd
  have HF0 := Lib.hid (fun k hk => HMO.foot (k := k) hk)
  obtain ⟨w9, hw9⟩ : ∃ w9, w9 = w := ⟨_, rfl⟩
  have HON : Only (FootM m M K KM L) w w9 := by rw [hw9]; exact Only.refl _ _
  rw [← hw9] at HK HMO
  suffices hgo : Calls Tryd.prog 42 #[.pointer (some ⟨m, 0, none⟩), .agg (ntV n a c)] w9 RR by rw [hw9] at hgo; exact hgo
  clear hw9 hRR
  go_enter Tryd.func42, Tryd.ntmps42
  refine wp_forget (n := 64) (L := [(1, .agg (ntV n a c)), (0, .pointer (some ⟨m, 0, none⟩))]) (FrL.add (FrL.add (FrL.nil ?_ ?_) _ _ ?_) _ _ ?_) ?_
  iterate 4 rfl
  intro a9 F
  refine wp_seq ?_
  refine wp_region_lit ?_
  refine fr_box F HK 3 (by decide) rfl 35 _ rfl rfl (ntV n a c) (fun a' F' => F'.ev 1 rfl) ?_
  rintro B a10 w10 hX F' HK' hb
  replace HMO := HMO.below hb
  replace HON := HON.then hb
  clear HK F hb hX
  clear a9 w9
  rename World => w9
  rename Act => a9
  have HK := HK'
  have F := F'
  clear HK' F'
  replace HK : Keep w0 [(B, (ntV n a c), 35)] [] w9 := HK
  refine fr_ch F 2 [(5, .bool false), (4, .bool false)] (by kernel_rfl) ?_
  clear F a9
  intro a9 F
  refine wpList_nil ?_
  show Code.wp _ _ _ _ _
  replace F := F.cut [(5, .bool false), (4, .bool false), (3, .pointer (some ⟨B, 0, none⟩)), (0, .pointer (some ⟨m, 0, none⟩))] (by kernel_rfl)
  refine wp_seq ?_
  refine wp_region_lit ?_
  refine fr_ch F 2 [(8, .pointer (some ⟨B, 3, none⟩)), (7, .pointer (some ⟨m, 0, none⟩))] (by kernel_rfl) ?_
  clear F a9
  intro a9 F
  refine fr_do F (wanted_free rfl) 9 rfl (by decide) (.string n.client) (by intro a' F'; have hc : w9.cell? ⟨B, 3, none⟩ = some (.string n.client) := (HK.at 0 rfl).cells 3; have h8 := F'.at' 8 _ rfl; go_simp) ?_
  clear F a9
  intro a9 F
  refine fr_call F (wanted_free rfl) 10 rfl (by decide) 43 #[.pointer (some ⟨m, 0, none⟩), .string n.client] (by intro a' F'; have h7 := F'.at' 7 _ rfl; have h9 := F'.at' 9 _ rfl; go_simp) (model_seat w9 n.client HMO) ?_
  rintro e9 w8 ⟨rfl, rfl⟩
  rw [HX]
  refine ⟨_, rfl, ?_⟩
  clear F a9
  intro a9 F
  refine fr_as F (wanted_free rfl) 6 rfl (by decide) 10 rfl rfl ?_
  clear F a9
  intro a9 F
  refine wpList_nil ?_
  show Code.wp _ _ _ _ _
  replace F := F.cut [(6, .pointer (some ⟨x.s, 0, none⟩)), (5, .bool false), (4, .bool false), (3, .pointer (some ⟨B, 0, none⟩)), (0, .pointer (some ⟨m, 0, none⟩))] (by kernel_rfl)
  refine wp_seq ?_
  refine wp_seq ?_
  refine wp_region_lit ?_
  refine fr_ch F 1 [(11, .pointer (some ⟨B, 2, none⟩))] (by kernel_rfl) ?_
  clear F a9
  intro a9 F
  refine fr_do F (wanted_free rfl) 12 rfl (by decide) (.int .i64 n.conn) (by intro a' F'; have hc : w9.cell? ⟨B, 2, none⟩ = some (.int .i64 n.conn) := (HK.at 0 rfl).cells 2; have h11 := F'.at' 11 _ rfl; go_simp) ?_
  clear F a9
  intro a9 F
  refine fr_do F (wanted_free rfl) 13 rfl (by decide) (.bool false) (by intro a' F'; have h12 := F'.at' 12 _ rfl; go_simp) ?_
  clear F a9
  intro a9 F
  refine fr_ch F 1 [(14, .bool false)] (by kernel_rfl) ?_
  clear F a9
  intro a9 F
  refine fr_mv F (by rw [wanted_at F rfl (t := 14) (b := false) (by kernel_rfl) rfl]; rfl) 15 rfl (by decide) 6 rfl rfl ?_
  clear F a9
  intro a9 F
  refine fr_ch F 2 [(17, .bool true), (16, .bool true)] (by kernel_rfl) ?_
  clear F a9
  intro a9 F
  refine fr_mv F (by rw [wanted_at F rfl (t := 17) (b := true) (by kernel_rfl) rfl]; rfl) 18 rfl (by decide) 6 rfl rfl ?_
  clear F a9
  intro a9 F
  refine fr_nc F (by rw [wanted_at F rfl (t := 17) (b := true) (by kernel_rfl) rfl]; rfl) 19 rfl (by decide) 18 rfl rfl ?_
  clear F a9
  intro a9 F
  refine fr_ch F 1 [(20, .pointer (some ⟨x.s, 1, none⟩))] (by kernel_rfl) ?_
  clear F a9
  intro a9 F
  refine fr_do F (by rw [wanted_at F rfl (t := 17) (b := true) (by kernel_rfl) rfl]; rfl) 21 rfl (by decide) (.int .i64 x.conn) (by intro a' F'; have h20 := F'.at' 20 _ rfl; have hc : w9.cell? ⟨x.s, 1, none⟩ = some (.int .i64 x.conn) := (HMO.st x (find_mem HX).1).box.cells 1; go_simp) ?_
  clear F a9
  intro a9 F
  refine fr_do F (by rw [wanted_at F rfl (t := 17) (b := true) (by kernel_rfl) rfl]; rfl) 22 rfl (by decide) (.bool false) (by intro a' F'; have h21 := F'.at' 21 _ rfl; go_simp) ?_
  clear F a9
  intro a9 F
  refine fr_ch F 2 [(24, .bool false), (23, .bool false)] (by kernel_rfl) ?_
  clear F a9
  intro a9 F
  refine wpList_nil ?_
  show Code.wp _ _ _ _ _
  refine wp_cond_false (F.ev 24 rfl) ?_
  refine wp_skip ?_
  show Code.wp _ _ _ _ _
  replace F := F.cut [(6, .pointer (some ⟨x.s, 0, none⟩)), (5, .bool false), (4, .bool false), (3, .pointer (some ⟨B, 0, none⟩)), (0, .pointer (some ⟨m, 0, none⟩))] (by kernel_rfl)
  refine wp_seq ?_
  refine wp_region_lit ?_
  refine fr_ch F 6 [(30, .pointer (some ⟨x.s, 2, none⟩)), (27, .bool true)] (by kernel_rfl) ?_
  clear F a9
  intro a9 F
  refine fr_do F (by rw [wanted_at F rfl (t := 27) (b := true) (by kernel_rfl) rfl]; rfl) 31 rfl (by decide) (.bool false) (by intro a' F'; have h30 := F'.at' 30 _ rfl; have hc : w9.cell? ⟨x.s, 2, none⟩ = some (.bool false) := ((HMO.st x (find_mem HX).1).box.cells 2).trans (congrArg (fun b => some (Value.bool b)) hxl); go_simp) ?_
  clear F a9
  intro a9 F
  refine fr_ch F 5 [(36, .pointer (some ⟨B, 12, none⟩)), (35, .pointer (some ⟨B, 4, none⟩)), (34, .bool true), (33, .bool true), (32, .bool true)] (by kernel_rfl) ?_
  clear F a9
  intro a9 F
  refine fr_do F (by rw [wanted_at F rfl (t := 34) (b := true) (by kernel_rfl) rfl]; rfl) 37 rfl (by decide) (.bool true) (by intro a' F'; have h36 := F'.at' 36 _ rfl; have hc : w9.cell? ⟨B, 12, none⟩ = some (.bool true) := ((HK.at 0 rfl).cells 12).trans (congrArg (fun b => some (Value.bool b)) hnl); go_simp) ?_
  clear F a9
  intro a9 F
  refine fr_ch F 3 [(4, .bool false), (39, .bool false), (38, .bool false)] (by kernel_rfl) ?_
  clear F a9
  intro a9 F
  refine wpList_nil ?_
  show Code.wp _ _ _ _ _
  replace F := F.cut [(6, .pointer (some ⟨x.s, 0, none⟩)), (5, .bool false), (4, .bool false), (3, .pointer (some ⟨B, 0, none⟩)), (0, .pointer (some ⟨m, 0, none⟩))] (by kernel_rfl)
  refine wp_seq ?_
  refine wp_seq ?_
  refine wp_region_lit ?_
  refine fr_ch F 2 [(41, .bool true)] (by kernel_rfl) ?_
  clear F a9
  intro a9 F
  refine wpList_nil ?_
  show Code.wp _ _ _ _ _
  refine wp_cond_true (F.ev 41 rfl) ?_
  replace F := F.cut [(6, .pointer (some ⟨x.s, 0, none⟩)), (5, .bool false), (4, .bool false), (3, .pointer (some ⟨B, 0, none⟩)), (0, .pointer (some ⟨m, 0, none⟩))] (by kernel_rfl)
  refine wp_seq ?_
  refine wp_region_lit ?_
  refine fr_call F (wanted_free rfl) 42 rfl (by decide) 61 #[] (by intro a' F'; go_simp) (subs_New w9) ?_
  rintro e9 w8 ⟨he9, hL0, hb8⟩
  obtain ⟨g0, hg0⟩ : ∃ g0, w9.heap.size = g0 := ⟨_, rfl⟩
  have hg9 : w.heap.size ≤ g0 := hg0 ▸ HON.size
  have hgu : w0.heap.size ≤ g0 := hg0 ▸ HK.size
  have hgF : ¬ FootM m M K KM L g0 := fun h => by have h2 := HMO.foot h; omega
  rw [hg0] at he9 hL0
  subst he9
  clear hg0
  replace HK := HK.below hb8
  replace HMO := HMO.below hb8
  replace HON := HON.then hb8
  clear hb8
  clear w9
  rename World => w9
  refine ⟨_, rfl, ?_⟩
  clear F a9
  intro a9 F
  refine fr_ch F 1 [(43, .agg #[.pointer (some ⟨g0, 0, none⟩), .int .i64 0, .bool false])] (by kernel_rfl) ?_
  clear F a9
  intro a9 F
  refine fr_box F HK 44 (by decide) rfl 74 _ rfl rfl #[.pointer (some ⟨g0, 0, none⟩), .int .i64 0, .bool false] (fun a' F' => F'.ev 43 rfl) ?_
  rintro S1 a10 w10 hX F' HK' hb
  have hS9 : w.heap.size ≤ S1 := hX ▸ HON.size
  have hSg : g0 < S1 := hX ▸ hL0.blk.lt
  have hSF : ¬ FootM m M K KM L S1 := fun h => by have h2 := HMO.foot h; omega
  replace HMO := HMO.below hb
  replace HON := HON.then hb
  replace hL0 := hL0.below hb
  clear HK F hb hX
  clear a9 w9
  rename World => w9
  rename Act => a9
  have HK := HK'
  have F := F'
  clear HK' F'
  replace HK : Keep w0 [(S1, #[.pointer (some ⟨g0, 0, none⟩), .int .i64 0, .bool false], 74), (B, (ntV n a c), 35)] [] w9 := HK
  refine fr_as F (wanted_free rfl) 6 rfl (by decide) 44 rfl rfl ?_
  clear F a9
  intro a9 F
  refine wpList_nil ?_
  show Code.wp _ _ _ _ _
  replace F := F.cut [(6, .pointer (some ⟨S1, 0, none⟩)), (5, .bool false), (4, .bool false), (3, .pointer (some ⟨B, 0, none⟩)), (0, .pointer (some ⟨m, 0, none⟩))] (by kernel_rfl)
  refine wp_region_noPanic ?_
  have hb8 : Below w9.heap.size w9 w9.drew := below_draws (n := 1) rfl
  replace HK := HK.below hb8
  replace HMO := HMO.below hb8
  replace HON := HON.then hb8
  replace hL0 := hL0.below hb8
  clear hb8
  refine AnyT.begin (S := fun w' => BoxAt w' m #[.map (some M), .pointer (some ⟨K, 0, none⟩)] 66 ∧ BoxAt w' B (ntV n a c) 35) (z := 1000) (by kernel_rfl) ⟨HMO.box, HK.at 1 rfl⟩ (fun hS0 => ?_)
  clear hS0
  generalize w9.drew = w8 at *
  clear w9
  rename World => w9
  refine fr_chT F [0, 1, 2] [(47, .pointer (some ⟨m, 0, none⟩)), (46, .pointer (some ⟨m, 0, none⟩)), (45, .pointer (some ⟨m, 0, none⟩))] ⟨HMO.box, HK.at 1 rfl⟩ (by kernel_rfl) ?_
  clear F a9
  intro a9 F
  refine fr_takeG (i := 3) (o := ⟨some 48, _, _, _, _, _⟩) F ⟨HMO.box, HK.at 1 rfl⟩ rfl (wanted_free rfl) 48 rfl (by decide) (.map (some M)) (fun w9 hS => (by intro a' F'; have h47 := F'.at' 47 _ rfl; have hc : w9.cell? ⟨m, 0, none⟩ = some (.map (some M)) := hS.1.cells 0; go_simp)) ?_
  clear F a9
  intro a9 F
  refine fr_chT F [4] [(49, .pointer (some ⟨B, 3, none⟩))] ⟨HMO.box, HK.at 1 rfl⟩ (by kernel_rfl) ?_
  clear F a9
  intro a9 F
  refine fr_takeG (i := 5) (o := ⟨some 50, _, _, _, _, _⟩) F ⟨HMO.box, HK.at 1 rfl⟩ rfl (wanted_free rfl) 50 rfl (by decide) (.string n.client) (fun w9 hS => (by intro a' F'; have h49 := F'.at' 49 _ rfl; have hc : w9.cell? ⟨B, 3, none⟩ = some (.string n.client) := hS.2.cells 3; go_simp)) ?_
  clear F a9
  intro a9 F
  refine fr_chT F [6] [(51, .pointer (some ⟨S1, 0, none⟩))] ⟨HMO.box, HK.at 1 rfl⟩ (by kernel_rfl) ?_
  clear F a9
  intro a9 F
  have hSM : S1 ≠ M := fun e => hSF (e ▸ Or.inr (Or.inl rfl))
  have hgM : g0 ≠ M := fun e => hgF (e ▸ Or.inr (Or.inl rfl))
  have hBM := box_map_ne (HK.at 1 rfl) HMO.map
  obtain ⟨w7, hm7, ho7, hrun⟩ := op_update keyS Tryd.underlying62 HMO.map n.client (.pointer (some ⟨S1, 0, none⟩))
  refine fr_stepSk (i := 7) (o := ⟨none, _, _, _, _, _⟩) F rfl rfl rfl w7 (fun a' F' => hrun (Or.inl rfl) (F'.ev 48 rfl) (F'.ev 50 rfl) (F'.ev 51 rfl)) ⟨?_, ?_⟩ ?_
  · exact HMO.box.only ho7 HMO.ne.1
  · exact (HK.at 1 rfl).only ho7 hBM
  replace HON := HON.trans ho7 (fun j _ h => h ▸ Or.inr (Or.inl rfl))
  replace HK := HK.onlyOut ho7 HMO.lo.2.1 (fun x hx => by rcases List.mem_cons.1 hx with rfl | hx; exact hSM; rw [List.mem_singleton.1 hx]; exact hBM)
  replace hL0 := hL0.only ho7 hgM (fun r hr => by cases hr)
  replace HMO := HMO.put (y := ⟨n.client, S1, g0, .slice none 0 0, 0, false, []⟩) ho7 (fun j hj _ => Or.inl hj) (by rw [entM_put]; exact hm7) ⟨HK.at 0 rfl, ⟨hL0.blk, hL0.own.base hgu, hgu⟩, fine_nil, Nat.le_trans hgu (Nat.le_of_lt hSg)⟩ (fun j hj => Or.inr (by rcases hj with rfl | rfl | hj; exact hSF; exact hgF; cases hj))
  clear hrun hm7 ho7 hL0 w9
  rename World => w9
  clear F a9
  intro a9 F
  refine AnyT.done (by kernel_rfl) ?_ _
  refine NoPanic.normal ?_
  show Code.wp _ _ _ _ _
  replace F := F.cut [(6, .pointer (some ⟨S1, 0, none⟩)), (5, .bool false), (4, .bool false), (3, .pointer (some ⟨B, 0, none⟩)), (0, .pointer (some ⟨m, 0, none⟩))] (by kernel_rfl)
  have HX1 := find_put_self L ⟨n.client, S1, g0, .slice none 0 0, 0, false, []⟩
  refine wp_seq ?_
  refine wp_region_lit ?_
  refine fr_ch F 2 [(53, .pointer (some ⟨B, 2, none⟩)), (52, .pointer (some ⟨S1, 0, none⟩))] (by kernel_rfl) ?_
  clear F a9
  intro a9 F
  refine fr_do F (wanted_free rfl) 54 rfl (by decide) (.int .i64 n.conn) (by intro a' F'; have hc : w9.cell? ⟨B, 2, none⟩ = some (.int .i64 n.conn) := (HK.at 1 rfl).cells 2; have h53 := F'.at' 53 _ rfl; go_simp) ?_
  clear F a9
  intro a9 F
  refine fr_nc F (wanted_free rfl) 55 rfl (by decide) 52 rfl rfl ?_
  clear F a9
  intro a9 F
  refine fr_ch F 1 [(56, .pointer (some ⟨S1, 1, none⟩))] (by kernel_rfl) ?_
  clear F a9
  intro a9 F
  refine fr_putO F HK 0 rfl rfl rfl 3 _ _ rfl 1 (.int .i64 n.conn) (fun a' F' => F'.ev 56 rfl) (fun a' F' => F'.ev 54 rfl) z_intM (Nat.le_of_ble_eq_true (by kernel_rfl)) (by kernel_rfl) ?_
  intro a10 w10 F' HK' HO
  replace HMO := HMO.turn (y := { (⟨n.client, S1, g0, .slice none 0 0, 0, false, []⟩ : St) with conn := n.conn }) HX1 rfl rfl rfl rfl HO (HK'.at 0 rfl)
  replace HON := HON.trans HO (fun j hj h => absurd hj (by rw [h]; omega))
  clear HK F HO
  clear a9 w9
  rename World => w9
  rename Act => a9
  have HK := HK'
  have F := F'
  clear HK' F'
  replace HK : Keep w0 [(S1, (stV { (⟨n.client, S1, g0, .slice none 0 0, 0, false, []⟩ : St) with conn := n.conn }), 74), (B, (ntV n a c), 35)] [] w9 := HK
  refine wpList_nil ?_
  show Code.wp _ _ _ _ _
  replace F := F.cut [(6, .pointer (some ⟨S1, 0, none⟩)), (5, .bool false), (4, .bool false), (3, .pointer (some ⟨B, 0, none⟩)), (0, .pointer (some ⟨m, 0, none⟩))] (by kernel_rfl)
  have HX2 := find_put_self (putL L ⟨n.client, S1, g0, .slice none 0 0, 0, false, []⟩) { (⟨n.client, S1, g0, .slice none 0 0, 0, false, []⟩ : St) with conn := n.conn }
  refine wp_seq ?_
  refine wp_region_lit ?_
  refine fr_ch F 3 [(59, .pointer (some ⟨B, 12, none⟩)), (57, .pointer (some ⟨S1, 0, none⟩))] (by kernel_rfl) ?_
  clear F a9
  intro a9 F
  refine fr_do F (wanted_free rfl) 60 rfl (by decide) (.bool n.p.clean) (by intro a' F'; have hc : w9.cell? ⟨B, 12, none⟩ = some (.bool n.p.clean) := (HK.at 1 rfl).cells 12; have h59 := F'.at' 59 _ rfl; go_simp) ?_
  clear F a9
  intro a9 F
  refine fr_nc F (wanted_free rfl) 61 rfl (by decide) 57 rfl rfl ?_
  clear F a9
  intro a9 F
  refine fr_ch F 1 [(62, .pointer (some ⟨S1, 2, none⟩))] (by kernel_rfl) ?_
  clear F a9
  intro a9 F
  refine fr_putO F HK 0 rfl rfl rfl 4 _ _ rfl 2 (.bool n.p.clean) (fun a' F' => F'.ev 62 rfl) (fun a' F' => F'.ev 60 rfl) z_bool (Nat.le_of_ble_eq_true (by kernel_rfl)) (by kernel_rfl) ?_
  intro a10 w10 F' HK' HO
  replace HMO := HMO.turn (y := { (⟨n.client, S1, g0, .slice none 0 0, 0, false, []⟩ : St) with conn := n.conn, clean := n.p.clean }) HX2 rfl rfl rfl rfl HO (HK'.at 0 rfl)
  replace HON := HON.trans HO (fun j hj h => absurd hj (by rw [h]; omega))
  clear HK F HO
  clear a9 w9
  rename World => w9
  rename Act => a9
  have HK := HK'
  have F := F'
  clear HK' F'
  replace HK : Keep w0 [(S1, (stV { (⟨n.client, S1, g0, .slice none 0 0, 0, false, []⟩ : St) with conn := n.conn, clean := n.p.clean }), 74), (B, (ntV n a c), 35)] [] w9 := HK
  refine wpList_nil ?_
  show Code.wp _ _ _ _ _
  replace F := F.cut [(6, .pointer (some ⟨S1, 0, none⟩)), (5, .bool false), (4, .bool false), (3, .pointer (some ⟨B, 0, none⟩)), (0, .pointer (some ⟨m, 0, none⟩))] (by kernel_rfl)
  refine wp_seq ?_
  refine wp_region_lit ?_
  refine fr_ch F 3 [(5, .bool true), (4, .bool false)] (by kernel_rfl) ?_
  clear F a9
  intro a9 F
  refine wpList_nil ?_
  show Code.wp _ _ _ _ _
  have HA := conn_some hk hty hc (absL_some HX) hxc
  rw [if_neg (by rintro ⟨_, h⟩; exact absurd (h.symm.trans hnl) (by decide))] at HA
  have hft : ∀ k, FootS ⟨n.client, S1, g0, .slice none 0 0, 0, false, []⟩ k → w.heap.size ≤ k := fun k hk => by rcases hk with rfl | rfl | hk; exact hS9; exact hg9; cases hk
  refine wp_ret ?_
  exact fr_ret2 F rfl _ _ rfl rfl (FIN.out _ _ (putL (putL (putL L ⟨n.client, S1, g0, .slice none 0 0, 0, false, []⟩) { (⟨n.client, S1, g0, .slice none 0 0, 0, false, []⟩ : St) with conn := n.conn }) { (⟨n.client, S1, g0, .slice none 0 0, 0, false, []⟩ : St) with conn := n.conn, clean := n.p.clean }) _ (by rw [HA]) (by rw [HA]) (by rw [HA]; exact abs_put3 rfl rfl rfl) ⟨HMO, HK.sub (List.nil_sublist _) (fun r hr => hr), HON, fun k hk => (FootM.put (put_nd (put_nd HND.out)) hk).elim (fun h => (FootM.put (put_nd HND.out) h).elim (fun h => (FootM.put HND.out h).elim Or.inl (fun h => Or.inr (hft k h))) (fun h => Or.inr (hft k h))) (fun h => Or.inr (hft k h))⟩)
theorem model_connect {w0 w : World} {m M K KM : Nat} {L : List St} (n : Nt) (a : Option Addr) (c : Nat) (HK : Keep w0 [] [] w) (HMO : MoAt w w0.heap.size m M K KM L) (hk : n.kind = 2) (hty : n.p.ty = 1) : Calls Tryd.prog 42 #[.pointer (some ⟨m, 0, none⟩), .agg (ntV n a c)] w fun e w' => ∃ L', e = .returned (.tuple #[.bool (applyS (absL L) n).1.2.1, .bool (applyS (absL L) n).1.2.2]) ∧ absL L' = (applyS (absL L) n).2 ∧ MOut w0 w m M K KM L L' w' := by
  by_cases hc : n.conn < 1
  · cases HX : findL L n.client with
    | none => exact connect_low0 n a c HK HMO hk hty HX hc
    | some x => exact connect_low1 n a c HK HMO hk hty HX hc
  · cases HX : findL L n.client with
    | none => exact connect_new0 n a c HK HMO hk hty HX hc
    | some x =>
      by_cases hxc : 0 < x.conn
      · exact connect_taken n a c HK HMO hk hty HX hc hxc
      · cases hxl : x.clean with
        | true => exact connect_new1 n a c HK HMO hk hty HX hc hxc hxl
        | false =>
          cases hnl : n.p.clean with
          | true => exact connect_new2 n a c HK HMO hk hty HX hc hxc hxl hnl
          | false => exact connect_back n a c HK HMO hk hty HX hc hxc hxl hnl
end Go.Proofs.YtmppkgonkkffhaaDoor

/- The walk of the model's Apply, all but its loops and a session's end. Conditions: the model lies behind its pointer; the decoder's tables lie as Go lays them; a machine's bound on a topic's size. -/
namespace Go.Proofs.YtmppkgonkkffhaaDoor
open Go.RowKit
section
variable {P : Program} {o : Oper} {ops : Array Oper} {n : Nat} {L : List (Nat × Value)} {a : Act} {w : World}
theorem fr_ret3t {fn : Func} {R' : Ending → World → Prop} (F : FrL n L a) {s u t : Nat} (h : fn.results = #[.tmp s, .tmp u, .tmp t]) (x y z : Value) (hx : L.lookup s = some x) (hy : L.lookup u = some y) (hz : L.lookup t = some z) (hR : R' (.returned (.tuple #[x, y, z])) w) : bodyPost P fn R' .ret a w := by
  refine bodyPost_ret ?_ F.defers hR
  have hx' : a.tmps[s]? = some x := F.at' s _ hx
  have hy' : a.tmps[u]? = some y := F.at' u _ hy
  have hz' : a.tmps[t]? = some z := F.at' t _ hz
  simp [results, h, hx', hy', hz']
end
theorem op_map_nil {ρ : Operand → Value} {o : Oper} {x y : Operand} {M : Nat} {w : World} (ho : o.op = .binOp .eql 62 x y 62) (hx : ρ x = .map (some M)) (hy : ρ y = .map none) : (execOp ρ o).run Tryd.prog w = .ok (.value (.bool false)) w := by
  have h : (binOp .eql 62 (.map (some M)) (.map none)).run Tryd.prog w = .ok (.bool false) w := by kernel_rfl
  have h2 : (eqGuard .eql 62 x y (.map (some M)) (.map none)).run Tryd.prog w = .ok () w := by first | kernel_rfl | (go_simp; done) | (cases x <;> cases y <;> kernel_rfl)
  unfold execOp
  simp only [ho, hx, hy, Sem.run_bind, h, h2, Result.andThen_ok, Sem.run_pure]
theorem MoAt.kept {w w' : World} {B m M K KM : Nat} {L : List St} {es : List (ByteArray × Value)} (h : MoAt w B m M K KM L) (k : Only (fun j => j = KM) w w') (hm : MapAt w' KM Value.string es) : MoAt w' B m M K KM L := by
  obtain ⟨h1, h2, h3, h4, h5, h6⟩ := h.ne
  exact ⟨h.box.only k h3, h.map.only k h5, h.kbox.only k h6, ⟨es, hm⟩, fun x hx => (h.st x hx).only k (fun j hj e => (h.far x hx j hj).2.2.2 e), h.nd, h.apart, h.far, h.lo, h.ne⟩
theorem box_rangeM {w : World} {X : Nat} {cs : Array Value} {T : TypeId} (h : BoxAt w X cs T) (o : Nat) (ds : List Value) (hd : ∀ j v, ds[j]? = some v → cs[o + j]? = some v) : w.rangeAt X o ds := fun j v hv => by rw [h.cells]; exact hd j v hv
theorem nt_msg {w : World} {X : Nat} {n : Nt} {a : Option Addr} {c : Nat} {T : TypeId} (h : BoxAt w X (ntV n a c) T) : w.rangeAt X 28 (msV n.msg).toList := box_rangeM h 28 _ (fun j v hv => by
  match j, hv with
  | 0, hv => exact hv
  | 1, hv => exact hv
  | 2, hv => exact hv
  | 3, hv => exact hv
  | k + 4, hv => simp [msV] at hv)
set_option maxRecDepth 100000 in
set_option maxHeartbeats 4000000 in
theorem apply_keeps {w0 w : World} {m M K KM : Nat} {L : List St} (n : Nt) (a : Option Addr) (c : Nat) (HK : Keep w0 [] [] w) (HMO : MoAt w w0.heap.size m M K KM L) (hk : n.kind = 5) (hq : n.msg.qos < 256) (ht : n.msg.topic.size < 4294967281) : Calls Tryd.prog 21 #[.pointer (some ⟨m, 0, none⟩), .agg (ntV n a c)] w fun e w' => ∃ L', e = .returned (.tuple #[.string (applyS (absL L) n).1.1, .bool (applyS (absL L) n).1.2.1, .bool (applyS (absL L) n).1.2.2]) ∧ absL L' = (applyS (absL L) n).2 ∧ MOut w0 w m M K KM L L' w' := by
  obtain ⟨RR, hRR⟩ : ∃ RR : Ending → World → Prop, RR = fun e w' => ∃ L', e = .returned (.tuple #[.string (applyS (absL L) n).1.1, .bool (applyS (absL L) n).1.2.1, .bool (applyS (absL L) n).1.2.2]) ∧ absL L' = (applyS (absL L) n).2 ∧ MOut w0 w m M K KM L L' w' := ⟨_, rfl⟩
  have FIN := Lib.hid (show ∀ s p o' L' w', s = (applyS (absL L) n).1.1 → p = (applyS (absL L) n).1.2.1 → o' = (applyS (absL L) n).1.2.2 → absL L' = (applyS (absL L) n).2 → MOut w0 w m M K KM L L' w' → RR (.returned (.tuple #[.string s, .bool p, .bool o'])) w' from fun s p o' L' w' h0 h1 h2 h3 h4 => by rw [hRR, h0, h1, h2]; exact ⟨L', rfl, h3, h4⟩)
  rw [← hRR]
  have HND := Lib.hid HMO.nd
  have HF0 := Lib.hid (fun k hk => HMO.foot (k := k) hk)
  obtain ⟨w9, hw9⟩ : ∃ w9, w9 = w := ⟨_, rfl⟩
  have HON : Only (FootM m M K KM L) w w9 := by rw [hw9]; exact Only.refl _ _
  rw [← hw9] at HK HMO
  suffices hgo : Calls Tryd.prog 21 #[.pointer (some ⟨m, 0, none⟩), .agg (ntV n a c)] w9 RR by rw [hw9] at hgo; exact hgo
  clear hw9 hRR
  go_enter Tryd.func21, Tryd.ntmps21
  refine wp_forget (n := 137) (L := [(1, .agg (ntV n a c)), (0, .pointer (some ⟨m, 0, none⟩))]) (FrL.add (FrL.add (FrL.nil ?_ ?_) _ _ ?_) _ _ ?_) ?_
  iterate 4 rfl
  intro a9 F
  refine wp_seq ?_
  refine wp_region_lit ?_
  refine fr_box F HK 3 (by decide) rfl 35 _ rfl rfl (ntV n a c) (fun a' F' => F'.ev 1 rfl) ?_
  rintro B a10 w10 hX F' HK' hb
  replace HMO := HMO.below hb
  replace HON := HON.then hb
  clear HK F hb hX
  clear a9 w9
  rename World => w9
  rename Act => a9
  have HK := HK'
  have F := F'
  clear HK' F'
  replace HK : Keep w0 [(B, (ntV n a c), 35)] [] w9 := HK
  refine fr_ch F 3 [(6, .bool false), (5, .bool false), (4, .string ⟨#[]⟩)] (by kernel_rfl) ?_
  clear F a9
  intro a9 F
  refine wpList_nil ?_
  show Code.wp _ _ _ _ _
  replace F := F.cut [(6, .bool false), (5, .bool false), (4, .string ⟨#[]⟩), (3, .pointer (some ⟨B, 0, none⟩)), (0, .pointer (some ⟨m, 0, none⟩))] (by kernel_rfl)
  refine wp_seq ?_
  refine wp_seq ?_
  refine wp_region_lit ?_
  refine fr_ch F 6 [(18, .pointer (some ⟨m, 0, none⟩)), (15, .bool false)] (by kernel_rfl) ?_
  clear F a9
  intro a9 F
  refine fr_do F (by rw [wanted_at F rfl (t := 15) (b := false) (by kernel_rfl) rfl]; rfl) 19 rfl (by decide) (.map (some M)) (by intro a' F'; have h18 := F'.at' 18 _ rfl; have hc : w9.cell? ⟨m, 0, none⟩ = some (.map (some M)) := HMO.box.cells 0; go_simp) ?_
  clear F a9
  intro a9 F
  refine fr_do F (by rw [wanted_at F rfl (t := 15) (b := false) (by kernel_rfl) rfl]; rfl) 20 rfl (by decide) (.bool false) (fun a' F' => op_map_nil rfl (F'.ev 19 rfl) rfl) ?_
  clear F a9
  intro a9 F
  refine fr_ch F 1 [(21, .bool false)] (by kernel_rfl) ?_
  clear F a9
  intro a9 F
  refine wpList_nil ?_
  show Code.wp _ _ _ _ _
  refine wp_cond_false (F.ev 21 rfl) ?_
  refine wp_skip ?_
  show Code.wp _ _ _ _ _
  replace F := F.cut [(6, .bool false), (5, .bool false), (4, .string ⟨#[]⟩), (3, .pointer (some ⟨B, 0, none⟩)), (0, .pointer (some ⟨m, 0, none⟩))] (by kernel_rfl)
  refine wp_seq ?_
  refine wp_block ?_
  refine wp_seq ?_
  refine wp_region_lit ?_
  refine fr_ch F 1 [(23, .pointer (some ⟨B, 0, none⟩))] (by kernel_rfl) ?_
  clear F a9
  intro a9 F
  refine fr_do F (wanted_free rfl) 24 rfl (by decide) (.int .u8 (n.kind : Int)) (by intro a' F'; have hc : w9.cell? ⟨B, 0, none⟩ = some (.int .u8 (n.kind : Int)) := (HK.at 0 rfl).cells 0; have h23 := F'.at' 23 _ rfl; go_simp) ?_
  clear F a9
  intro a9 F
  refine fr_do F (wanted_free rfl) 25 rfl (by decide) (.bool true) (by intro a' F'; have h24 := F'.at' 24 _ rfl; go_simp) ?_
  clear F a9
  intro a9 F
  refine fr_ch F 1 [(22, .bool true)] (by kernel_rfl) ?_
  clear F a9
  intro a9 F
  refine wpList_nil ?_
  show Code.wp _ _ _ _ _
  refine wp_cond_true (F.ev 22 rfl) ?_
  replace F := F.cut [(6, .bool false), (5, .bool false), (4, .string ⟨#[]⟩), (3, .pointer (some ⟨B, 0, none⟩)), (0, .pointer (some ⟨m, 0, none⟩))] (by kernel_rfl)
  obtain ⟨es, hes⟩ := HMO.kmap
  refine wp_seq ?_
  refine wp_region_noPanic ?_
  have hb8 : Below w9.heap.size w9 w9.drew := below_draws (n := 1) rfl
  replace HK := HK.below hb8
  replace HMO := HMO.below hb8
  replace HON := HON.then hb8
  replace hes := hes.below hb8
  clear hb8
  refine AnyT.begin (S := fun w' => BoxAt w' m #[.map (some M), .pointer (some ⟨K, 0, none⟩)] 66 ∧ BoxAt w' B (ntV n a c) 35) (z := 1000) (by kernel_rfl) ⟨HMO.box, HK.at 0 rfl⟩ (fun hS0 => ?_)
  clear hS0
  generalize w9.drew = w8 at *
  clear w9
  rename World => w9
  refine fr_chT F [0, 1, 2] [(28, .pointer (some ⟨m, 1, none⟩)), (27, .pointer (some ⟨m, 0, none⟩)), (26, .pointer (some ⟨m, 0, none⟩))] ⟨HMO.box, HK.at 0 rfl⟩ (by kernel_rfl) ?_
  clear F a9
  intro a9 F
  refine fr_takeG (i := 3) (o := ⟨some 29, _, _, _, _, _⟩) F ⟨HMO.box, HK.at 0 rfl⟩ rfl (wanted_free rfl) 29 rfl (by decide) (.pointer (some ⟨K, 0, none⟩)) (fun w9 hS => (by intro a' F'; have h28 := F'.at' 28 _ rfl; have hc : w9.cell? ⟨m, 1, none⟩ = some (.pointer (some ⟨K, 0, none⟩)) := hS.1.cells 1; go_simp)) ?_
  clear F a9
  intro a9 F
  refine fr_chT F [4] [(30, .pointer (some ⟨B, 28, none⟩))] ⟨HMO.box, HK.at 0 rfl⟩ (by kernel_rfl) ?_
  clear F a9
  intro a9 F
  refine fr_takeG (i := 5) (o := ⟨some 31, _, _, _, _, _⟩) F ⟨HMO.box, HK.at 0 rfl⟩ rfl (wanted_free rfl) 31 rfl (by decide) (.agg (msV n.msg)) (fun w9 hS => (fun a' F' => run_load_midF 30 _ rfl B 28 (F'.ev 30 rfl) (msV n.msg).toList _ (nt_msg hS.2) Tryd.underlying30 rfl infoMs)) ?_
  clear F a9
  intro a9 F
  refine fr_stepC (i := 6) (o := ⟨some 32, _, _, _, _, _⟩) F rfl (wanted_free rfl) 32 rfl (by decide) 41 #[.pointer (some ⟨K, 0, none⟩), .agg (msV n.msg)] (by intro a' F'; have h29 := F'.at' 29 _ rfl; have h31 := F'.at' 31 _ rfl; go_simp) (keep_Set K KM es n.msg w9 HK.env HMO.kbox hes HMO.ne.2.2.2.2.2 hq ht) ?_
  rintro e9 w8 ⟨rfl, ⟨es', hm'⟩, ho⟩
  have hBK := box_map_ne (HK.at 0 rfl) hes
  replace HK := HK.onlyOut ho HMO.lo.2.2.2 (fun x hx => by rw [List.mem_singleton.1 hx]; exact hBK)
  replace HMO := HMO.kept ho hm'
  replace HON := HON.trans ho (fun j _ h => h ▸ Or.inr (Or.inr (Or.inr (Or.inl rfl))))
  clear ho hm' hes hBK
  clear w9
  rename World => w9
  refine ⟨_, rfl, ⟨HMO.box, HK.at 0 rfl⟩, ?_⟩
  clear F a9
  intro a9 F
  refine fr_chT F [7, 8, 9] [(6, .bool (mayM n.msg)), (5, .bool false), (4, .string ⟨#[]⟩)] ⟨HMO.box, HK.at 0 rfl⟩ (by kernel_rfl) ?_
  clear F a9
  intro a9 F
  refine AnyT.done (by kernel_rfl) ?_ _
  refine NoPanic.normal ?_
  show Code.wp _ _ _ _ _
  have HA : applyS (absL L) n = ((e0, false, mayM n.msg), absL L) := by unfold applyS; rw [if_pos hk]
  refine wp_ret ?_
  exact fr_ret3t F rfl _ _ _ rfl rfl rfl (FIN.out _ _ _ L _ (by rw [HA]; rfl) (by rw [HA]) (by rw [HA]) (by rw [HA]) ⟨HMO, HK.sub (List.nil_sublist _) (fun r hr => hr), HON, fun k hk => Or.inl hk⟩)
set_option maxRecDepth 100000 in
set_option maxHeartbeats 4000000 in
theorem apply_other {w0 w : World} {m M K KM : Nat} {L : List St} (n : Nt) (a : Option Addr) (c : Nat) (HK : Keep w0 [] [] w) (HMO : MoAt w w0.heap.size m M K KM L) (hk : ¬ n.kind = 5) (hk2 : n.kind ≠ 2) : Calls Tryd.prog 21 #[.pointer (some ⟨m, 0, none⟩), .agg (ntV n a c)] w fun e w' => ∃ L', e = .returned (.tuple #[.string (applyS (absL L) n).1.1, .bool (applyS (absL L) n).1.2.1, .bool (applyS (absL L) n).1.2.2]) ∧ absL L' = (applyS (absL L) n).2 ∧ MOut w0 w m M K KM L L' w' := by
  obtain ⟨RR, hRR⟩ : ∃ RR : Ending → World → Prop, RR = fun e w' => ∃ L', e = .returned (.tuple #[.string (applyS (absL L) n).1.1, .bool (applyS (absL L) n).1.2.1, .bool (applyS (absL L) n).1.2.2]) ∧ absL L' = (applyS (absL L) n).2 ∧ MOut w0 w m M K KM L L' w' := ⟨_, rfl⟩
  have FIN := Lib.hid (show ∀ s p o' L' w', s = (applyS (absL L) n).1.1 → p = (applyS (absL L) n).1.2.1 → o' = (applyS (absL L) n).1.2.2 → absL L' = (applyS (absL L) n).2 → MOut w0 w m M K KM L L' w' → RR (.returned (.tuple #[.string s, .bool p, .bool o'])) w' from fun s p o' L' w' h0 h1 h2 h3 h4 => by rw [hRR, h0, h1, h2]; exact ⟨L', rfl, h3, h4⟩)
  rw [← hRR]
  have HND := Lib.hid HMO.nd
  have HF0 := Lib.hid (fun k hk => HMO.foot (k := k) hk)
  obtain ⟨w9, hw9⟩ : ∃ w9, w9 = w := ⟨_, rfl⟩
  have HON : Only (FootM m M K KM L) w w9 := by rw [hw9]; exact Only.refl _ _
  rw [← hw9] at HK HMO
  suffices hgo : Calls Tryd.prog 21 #[.pointer (some ⟨m, 0, none⟩), .agg (ntV n a c)] w9 RR by rw [hw9] at hgo; exact hgo
  clear hw9 hRR
  go_enter Tryd.func21, Tryd.ntmps21
  refine wp_forget (n := 137) (L := [(1, .agg (ntV n a c)), (0, .pointer (some ⟨m, 0, none⟩))]) (FrL.add (FrL.add (FrL.nil ?_ ?_) _ _ ?_) _ _ ?_) ?_
  iterate 4 rfl
  intro a9 F
  refine wp_seq ?_
  refine wp_region_lit ?_
  refine fr_box F HK 3 (by decide) rfl 35 _ rfl rfl (ntV n a c) (fun a' F' => F'.ev 1 rfl) ?_
  rintro B a10 w10 hX F' HK' hb
  replace HMO := HMO.below hb
  replace HON := HON.then hb
  clear HK F hb hX
  clear a9 w9
  rename World => w9
  rename Act => a9
  have HK := HK'
  have F := F'
  clear HK' F'
  replace HK : Keep w0 [(B, (ntV n a c), 35)] [] w9 := HK
  refine fr_ch F 3 [(6, .bool false), (5, .bool false), (4, .string ⟨#[]⟩)] (by kernel_rfl) ?_
  clear F a9
  intro a9 F
  refine wpList_nil ?_
  show Code.wp _ _ _ _ _
  replace F := F.cut [(6, .bool false), (5, .bool false), (4, .string ⟨#[]⟩), (3, .pointer (some ⟨B, 0, none⟩)), (0, .pointer (some ⟨m, 0, none⟩))] (by kernel_rfl)
  refine wp_seq ?_
  refine wp_seq ?_
  refine wp_region_lit ?_
  refine fr_ch F 6 [(18, .pointer (some ⟨m, 0, none⟩)), (15, .bool false)] (by kernel_rfl) ?_
  clear F a9
  intro a9 F
  refine fr_do F (by rw [wanted_at F rfl (t := 15) (b := false) (by kernel_rfl) rfl]; rfl) 19 rfl (by decide) (.map (some M)) (by intro a' F'; have h18 := F'.at' 18 _ rfl; have hc : w9.cell? ⟨m, 0, none⟩ = some (.map (some M)) := HMO.box.cells 0; go_simp) ?_
  clear F a9
  intro a9 F
  refine fr_do F (by rw [wanted_at F rfl (t := 15) (b := false) (by kernel_rfl) rfl]; rfl) 20 rfl (by decide) (.bool false) (fun a' F' => op_map_nil rfl (F'.ev 19 rfl) rfl) ?_
  clear F a9
  intro a9 F
  refine fr_ch F 1 [(21, .bool false)] (by kernel_rfl) ?_
  clear F a9
  intro a9 F
  refine wpList_nil ?_
  show Code.wp _ _ _ _ _
  refine wp_cond_false (F.ev 21 rfl) ?_
  refine wp_skip ?_
  show Code.wp _ _ _ _ _
  replace F := F.cut [(6, .bool false), (5, .bool false), (4, .string ⟨#[]⟩), (3, .pointer (some ⟨B, 0, none⟩)), (0, .pointer (some ⟨m, 0, none⟩))] (by kernel_rfl)
  refine wp_seq ?_
  refine wp_block ?_
  refine wp_seq ?_
  refine wp_region_lit ?_
  refine fr_ch F 1 [(23, .pointer (some ⟨B, 0, none⟩))] (by kernel_rfl) ?_
  clear F a9
  intro a9 F
  refine fr_do F (wanted_free rfl) 24 rfl (by decide) (.int .u8 (n.kind : Int)) (by intro a' F'; have hc : w9.cell? ⟨B, 0, none⟩ = some (.int .u8 (n.kind : Int)) := (HK.at 0 rfl).cells 0; have h23 := F'.at' 23 _ rfl; go_simp) ?_
  clear F a9
  intro a9 F
  refine fr_do F (wanted_free rfl) 25 rfl (by decide) (.bool false) (by intro a' F'; have h24 := F'.at' 24 _ rfl; go_simp <;> omega) ?_
  clear F a9
  intro a9 F
  refine fr_ch F 1 [(22, .bool false)] (by kernel_rfl) ?_
  clear F a9
  intro a9 F
  refine wpList_nil ?_
  show Code.wp _ _ _ _ _
  refine wp_cond_false (F.ev 22 rfl) ?_
  replace F := F.cut [(6, .bool false), (5, .bool false), (4, .string ⟨#[]⟩), (3, .pointer (some ⟨B, 0, none⟩)), (0, .pointer (some ⟨m, 0, none⟩))] (by kernel_rfl)
  refine wp_seq ?_
  refine wp_region_lit ?_
  refine fr_ch F 1 [(34, .pointer (some ⟨B, 0, none⟩))] (by kernel_rfl) ?_
  clear F a9
  intro a9 F
  refine fr_do F (wanted_free rfl) 35 rfl (by decide) (.int .u8 (n.kind : Int)) (by intro a' F'; have hc : w9.cell? ⟨B, 0, none⟩ = some (.int .u8 (n.kind : Int)) := (HK.at 0 rfl).cells 0; have h34 := F'.at' 34 _ rfl; go_simp) ?_
  clear F a9
  intro a9 F
  refine fr_do F (wanted_free rfl) 36 rfl (by decide) (.bool true) (by intro a' F'; have h35 := F'.at' 35 _ rfl; go_simp <;> omega) ?_
  clear F a9
  intro a9 F
  refine fr_ch F 1 [(33, .bool true)] (by kernel_rfl) ?_
  clear F a9
  intro a9 F
  refine wpList_nil ?_
  show Code.wp _ _ _ _ _
  refine wp_cond_true (F.ev 33 rfl) ?_
  replace F := F.cut [(6, .bool false), (5, .bool false), (4, .string ⟨#[]⟩), (3, .pointer (some ⟨B, 0, none⟩)), (0, .pointer (some ⟨m, 0, none⟩))] (by kernel_rfl)
  refine wp_seq ?_
  refine wp_region_lit ?_
  refine fr_ch F 3 [(6, .bool true), (5, .bool false), (4, .string ⟨#[]⟩)] (by kernel_rfl) ?_
  clear F a9
  intro a9 F
  refine wpList_nil ?_
  show Code.wp _ _ _ _ _
  have HA : applyS (absL L) n = ((e0, false, true), absL L) := by unfold applyS; rw [if_neg hk, if_pos hk2]
  refine wp_ret ?_
  exact fr_ret3t F rfl _ _ _ rfl rfl rfl (FIN.out _ _ _ L _ (by rw [HA]; rfl) (by rw [HA]) (by rw [HA]) (by rw [HA]) ⟨HMO, HK.sub (List.nil_sublist _) (fun r hr => hr), HON, fun k hk => Or.inl hk⟩)
set_option maxRecDepth 100000 in
set_option maxHeartbeats 4000000 in
theorem apply_connect {w0 w : World} {m M K KM : Nat} {L : List St} (n : Nt) (a : Option Addr) (c : Nat) (HK : Keep w0 [] [] w) (HMO : MoAt w w0.heap.size m M K KM L) (hk : n.kind = 2) (hty : n.p.ty = 1) : Calls Tryd.prog 21 #[.pointer (some ⟨m, 0, none⟩), .agg (ntV n a c)] w fun e w' => ∃ L', e = .returned (.tuple #[.string (applyS (absL L) n).1.1, .bool (applyS (absL L) n).1.2.1, .bool (applyS (absL L) n).1.2.2]) ∧ absL L' = (applyS (absL L) n).2 ∧ MOut w0 w m M K KM L L' w' := by
  obtain ⟨RR, hRR⟩ : ∃ RR : Ending → World → Prop, RR = fun e w' => ∃ L', e = .returned (.tuple #[.string (applyS (absL L) n).1.1, .bool (applyS (absL L) n).1.2.1, .bool (applyS (absL L) n).1.2.2]) ∧ absL L' = (applyS (absL L) n).2 ∧ MOut w0 w m M K KM L L' w' := ⟨_, rfl⟩
  have FIN := Lib.hid (show ∀ s p o' L' w', s = (applyS (absL L) n).1.1 → p = (applyS (absL L) n).1.2.1 → o' = (applyS (absL L) n).1.2.2 → absL L' = (applyS (absL L) n).2 → MOut w0 w m M K KM L L' w' → RR (.returned (.tuple #[.string s, .bool p, .bool o'])) w' from fun s p o' L' w' h0 h1 h2 h3 h4 => by rw [hRR, h0, h1, h2]; exact ⟨L', rfl, h3, h4⟩)
  rw [← hRR]
  have HND := Lib.hid HMO.nd
  have HF0 := Lib.hid (fun k hk => HMO.foot (k := k) hk)
  obtain ⟨w9, hw9⟩ : ∃ w9, w9 = w := ⟨_, rfl⟩
  have HON : Only (FootM m M K KM L) w w9 := by rw [hw9]; exact Only.refl _ _
  rw [← hw9] at HK HMO
  suffices hgo : Calls Tryd.prog 21 #[.pointer (some ⟨m, 0, none⟩), .agg (ntV n a c)] w9 RR by rw [hw9] at hgo; exact hgo
  clear hw9 hRR
  go_enter Tryd.func21, Tryd.ntmps21
  refine wp_forget (n := 137) (L := [(1, .agg (ntV n a c)), (0, .pointer (some ⟨m, 0, none⟩))]) (FrL.add (FrL.add (FrL.nil ?_ ?_) _ _ ?_) _ _ ?_) ?_
  iterate 4 rfl
  intro a9 F
  refine wp_seq ?_
  refine wp_region_lit ?_
  refine fr_box F HK 3 (by decide) rfl 35 _ rfl rfl (ntV n a c) (fun a' F' => F'.ev 1 rfl) ?_
  rintro B a10 w10 hX F' HK' hb
  replace HMO := HMO.below hb
  replace HON := HON.then hb
  clear HK F hb hX
  clear a9 w9
  rename World => w9
  rename Act => a9
  have HK := HK'
  have F := F'
  clear HK' F'
  replace HK : Keep w0 [(B, (ntV n a c), 35)] [] w9 := HK
  refine fr_ch F 3 [(6, .bool false), (5, .bool false), (4, .string ⟨#[]⟩)] (by kernel_rfl) ?_
  clear F a9
  intro a9 F
  refine wpList_nil ?_
  show Code.wp _ _ _ _ _
  replace F := F.cut [(6, .bool false), (5, .bool false), (4, .string ⟨#[]⟩), (3, .pointer (some ⟨B, 0, none⟩)), (0, .pointer (some ⟨m, 0, none⟩))] (by kernel_rfl)
  refine wp_seq ?_
  refine wp_seq ?_
  refine wp_region_lit ?_
  refine fr_ch F 6 [(18, .pointer (some ⟨m, 0, none⟩)), (15, .bool false)] (by kernel_rfl) ?_
  clear F a9
  intro a9 F
  refine fr_do F (by rw [wanted_at F rfl (t := 15) (b := false) (by kernel_rfl) rfl]; rfl) 19 rfl (by decide) (.map (some M)) (by intro a' F'; have h18 := F'.at' 18 _ rfl; have hc : w9.cell? ⟨m, 0, none⟩ = some (.map (some M)) := HMO.box.cells 0; go_simp) ?_
  clear F a9
  intro a9 F
  refine fr_do F (by rw [wanted_at F rfl (t := 15) (b := false) (by kernel_rfl) rfl]; rfl) 20 rfl (by decide) (.bool false) (fun a' F' => op_map_nil rfl (F'.ev 19 rfl) rfl) ?_
  clear F a9
  intro a9 F
  refine fr_ch F 1 [(21, .bool false)] (by kernel_rfl) ?_
  clear F a9
  intro a9 F
  refine wpList_nil ?_
  show Code.wp _ _ _ _ _
  refine wp_cond_false (F.ev 21 rfl) ?_
  refine wp_skip ?_
  show Code.wp _ _ _ _ _
  replace F := F.cut [(6, .bool false), (5, .bool false), (4, .string ⟨#[]⟩), (3, .pointer (some ⟨B, 0, none⟩)), (0, .pointer (some ⟨m, 0, none⟩))] (by kernel_rfl)
  refine wp_seq ?_
  refine wp_block ?_
  refine wp_seq ?_
  refine wp_region_lit ?_
  refine fr_ch F 1 [(23, .pointer (some ⟨B, 0, none⟩))] (by kernel_rfl) ?_
  clear F a9
  intro a9 F
  refine fr_do F (wanted_free rfl) 24 rfl (by decide) (.int .u8 (n.kind : Int)) (by intro a' F'; have hc : w9.cell? ⟨B, 0, none⟩ = some (.int .u8 (n.kind : Int)) := (HK.at 0 rfl).cells 0; have h23 := F'.at' 23 _ rfl; go_simp) ?_
  clear F a9
  intro a9 F
  refine fr_do F (wanted_free rfl) 25 rfl (by decide) (.bool false) (by intro a' F'; have h24 := F'.at' 24 _ rfl; go_simp) ?_
  clear F a9
  intro a9 F
  refine fr_ch F 1 [(22, .bool false)] (by kernel_rfl) ?_
  clear F a9
  intro a9 F
  refine wpList_nil ?_
  show Code.wp _ _ _ _ _
  refine wp_cond_false (F.ev 22 rfl) ?_
  replace F := F.cut [(6, .bool false), (5, .bool false), (4, .string ⟨#[]⟩), (3, .pointer (some ⟨B, 0, none⟩)), (0, .pointer (some ⟨m, 0, none⟩))] (by kernel_rfl)
  refine wp_seq ?_
  refine wp_region_lit ?_
  refine fr_ch F 1 [(34, .pointer (some ⟨B, 0, none⟩))] (by kernel_rfl) ?_
  clear F a9
  intro a9 F
  refine fr_do F (wanted_free rfl) 35 rfl (by decide) (.int .u8 (n.kind : Int)) (by intro a' F'; have hc : w9.cell? ⟨B, 0, none⟩ = some (.int .u8 (n.kind : Int)) := (HK.at 0 rfl).cells 0; have h34 := F'.at' 34 _ rfl; go_simp) ?_
  clear F a9
  intro a9 F
  refine fr_do F (wanted_free rfl) 36 rfl (by decide) (.bool false) (by intro a' F'; have h35 := F'.at' 35 _ rfl; go_simp) ?_
  clear F a9
  intro a9 F
  refine fr_ch F 1 [(33, .bool false)] (by kernel_rfl) ?_
  clear F a9
  intro a9 F
  refine wpList_nil ?_
  show Code.wp _ _ _ _ _
  refine wp_cond_false (F.ev 33 rfl) ?_
  replace F := F.cut [(6, .bool false), (5, .bool false), (4, .string ⟨#[]⟩), (3, .pointer (some ⟨B, 0, none⟩)), (0, .pointer (some ⟨m, 0, none⟩))] (by kernel_rfl)
  refine wp_seq ?_
  refine wp_region_lit ?_
  refine fr_ch F 2 [(39, .pointer (some ⟨B, 4, none⟩))] (by kernel_rfl) ?_
  clear F a9
  intro a9 F
  refine fr_do F (wanted_free rfl) 40 rfl (by decide) (.int .u8 (n.p.ty : Int)) (by intro a' F'; have hc : w9.cell? ⟨B, 4, none⟩ = some (.int .u8 (n.p.ty : Int)) := (HK.at 0 rfl).cells 4; have h39 := F'.at' 39 _ rfl; go_simp) ?_
  clear F a9
  intro a9 F
  refine fr_do F (wanted_free rfl) 41 rfl (by decide) (.bool true) (by intro a' F'; have h40 := F'.at' 40 _ rfl; go_simp) ?_
  clear F a9
  intro a9 F
  refine fr_ch F 1 [(37, .bool true)] (by kernel_rfl) ?_
  clear F a9
  intro a9 F
  refine wpList_nil ?_
  show Code.wp _ _ _ _ _
  refine wp_cond_true (F.ev 37 rfl) ?_
  replace F := F.cut [(6, .bool false), (5, .bool false), (4, .string ⟨#[]⟩), (3, .pointer (some ⟨B, 0, none⟩)), (0, .pointer (some ⟨m, 0, none⟩))] (by kernel_rfl)
  refine wp_seq ?_
  refine wp_region_lit ?_
  refine fr_ch F 1 [(43, .pointer (some ⟨m, 0, none⟩))] (by kernel_rfl) ?_
  clear F a9
  intro a9 F
  refine fr_do F (wanted_free rfl) 44 rfl (by decide) (.agg ((ntV n a c))) (by intro a' F'; exact run_load_box rfl (F'.ev 3 rfl) (HK.at 0 rfl) Tryd.underlying35 rfl infoNt) ?_
  clear F a9
  intro a9 F
  obtain ⟨pp, hpp⟩ : ∃ pp, (applyS (absL L) n).1.2.1 = pp := ⟨_, rfl⟩
  obtain ⟨oo, hoo⟩ : ∃ oo, (applyS (absL L) n).1.2.2 = oo := ⟨_, rfl⟩
  have HC := model_connect n a c (HK.sub (List.nil_sublist _) (fun r hr => hr)) HMO hk hty
  rw [hpp, hoo] at HC
  refine fr_call F (wanted_free rfl) 45 rfl (by decide) 42 #[.pointer (some ⟨m, 0, none⟩), .agg (ntV n a c)] (by intro a' F'; have h43 := F'.at' 43 _ rfl; have h44 := F'.at' 44 _ rfl; go_simp) (HC) ?_
  rintro e9 w8 ⟨L', rfl, habs, hout⟩
  have HK2 := hout.keep
  have HMO2 := hout.mo
  have HFT := Lib.hid hout.foot
  replace HON2 := HON.trans hout.only (fun j _ h => h)
  have hsz := HON.size
  have hbx : BoxAt w9 B (ntV n a c) 35 := HK.at 0 rfl
  clear HK HMO HON HC hout
  have HK := HK2
  have HMO := HMO2
  have HON := HON2
  clear HK2 HMO2 HON2 hbx
  refine ⟨_, rfl, ?_⟩
  clear F a9
  intro a9 F
  refine fr_mv F (wanted_free rfl) 42 rfl (by decide) 45 rfl rfl ?_
  clear F a9
  intro a9 F
  refine fr_ch F 4 [(6, .bool oo), (5, .bool pp), (47, .bool oo), (46, .bool pp)] (by kernel_rfl) ?_
  clear F a9
  intro a9 F
  refine wpList_nil ?_
  show Code.wp _ _ _ _ _
  replace F := F.cut [(6, .bool oo), (5, .bool pp), (4, .string ⟨#[]⟩)] (by kernel_rfl)
  refine wp_seq ?_
  refine wp_region_lit ?_
  refine fr_ch F 5 [(6, .bool oo), (5, .bool pp), (4, .string ⟨#[]⟩)] (by kernel_rfl) ?_
  clear F a9
  intro a9 F
  refine wpList_nil ?_
  show Code.wp _ _ _ _ _
  have HA : (applyS (absL L) n).1.1 = e0 := by
    unfold applyS
    rw [if_neg (by omega), if_neg (by omega), if_pos hty]
    split
    · rfl
    · split
      · split <;> rfl
      · rfl
  refine wp_ret ?_
  exact fr_ret3t F rfl _ _ _ rfl rfl rfl (FIN.out _ _ _ L' _ HA.symm hpp.symm hoo.symm habs ⟨HMO, HK, HON, fun k hk => (HFT.out k hk).elim Or.inl (fun h => Or.inr (Nat.le_trans hsz h))⟩)
set_option maxRecDepth 100000 in
set_option maxHeartbeats 4000000 in
theorem apply_none {w0 w : World} {m M K KM : Nat} {L : List St} (n : Nt) (a : Option Addr) (c : Nat) (HK : Keep w0 [] [] w) (HMO : MoAt w w0.heap.size m M K KM L) (hk : n.kind = 2) (hty : n.p.ty ≠ 1) (HX : findL L n.client = none) : Calls Tryd.prog 21 #[.pointer (some ⟨m, 0, none⟩), .agg (ntV n a c)] w fun e w' => ∃ L', e = .returned (.tuple #[.string (applyS (absL L) n).1.1, .bool (applyS (absL L) n).1.2.1, .bool (applyS (absL L) n).1.2.2]) ∧ absL L' = (applyS (absL L) n).2 ∧ MOut w0 w m M K KM L L' w' := by
  obtain ⟨RR, hRR⟩ : ∃ RR : Ending → World → Prop, RR = fun e w' => ∃ L', e = .returned (.tuple #[.string (applyS (absL L) n).1.1, .bool (applyS (absL L) n).1.2.1, .bool (applyS (absL L) n).1.2.2]) ∧ absL L' = (applyS (absL L) n).2 ∧ MOut w0 w m M K KM L L' w' := ⟨_, rfl⟩
  have FIN := Lib.hid (show ∀ s p o' L' w', s = (applyS (absL L) n).1.1 → p = (applyS (absL L) n).1.2.1 → o' = (applyS (absL L) n).1.2.2 → absL L' = (applyS (absL L) n).2 → MOut w0 w m M K KM L L' w' → RR (.returned (.tuple #[.string s, .bool p, .bool o'])) w' from fun s p o' L' w' h0 h1 h2 h3 h4 => by rw [hRR, h0, h1, h2]; exact ⟨L', rfl, h3, h4⟩)
  rw [← hRR]
  have HND := Lib.hid HMO.nd
  have HF0 := Lib.hid (fun k hk => HMO.foot (k := k) hk)
  obtain ⟨w9, hw9⟩ : ∃ w9, w9 = w := ⟨_, rfl⟩
  have HON : Only (FootM m M K KM L) w w9 := by rw [hw9]; exact Only.refl _ _
  rw [← hw9] at HK HMO
  suffices hgo : Calls Tryd.prog 21 #[.pointer (some ⟨m, 0, none⟩), .agg (ntV n a c)] w9 RR by rw [hw9] at hgo; exact hgo
  clear hw9 hRR
  go_enter Tryd.func21, Tryd.ntmps21
  refine wp_forget (n := 137) (L := [(1, .agg (ntV n a c)), (0, .pointer (some ⟨m, 0, none⟩))]) (FrL.add (FrL.add (FrL.nil ?_ ?_) _ _ ?_) _ _ ?_) ?_
  iterate 4 rfl
  intro a9 F
  refine wp_seq ?_
  refine wp_region_lit ?_
  refine fr_box F HK 3 (by decide) rfl 35 _ rfl rfl (ntV n a c) (fun a' F' => F'.ev 1 rfl) ?_
  rintro B a10 w10 hX F' HK' hb
  replace HMO := HMO.below hb
  replace HON := HON.then hb
  clear HK F hb hX
  clear a9 w9
  rename World => w9
  rename Act => a9
  have HK := HK'
  have F := F'
  clear HK' F'
  replace HK : Keep w0 [(B, (ntV n a c), 35)] [] w9 := HK
  refine fr_ch F 3 [(6, .bool false), (5, .bool false), (4, .string ⟨#[]⟩)] (by kernel_rfl) ?_
  clear F a9
  intro a9 F
  refine wpList_nil ?_
  show Code.wp _ _ _ _ _
  replace F := F.cut [(6, .bool false), (5, .bool false), (4, .string ⟨#[]⟩), (3, .pointer (some ⟨B, 0, none⟩)), (0, .pointer (some ⟨m, 0, none⟩))] (by kernel_rfl)
  refine wp_seq ?_
  refine wp_seq ?_
  refine wp_region_lit ?_
  refine fr_ch F 6 [(18, .pointer (some ⟨m, 0, none⟩)), (15, .bool false), (14, .bool false), (13, .pointer (some ⟨m, 0, none⟩))] (by kernel_rfl) ?_
  clear F a9
  intro a9 F
  refine fr_do F (by rw [wanted_at F rfl (t := 15) (b := false) (by kernel_rfl) rfl]; rfl) 19 rfl (by decide) (.map (some M)) (by intro a' F'; have h18 := F'.at' 18 _ rfl; have hc : w9.cell? ⟨m, 0, none⟩ = some (.map (some M)) := HMO.box.cells 0; go_simp) ?_
  clear F a9
  intro a9 F
  refine fr_do F (by rw [wanted_at F rfl (t := 15) (b := false) (by kernel_rfl) rfl]; rfl) 20 rfl (by decide) (.bool false) (fun a' F' => op_map_nil rfl (F'.ev 19 rfl) rfl) ?_
  clear F a9
  intro a9 F
  refine fr_ch F 1 [(21, .bool false)] (by kernel_rfl) ?_
  clear F a9
  intro a9 F
  refine wpList_nil ?_
  show Code.wp _ _ _ _ _
  refine wp_cond_false (F.ev 21 rfl) ?_
  refine wp_skip ?_
  show Code.wp _ _ _ _ _
  replace F := F.cut [(6, .bool false), (5, .bool false), (4, .string ⟨#[]⟩), (3, .pointer (some ⟨B, 0, none⟩)), (0, .pointer (some ⟨m, 0, none⟩))] (by kernel_rfl)
  refine wp_seq ?_
  refine wp_block ?_
  refine wp_seq ?_
  refine wp_region_lit ?_
  refine fr_ch F 1 [(23, .pointer (some ⟨B, 0, none⟩))] (by kernel_rfl) ?_
  clear F a9
  intro a9 F
  refine fr_do F (wanted_free rfl) 24 rfl (by decide) (.int .u8 (n.kind : Int)) (by intro a' F'; have hc : w9.cell? ⟨B, 0, none⟩ = some (.int .u8 (n.kind : Int)) := (HK.at 0 rfl).cells 0; have h23 := F'.at' 23 _ rfl; go_simp) ?_
  clear F a9
  intro a9 F
  refine fr_do F (wanted_free rfl) 25 rfl (by decide) (.bool false) (by intro a' F'; have h24 := F'.at' 24 _ rfl; go_simp) ?_
  clear F a9
  intro a9 F
  refine fr_ch F 1 [(22, .bool false)] (by kernel_rfl) ?_
  clear F a9
  intro a9 F
  refine wpList_nil ?_
  show Code.wp _ _ _ _ _
  refine wp_cond_false (F.ev 22 rfl) ?_
  replace F := F.cut [(6, .bool false), (5, .bool false), (4, .string ⟨#[]⟩), (3, .pointer (some ⟨B, 0, none⟩)), (0, .pointer (some ⟨m, 0, none⟩))] (by kernel_rfl)
  refine wp_seq ?_
  refine wp_region_lit ?_
  refine fr_ch F 1 [(34, .pointer (some ⟨B, 0, none⟩))] (by kernel_rfl) ?_
  clear F a9
  intro a9 F
  refine fr_do F (wanted_free rfl) 35 rfl (by decide) (.int .u8 (n.kind : Int)) (by intro a' F'; have hc : w9.cell? ⟨B, 0, none⟩ = some (.int .u8 (n.kind : Int)) := (HK.at 0 rfl).cells 0; have h34 := F'.at' 34 _ rfl; go_simp) ?_
  clear F a9
  intro a9 F
  refine fr_do F (wanted_free rfl) 36 rfl (by decide) (.bool false) (by intro a' F'; have h35 := F'.at' 35 _ rfl; go_simp) ?_
  clear F a9
  intro a9 F
  refine fr_ch F 1 [(33, .bool false)] (by kernel_rfl) ?_
  clear F a9
  intro a9 F
  refine wpList_nil ?_
  show Code.wp _ _ _ _ _
  refine wp_cond_false (F.ev 33 rfl) ?_
  replace F := F.cut [(6, .bool false), (5, .bool false), (4, .string ⟨#[]⟩), (3, .pointer (some ⟨B, 0, none⟩)), (0, .pointer (some ⟨m, 0, none⟩))] (by kernel_rfl)
  refine wp_seq ?_
  refine wp_region_lit ?_
  refine fr_ch F 2 [(39, .pointer (some ⟨B, 4, none⟩))] (by kernel_rfl) ?_
  clear F a9
  intro a9 F
  refine fr_do F (wanted_free rfl) 40 rfl (by decide) (.int .u8 (n.p.ty : Int)) (by intro a' F'; have hc : w9.cell? ⟨B, 4, none⟩ = some (.int .u8 (n.p.ty : Int)) := (HK.at 0 rfl).cells 4; have h39 := F'.at' 39 _ rfl; go_simp) ?_
  clear F a9
  intro a9 F
  refine fr_do F (wanted_free rfl) 41 rfl (by decide) (.bool false) (by intro a' F'; have h40 := F'.at' 40 _ rfl; go_simp <;> omega) ?_
  clear F a9
  intro a9 F
  refine fr_ch F 1 [(37, .bool false)] (by kernel_rfl) ?_
  clear F a9
  intro a9 F
  refine wpList_nil ?_
  show Code.wp _ _ _ _ _
  refine wp_cond_false (F.ev 37 rfl) ?_
  replace F := F.cut [(6, .bool false), (5, .bool false), (4, .string ⟨#[]⟩), (3, .pointer (some ⟨B, 0, none⟩)), (0, .pointer (some ⟨m, 0, none⟩))] (by kernel_rfl)
  refine wp_skip ?_
  show Code.wp _ _ _ _ _
  refine wp_seq ?_
  refine wp_region_lit ?_
  refine fr_ch F 2 [(51, .pointer (some ⟨B, 3, none⟩)), (50, .pointer (some ⟨m, 0, none⟩))] (by kernel_rfl) ?_
  clear F a9
  intro a9 F
  refine fr_do F (wanted_free rfl) 52 rfl (by decide) (.string n.client) (by intro a' F'; have hc : w9.cell? ⟨B, 3, none⟩ = some (.string n.client) := (HK.at 0 rfl).cells 3; have h51 := F'.at' 51 _ rfl; go_simp) ?_
  clear F a9
  intro a9 F
  refine fr_call F (wanted_free rfl) 53 rfl (by decide) 43 #[.pointer (some ⟨m, 0, none⟩), .string n.client] (by intro a' F'; have h50 := F'.at' 50 _ rfl; have h52 := F'.at' 52 _ rfl; go_simp) (model_seat w9 n.client HMO) ?_
  rintro e9 w8 ⟨rfl, rfl⟩
  rw [HX]
  refine ⟨_, rfl, ?_⟩
  clear F a9
  intro a9 F
  refine fr_as F (wanted_free rfl) 7 rfl (by decide) 53 rfl rfl ?_
  clear F a9
  intro a9 F
  refine wpList_nil ?_
  show Code.wp _ _ _ _ _
  replace F := F.cut [(7, .pointer none), (6, .bool false), (5, .bool false), (4, .string ⟨#[]⟩), (3, .pointer (some ⟨B, 0, none⟩)), (0, .pointer (some ⟨m, 0, none⟩))] (by kernel_rfl)
  refine wp_seq ?_
  refine wp_seq ?_
  refine wp_region_noPanic ?_
  have hb8 : Below w9.heap.size w9 w9.drew := below_draws (n := 1) rfl
  replace HK := HK.below hb8
  replace HMO := HMO.below hb8
  replace HON := HON.then hb8
  clear hb8
  refine AnyT.begin (S := fun w' => BoxAt w' B (ntV n a c) 35) (z := 1000) (by kernel_rfl) (HK.at 0 rfl) (fun hS0 => ?_)
  clear hS0
  generalize w9.drew = w8 at *
  clear w9
  rename World => w9
  refine fr_chT F [0, 1, 2, 3, 4, 5, 6, 7, 8, 9, 10, 11, 12, 13, 14, 15] [(69, .bool true), (68, undef), (67, undef), (66, undef), (65, undef), (64, undef), (63, undef), (62, undef), (61, .bool true), (60, .bool true), (59, undef), (58, undef), (57, undef), (56, .bool true), (55, .bool true), (54, .pointer none)] (HK.at 0 rfl) (by kernel_rfl) ?_
  clear F a9
  intro a9 F
  refine AnyT.done (by kernel_rfl) ?_ _
  refine NoPanic.normal ?_
  show Code.wp _ _ _ _ _
  refine wp_cond_true (F.ev 69 rfl) ?_
  replace F := F.cut [(7, .pointer none), (6, .bool false), (5, .bool false), (4, .string ⟨#[]⟩), (3, .pointer (some ⟨B, 0, none⟩)), (0, .pointer (some ⟨m, 0, none⟩))] (by kernel_rfl)
  refine wp_seq ?_
  refine wp_region_lit ?_
  refine fr_ch F 3 [(6, .bool false), (5, .bool false), (4, .string ⟨#[]⟩)] (by kernel_rfl) ?_
  clear F a9
  intro a9 F
  refine wpList_nil ?_
  show Code.wp _ _ _ _ _
  have HA : applyS (absL L) n = ((e0, false, false), absL L) := by unfold applyS; rw [if_neg (by omega), if_neg (by omega), if_neg hty, absL_none HX]
  refine wp_ret ?_
  exact fr_ret3t F rfl _ _ _ rfl rfl rfl (FIN.out _ _ _ L _ (by rw [HA]; rfl) (by rw [HA]) (by rw [HA]) (by rw [HA]) ⟨HMO, HK.sub (List.nil_sublist _) (fun r hr => hr), HON, fun k hk => Or.inl hk⟩)
set_option maxRecDepth 100000 in
set_option maxHeartbeats 4000000 in
theorem apply_low {w0 w : World} {m M K KM : Nat} {L : List St} (n : Nt) (a : Option Addr) (c : Nat) (HK : Keep w0 [] [] w) (HMO : MoAt w w0.heap.size m M K KM L) (hk : n.kind = 2) (hty : n.p.ty ≠ 1) {x : St} (HX : findL L n.client = some x) (hc : n.conn < 1) : Calls Tryd.prog 21 #[.pointer (some ⟨m, 0, none⟩), .agg (ntV n a c)] w fun e w' => ∃ L', e = .returned (.tuple #[.string (applyS (absL L) n).1.1, .bool (applyS (absL L) n).1.2.1, .bool (applyS (absL L) n).1.2.2]) ∧ absL L' = (applyS (absL L) n).2 ∧ MOut w0 w m M K KM L L' w' := by
  obtain ⟨RR, hRR⟩ : ∃ RR : Ending → World → Prop, RR = fun e w' => ∃ L', e = .returned (.tuple #[.string (applyS (absL L) n).1.1, .bool (applyS (absL L) n).1.2.1, .bool (applyS (absL L) n).1.2.2]) ∧ absL L' = (applyS (absL L) n).2 ∧ MOut w0 w m M K KM L L' w' := ⟨_, rfl⟩
  have FIN := Lib.hid (show ∀ s p o' L' w', s = (applyS (absL L) n).1.1 → p = (applyS (absL L) n).1.2.1 → o' = (applyS (absL L) n).1.2.2 → absL L' = (applyS (absL L) n).2 → MOut w0 w m M K KM L L' w' → RR (.returned (.tuple #[.string s, .bool p, .bool o'])) w' from fun s p o' L' w' h0 h1 h2 h3 h4 => by rw [hRR, h0, h1, h2]; exact ⟨L', rfl, h3, h4⟩)
  rw [← hRR]
  have HND := Lib.hid HMO.nd
  have HF0 := Lib.hid (fun k hk => HMO.foot (k := k) hk)
  obtain ⟨w9, hw9⟩ : ∃ w9, w9 = w := ⟨_, rfl⟩
  have HON : Only (FootM m M K KM L) w w9 := by rw [hw9]; exact Only.refl _ _
  rw [← hw9] at HK HMO
  suffices hgo : Calls Tryd.prog 21 #[.pointer (some ⟨m, 0, none⟩), .agg (ntV n a c)] w9 RR by rw [hw9] at hgo; exact hgo
  clear hw9 hRR
  go_enter Tryd.func21, Tryd.ntmps21
  refine wp_forget (n := 137) (L := [(1, .agg (ntV n a c)), (0, .pointer (some ⟨m, 0, none⟩))]) (FrL.add (FrL.add (FrL.nil ?_ ?_) _ _ ?_) _ _ ?_) ?_
  iterate 4 rfl
  intro a9 F
  refine wp_seq ?_
  refine wp_region_lit ?_
  refine fr_box F HK 3 (by decide) rfl 35 _ rfl rfl (ntV n a c) (fun a' F' => F'.ev 1 rfl) ?_
  rintro B a10 w10 hX F' HK' hb
  replace HMO := HMO.below hb
  replace HON := HON.then hb
  clear HK F hb hX
  clear a9 w9
  rename World => w9
  rename Act => a9
  have HK := HK'
  have F := F'
  clear HK' F'
  replace HK : Keep w0 [(B, (ntV n a c), 35)] [] w9 := HK
  refine fr_ch F 3 [(6, .bool false), (5, .bool false), (4, .string ⟨#[]⟩)] (by kernel_rfl) ?_
  clear F a9
  intro a9 F
  refine wpList_nil ?_
  show Code.wp _ _ _ _ _
  replace F := F.cut [(6, .bool false), (5, .bool false), (4, .string ⟨#[]⟩), (3, .pointer (some ⟨B, 0, none⟩)), (0, .pointer (some ⟨m, 0, none⟩))] (by kernel_rfl)
  refine wp_seq ?_
  refine wp_seq ?_
  refine wp_region_lit ?_
  refine fr_ch F 6 [(18, .pointer (some ⟨m, 0, none⟩)), (15, .bool false), (14, .bool false), (13, .pointer (some ⟨m, 0, none⟩))] (by kernel_rfl) ?_
  clear F a9
  intro a9 F
  refine fr_do F (by rw [wanted_at F rfl (t := 15) (b := false) (by kernel_rfl) rfl]; rfl) 19 rfl (by decide) (.map (some M)) (by intro a' F'; have h18 := F'.at' 18 _ rfl; have hc : w9.cell? ⟨m, 0, none⟩ = some (.map (some M)) := HMO.box.cells 0; go_simp) ?_
  clear F a9
  intro a9 F
  refine fr_do F (by rw [wanted_at F rfl (t := 15) (b := false) (by kernel_rfl) rfl]; rfl) 20 rfl (by decide) (.bool false) (fun a' F' => op_map_nil rfl (F'.ev 19 rfl) rfl) ?_
  clear F a9
  intro a9 F
  refine fr_ch F 1 [(21, .bool false)] (by kernel_rfl) ?_
  clear F a9
  intro a9 F
  refine wpList_nil ?_
  show Code.wp _ _ _ _ _
  refine wp_cond_false (F.ev 21 rfl) ?_
  refine wp_skip ?_
  show Code.wp _ _ _ _ _
  replace F := F.cut [(6, .bool false), (5, .bool false), (4, .string ⟨#[]⟩), (3, .pointer (some ⟨B, 0, none⟩)), (0, .pointer (some ⟨m, 0, none⟩))] (by kernel_rfl)
  refine wp_seq ?_
  refine wp_block ?_
  refine wp_seq ?_
  refine wp_region_lit ?_
  refine fr_ch F 1 [(23, .pointer (some ⟨B, 0, none⟩))] (by kernel_rfl) ?_
  clear F a9
  intro a9 F
  refine fr_do F (wanted_free rfl) 24 rfl (by decide) (.int .u8 (n.kind : Int)) (by intro a' F'; have hc : w9.cell? ⟨B, 0, none⟩ = some (.int .u8 (n.kind : Int)) := (HK.at 0 rfl).cells 0; have h23 := F'.at' 23 _ rfl; go_simp) ?_
  clear F a9
  intro a9 F
  refine fr_do F (wanted_free rfl) 25 rfl (by decide) (.bool false) (by intro a' F'; have h24 := F'.at' 24 _ rfl; go_simp) ?_
  clear F a9
  intro a9 F
  refine fr_ch F 1 [(22, .bool false)] (by kernel_rfl) ?_
  clear F a9
  intro a9 F
  refine wpList_nil ?_
  show Code.wp _ _ _ _ _
  refine wp_cond_false (F.ev 22 rfl) ?_
  replace F := F.cut [(6, .bool false), (5, .bool false), (4, .string ⟨#[]⟩), (3, .pointer (some ⟨B, 0, none⟩)), (0, .pointer (some ⟨m, 0, none⟩))] (by kernel_rfl)
  refine wp_seq ?_
  refine wp_region_lit ?_
  refine fr_ch F 1 [(34, .pointer (some ⟨B, 0, none⟩))] (by kernel_rfl) ?_
  clear F a9
  intro a9 F
  refine fr_do F (wanted_free rfl) 35 rfl (by decide) (.int .u8 (n.kind : Int)) (by intro a' F'; have hc : w9.cell? ⟨B, 0, none⟩ = some (.int .u8 (n.kind : Int)) := (HK.at 0 rfl).cells 0; have h34 := F'.at' 34 _ rfl; go_simp) ?_
  clear F a9
  intro a9 F
  refine fr_do F (wanted_free rfl) 36 rfl (by decide) (.bool false) (by intro a' F'; have h35 := F'.at' 35 _ rfl; go_simp) ?_
  clear F a9
  intro a9 F
  refine fr_ch F 1 [(33, .bool false)] (by kernel_rfl) ?_
  clear F a9
  intro a9 F
  refine wpList_nil ?_
  show Code.wp _ _ _ _ _
  refine wp_cond_false (F.ev 33 rfl) ?_
  replace F := F.cut [(6, .bool false), (5, .bool false), (4, .string ⟨#[]⟩), (3, .pointer (some ⟨B, 0, none⟩)), (0, .pointer (some ⟨m, 0, none⟩))] (by kernel_rfl)
  refine wp_seq ?_
  refine wp_region_lit ?_
  refine fr_ch F 2 [(39, .pointer (some ⟨B, 4, none⟩))] (by kernel_rfl) ?_
  clear F a9
  intro a9 F
  refine fr_do F (wanted_free rfl) 40 rfl (by decide) (.int .u8 (n.p.ty : Int)) (by intro a' F'; have hc : w9.cell? ⟨B, 4, none⟩ = some (.int .u8 (n.p.ty : Int)) := (HK.at 0 rfl).cells 4; have h39 := F'.at' 39 _ rfl; go_simp) ?_
  clear F a9
  intro a9 F
  refine fr_do F (wanted_free rfl) 41 rfl (by decide) (.bool false) (by intro a' F'; have h40 := F'.at' 40 _ rfl; go_simp <;> omega) ?_
  clear F a9
  intro a9 F
  refine fr_ch F 1 [(37, .bool false)] (by kernel_rfl) ?_
  clear F a9
  intro a9 F
  refine wpList_nil ?_
  show Code.wp _ _ _ _ _
  refine wp_cond_false (F.ev 37 rfl) ?_
  replace F := F.cut [(6, .bool false), (5, .bool false), (4, .string ⟨#[]⟩), (3, .pointer (some ⟨B, 0, none⟩)), (0, .pointer (some ⟨m, 0, none⟩))] (by kernel_rfl)
  refine wp_skip ?_
  show Code.wp _ _ _ _ _
  refine wp_seq ?_
  refine wp_region_lit ?_
  refine fr_ch F 2 [(51, .pointer (some ⟨B, 3, none⟩)), (50, .pointer (some ⟨m, 0, none⟩))] (by kernel_rfl) ?_
  clear F a9
  intro a9 F
  refine fr_do F (wanted_free rfl) 52 rfl (by decide) (.string n.client) (by intro a' F'; have hc : w9.cell? ⟨B, 3, none⟩ = some (.string n.client) := (HK.at 0 rfl).cells 3; have h51 := F'.at' 51 _ rfl; go_simp) ?_
  clear F a9
  intro a9 F
  refine fr_call F (wanted_free rfl) 53 rfl (by decide) 43 #[.pointer (some ⟨m, 0, none⟩), .string n.client] (by intro a' F'; have h50 := F'.at' 50 _ rfl; have h52 := F'.at' 52 _ rfl; go_simp) (model_seat w9 n.client HMO) ?_
  rintro e9 w8 ⟨rfl, rfl⟩
  rw [HX]
  refine ⟨_, rfl, ?_⟩
  clear F a9
  intro a9 F
  refine fr_as F (wanted_free rfl) 7 rfl (by decide) 53 rfl rfl ?_
  clear F a9
  intro a9 F
  refine wpList_nil ?_
  show Code.wp _ _ _ _ _
  replace F := F.cut [(7, .pointer (some ⟨x.s, 0, none⟩)), (6, .bool false), (5, .bool false), (4, .string ⟨#[]⟩), (3, .pointer (some ⟨B, 0, none⟩)), (0, .pointer (some ⟨m, 0, none⟩))] (by kernel_rfl)
  refine wp_seq ?_
  refine wp_seq ?_
  refine wp_region_noPanic ?_
  have hb8 : Below w9.heap.size w9 w9.drew := below_draws (n := 1) rfl
  replace HK := HK.below hb8
  replace HMO := HMO.below hb8
  replace HON := HON.then hb8
  clear hb8
  refine AnyT.begin (S := fun w' => BoxAt w' B (ntV n a c) 35 ∧ BoxAt w' x.s (stV x) 74) (z := 1000) (by kernel_rfl) ⟨HK.at 0 rfl, (HMO.st x (find_mem HX).1).box⟩ (fun hS0 => ?_)
  clear hS0
  generalize w9.drew = w8 at *
  clear w9
  rename World => w9
  refine fr_chT F [0, 1, 2, 3] [(57, .pointer (some ⟨B, 2, none⟩)), (56, .bool false), (55, .bool false), (54, .pointer (some ⟨x.s, 0, none⟩))] ⟨HK.at 0 rfl, (HMO.st x (find_mem HX).1).box⟩ (by kernel_rfl) ?_
  clear F a9
  intro a9 F
  refine fr_takeG (i := 4) (o := ⟨some 58, _, _, _, _, _⟩) F ⟨HK.at 0 rfl, (HMO.st x (find_mem HX).1).box⟩ rfl (by rw [wanted_at F rfl (t := 56) (b := false) (by kernel_rfl) rfl]; rfl) 58 rfl (by decide) (.int .i64 n.conn) (fun w9 hS => (by intro a' F'; have h57 := F'.at' 57 _ rfl; have hc : w9.cell? ⟨B, 2, none⟩ = some (.int .i64 n.conn) := hS.1.cells 2; go_simp)) ?_
  clear F a9
  intro a9 F
  refine fr_takeG (i := 5) (o := ⟨some 59, _, _, _, _, _⟩) F ⟨HK.at 0 rfl, (HMO.st x (find_mem HX).1).box⟩ rfl (by rw [wanted_at F rfl (t := 56) (b := false) (by kernel_rfl) rfl]; rfl) 59 rfl (by decide) (.bool true) (fun w9 hS => (by intro a' F'; have h58 := F'.at' 58 _ rfl; go_simp)) ?_
  clear F a9
  intro a9 F
  refine fr_chT F [6, 7, 8, 9, 10, 11, 12, 13, 14, 15] [(69, .bool true), (68, undef), (67, undef), (66, undef), (65, undef), (64, undef), (63, undef), (62, undef), (61, .bool true), (60, .bool true)] ⟨HK.at 0 rfl, (HMO.st x (find_mem HX).1).box⟩ (by kernel_rfl) ?_
  clear F a9
  intro a9 F
  refine AnyT.done (by kernel_rfl) ?_ _
  refine NoPanic.normal ?_
  show Code.wp _ _ _ _ _
  refine wp_cond_true (F.ev 69 rfl) ?_
  replace F := F.cut [(7, .pointer (some ⟨x.s, 0, none⟩)), (6, .bool false), (5, .bool false), (4, .string ⟨#[]⟩), (3, .pointer (some ⟨B, 0, none⟩)), (0, .pointer (some ⟨m, 0, none⟩))] (by kernel_rfl)
  refine wp_seq ?_
  refine wp_region_lit ?_
  refine fr_ch F 3 [(6, .bool false), (5, .bool false), (4, .string ⟨#[]⟩)] (by kernel_rfl) ?_
  clear F a9
  intro a9 F
  refine wpList_nil ?_
  show Code.wp _ _ _ _ _
  have HA : applyS (absL L) n = ((e0, false, false), absL L) := by unfold applyS; rw [if_neg (by omega), if_neg (by omega), if_neg hty, absL_some HX]; dsimp only; rw [if_pos (Or.inl hc)]
  refine wp_ret ?_
  exact fr_ret3t F rfl _ _ _ rfl rfl rfl (FIN.out _ _ _ L _ (by rw [HA]; rfl) (by rw [HA]) (by rw [HA]) (by rw [HA]) ⟨HMO, HK.sub (List.nil_sublist _) (fun r hr => hr), HON, fun k hk => Or.inl hk⟩)
set_option maxRecDepth 100000 in
set_option maxHeartbeats 4000000 in
theorem apply_away {w0 w : World} {m M K KM : Nat} {L : List St} (n : Nt) (a : Option Addr) (c : Nat) (HK : Keep w0 [] [] w) (HMO : MoAt w w0.heap.size m M K KM L) (hk : n.kind = 2) (hty : n.p.ty ≠ 1) {x : St} (HX : findL L n.client = some x) (hc : ¬ n.conn < 1) (hxc : x.conn ≠ n.conn) : Calls Tryd.prog 21 #[.pointer (some ⟨m, 0, none⟩), .agg (ntV n a c)] w fun e w' => ∃ L', e = .returned (.tuple #[.string (applyS (absL L) n).1.1, .bool (applyS (absL L) n).1.2.1, .bool (applyS (absL L) n).1.2.2]) ∧ absL L' = (applyS (absL L) n).2 ∧ MOut w0 w m M K KM L L' w' := by
  obtain ⟨RR, hRR⟩ : ∃ RR : Ending → World → Prop, RR = fun e w' => ∃ L', e = .returned (.tuple #[.string (applyS (absL L) n).1.1, .bool (applyS (absL L) n).1.2.1, .bool (applyS (absL L) n).1.2.2]) ∧ absL L' = (applyS (absL L) n).2 ∧ MOut w0 w m M K KM L L' w' := ⟨_, rfl⟩
  have FIN := Lib.hid (show ∀ s p o' L' w', s = (applyS (absL L) n).1.1 → p = (applyS (absL L) n).1.2.1 → o' = (applyS (absL L) n).1.2.2 → absL L' = (applyS (absL L) n).2 → MOut w0 w m M K KM L L' w' → RR (.returned (.tuple #[.string s, .bool p, .bool o'])) w' from fun s p o' L' w' h0 h1 h2 h3 h4 => by rw [hRR, h0, h1, h2]; exact ⟨L', rfl, h3, h4⟩)
  rw [← hRR]
  have HND := Lib.hid HMO.nd
  have HF0 := Lib.hid (fun k hk => HMO.foot (k := k) hk)
  obtain ⟨w9, hw9⟩ : ∃ w9, w9 = w := ⟨_, rfl⟩
  have HON : Only (FootM m M K KM L) w w9 := by rw [hw9]; exact Only.refl _ _
  rw [← hw9] at HK HMO
  suffices hgo : Calls Tryd.prog 21 #[.pointer (some ⟨m, 0, none⟩), .agg (ntV n a c)] w9 RR by rw [hw9] at hgo; exact hgo
  clear hw9 hRR
  go_enter Tryd.func21, Tryd.ntmps21
  refine wp_forget (n := 137) (L := [(1, .agg (ntV n a c)), (0, .pointer (some ⟨m, 0, none⟩))]) (FrL.add (FrL.add (FrL.nil ?_ ?_) _ _ ?_) _ _ ?_) ?_
  iterate 4 rfl
  intro a9 F
  refine wp_seq ?_
  refine wp_region_lit ?_
  refine fr_box F HK 3 (by decide) rfl 35 _ rfl rfl (ntV n a c) (fun a' F' => F'.ev 1 rfl) ?_
  rintro B a10 w10 hX F' HK' hb
  replace HMO := HMO.below hb
  replace HON := HON.then hb
  clear HK F hb hX
  clear a9 w9
  rename World => w9
  rename Act => a9
  have HK := HK'
  have F := F'
  clear HK' F'
  replace HK : Keep w0 [(B, (ntV n a c), 35)] [] w9 := HK
  refine fr_ch F 3 [(6, .bool false), (5, .bool false), (4, .string ⟨#[]⟩)] (by kernel_rfl) ?_
  clear F a9
  intro a9 F
  refine wpList_nil ?_
  show Code.wp _ _ _ _ _
  replace F := F.cut [(6, .bool false), (5, .bool false), (4, .string ⟨#[]⟩), (3, .pointer (some ⟨B, 0, none⟩)), (0, .pointer (some ⟨m, 0, none⟩))] (by kernel_rfl)
  refine wp_seq ?_
  refine wp_seq ?_
  refine wp_region_lit ?_
  refine fr_ch F 6 [(18, .pointer (some ⟨m, 0, none⟩)), (15, .bool false), (14, .bool false), (13, .pointer (some ⟨m, 0, none⟩))] (by kernel_rfl) ?_
  clear F a9
  intro a9 F
  refine fr_do F (by rw [wanted_at F rfl (t := 15) (b := false) (by kernel_rfl) rfl]; rfl) 19 rfl (by decide) (.map (some M)) (by intro a' F'; have h18 := F'.at' 18 _ rfl; have hc : w9.cell? ⟨m, 0, none⟩ = some (.map (some M)) := HMO.box.cells 0; go_simp) ?_
  clear F a9
  intro a9 F
  refine fr_do F (by rw [wanted_at F rfl (t := 15) (b := false) (by kernel_rfl) rfl]; rfl) 20 rfl (by decide) (.bool false) (fun a' F' => op_map_nil rfl (F'.ev 19 rfl) rfl) ?_
  clear F a9
  intro a9 F
  refine fr_ch F 1 [(21, .bool false)] (by kernel_rfl) ?_
  clear F a9
  intro a9 F
  refine wpList_nil ?_
  show Code.wp _ _ _ _ _
  refine wp_cond_false (F.ev 21 rfl) ?_
  refine wp_skip ?_
  show Code.wp _ _ _ _ _
  replace F := F.cut [(6, .bool false), (5, .bool false), (4, .string ⟨#[]⟩), (3, .pointer (some ⟨B, 0, none⟩)), (0, .pointer (some ⟨m, 0, none⟩))] (by kernel_rfl)
  refine wp_seq ?_
  refine wp_block ?_
  refine wp_seq ?_
  refine wp_region_lit ?_
  refine fr_ch F 1 [(23, .pointer (some ⟨B, 0, none⟩))] (by kernel_rfl) ?_
  clear F a9
  intro a9 F
  refine fr_do F (wanted_free rfl) 24 rfl (by decide) (.int .u8 (n.kind : Int)) (by intro a' F'; have hc : w9.cell? ⟨B, 0, none⟩ = some (.int .u8 (n.kind : Int)) := (HK.at 0 rfl).cells 0; have h23 := F'.at' 23 _ rfl; go_simp) ?_
  clear F a9
  intro a9 F
  refine fr_do F (wanted_free rfl) 25 rfl (by decide) (.bool false) (by intro a' F'; have h24 := F'.at' 24 _ rfl; go_simp) ?_
  clear F a9
  intro a9 F
  refine fr_ch F 1 [(22, .bool false)] (by kernel_rfl) ?_
  clear F a9
  intro a9 F
  refine wpList_nil ?_
  show Code.wp _ _ _ _ _
  refine wp_cond_false (F.ev 22 rfl) ?_
  replace F := F.cut [(6, .bool false), (5, .bool false), (4, .string ⟨#[]⟩), (3, .pointer (some ⟨B, 0, none⟩)), (0, .pointer (some ⟨m, 0, none⟩))] (by kernel_rfl)
  refine wp_seq ?_
  refine wp_region_lit ?_
  refine fr_ch F 1 [(34, .pointer (some ⟨B, 0, none⟩))] (by kernel_rfl) ?_
  clear F a9
  intro a9 F
  refine fr_do F (wanted_free rfl) 35 rfl (by decide) (.int .u8 (n.kind : Int)) (by intro a' F'; have hc : w9.cell? ⟨B, 0, none⟩ = some (.int .u8 (n.kind : Int)) := (HK.at 0 rfl).cells 0; have h34 := F'.at' 34 _ rfl; go_simp) ?_
  clear F a9
  intro a9 F
  refine fr_do F (wanted_free rfl) 36 rfl (by decide) (.bool false) (by intro a' F'; have h35 := F'.at' 35 _ rfl; go_simp) ?_
  clear F a9
  intro a9 F
  refine fr_ch F 1 [(33, .bool false)] (by kernel_rfl) ?_
  clear F a9
  intro a9 F
  refine wpList_nil ?_
  show Code.wp _ _ _ _ _
  refine wp_cond_false (F.ev 33 rfl) ?_
  replace F := F.cut [(6, .bool false), (5, .bool false), (4, .string ⟨#[]⟩), (3, .pointer (some ⟨B, 0, none⟩)), (0, .pointer (some ⟨m, 0, none⟩))] (by kernel_rfl)
  refine wp_seq ?_
  refine wp_region_lit ?_
  refine fr_ch F 2 [(39, .pointer (some ⟨B, 4, none⟩))] (by kernel_rfl) ?_
  clear F a9
  intro a9 F
  refine fr_do F (wanted_free rfl) 40 rfl (by decide) (.int .u8 (n.p.ty : Int)) (by intro a' F'; have hc : w9.cell? ⟨B, 4, none⟩ = some (.int .u8 (n.p.ty : Int)) := (HK.at 0 rfl).cells 4; have h39 := F'.at' 39 _ rfl; go_simp) ?_
  clear F a9
  intro a9 F
  refine fr_do F (wanted_free rfl) 41 rfl (by decide) (.bool false) (by intro a' F'; have h40 := F'.at' 40 _ rfl; go_simp <;> omega) ?_
  clear F a9
  intro a9 F
  refine fr_ch F 1 [(37, .bool false)] (by kernel_rfl) ?_
  clear F a9
  intro a9 F
  refine wpList_nil ?_
  show Code.wp _ _ _ _ _
  refine wp_cond_false (F.ev 37 rfl) ?_
  replace F := F.cut [(6, .bool false), (5, .bool false), (4, .string ⟨#[]⟩), (3, .pointer (some ⟨B, 0, none⟩)), (0, .pointer (some ⟨m, 0, none⟩))] (by kernel_rfl)
  refine wp_skip ?_
  show Code.wp _ _ _ _ _
  refine wp_seq ?_
  refine wp_region_lit ?_
  refine fr_ch F 2 [(51, .pointer (some ⟨B, 3, none⟩)), (50, .pointer (some ⟨m, 0, none⟩))] (by kernel_rfl) ?_
  clear F a9
  intro a9 F
  refine fr_do F (wanted_free rfl) 52 rfl (by decide) (.string n.client) (by intro a' F'; have hc : w9.cell? ⟨B, 3, none⟩ = some (.string n.client) := (HK.at 0 rfl).cells 3; have h51 := F'.at' 51 _ rfl; go_simp) ?_
  clear F a9
  intro a9 F
  refine fr_call F (wanted_free rfl) 53 rfl (by decide) 43 #[.pointer (some ⟨m, 0, none⟩), .string n.client] (by intro a' F'; have h50 := F'.at' 50 _ rfl; have h52 := F'.at' 52 _ rfl; go_simp) (model_seat w9 n.client HMO) ?_
  rintro e9 w8 ⟨rfl, rfl⟩
  rw [HX]
  refine ⟨_, rfl, ?_⟩
  clear F a9
  intro a9 F
  refine fr_as F (wanted_free rfl) 7 rfl (by decide) 53 rfl rfl ?_
  clear F a9
  intro a9 F
  refine wpList_nil ?_
  show Code.wp _ _ _ _ _
  replace F := F.cut [(7, .pointer (some ⟨x.s, 0, none⟩)), (6, .bool false), (5, .bool false), (4, .string ⟨#[]⟩), (3, .pointer (some ⟨B, 0, none⟩)), (0, .pointer (some ⟨m, 0, none⟩))] (by kernel_rfl)
  refine wp_seq ?_
  refine wp_seq ?_
  refine wp_region_noPanic ?_
  have hb8 : Below w9.heap.size w9 w9.drew := below_draws (n := 1) rfl
  replace HK := HK.below hb8
  replace HMO := HMO.below hb8
  replace HON := HON.then hb8
  clear hb8
  refine AnyT.begin (S := fun w' => BoxAt w' B (ntV n a c) 35 ∧ BoxAt w' x.s (stV x) 74) (z := 1000) (by kernel_rfl) ⟨HK.at 0 rfl, (HMO.st x (find_mem HX).1).box⟩ (fun hS0 => ?_)
  clear hS0
  generalize w9.drew = w8 at *
  clear w9
  rename World => w9
  refine fr_chT F [0, 1, 2, 3] [(57, .pointer (some ⟨B, 2, none⟩)), (56, .bool false), (55, .bool false), (54, .pointer (some ⟨x.s, 0, none⟩))] ⟨HK.at 0 rfl, (HMO.st x (find_mem HX).1).box⟩ (by kernel_rfl) ?_
  clear F a9
  intro a9 F
  refine fr_takeG (i := 4) (o := ⟨some 58, _, _, _, _, _⟩) F ⟨HK.at 0 rfl, (HMO.st x (find_mem HX).1).box⟩ rfl (by rw [wanted_at F rfl (t := 56) (b := false) (by kernel_rfl) rfl]; rfl) 58 rfl (by decide) (.int .i64 n.conn) (fun w9 hS => (by intro a' F'; have h57 := F'.at' 57 _ rfl; have hc : w9.cell? ⟨B, 2, none⟩ = some (.int .i64 n.conn) := hS.1.cells 2; go_simp)) ?_
  clear F a9
  intro a9 F
  refine fr_takeG (i := 5) (o := ⟨some 59, _, _, _, _, _⟩) F ⟨HK.at 0 rfl, (HMO.st x (find_mem HX).1).box⟩ rfl (by rw [wanted_at F rfl (t := 56) (b := false) (by kernel_rfl) rfl]; rfl) 59 rfl (by decide) (.bool false) (fun w9 hS => (by intro a' F'; have h58 := F'.at' 58 _ rfl; go_simp)) ?_
  clear F a9
  intro a9 F
  refine fr_chT F [6, 7, 8, 9, 10] [(64, .pointer (some ⟨x.s, 1, none⟩)), (63, .pointer (some ⟨x.s, 0, none⟩)), (62, .pointer (some ⟨x.s, 0, none⟩)), (61, .bool false), (60, .bool false)] ⟨HK.at 0 rfl, (HMO.st x (find_mem HX).1).box⟩ (by kernel_rfl) ?_
  clear F a9
  intro a9 F
  refine fr_takeG (i := 11) (o := ⟨some 65, _, _, _, _, _⟩) F ⟨HK.at 0 rfl, (HMO.st x (find_mem HX).1).box⟩ rfl (by rw [wanted_at F rfl (t := 61) (b := false) (by kernel_rfl) rfl]; rfl) 65 rfl (by decide) (.int .i64 x.conn) (fun w9 hS => (by intro a' F'; have h64 := F'.at' 64 _ rfl; have hc : w9.cell? ⟨x.s, 1, none⟩ = some (.int .i64 x.conn) := hS.2.cells 1; go_simp)) ?_
  clear F a9
  intro a9 F
  refine fr_chT F [12] [(66, .pointer (some ⟨B, 2, none⟩))] ⟨HK.at 0 rfl, (HMO.st x (find_mem HX).1).box⟩ (by kernel_rfl) ?_
  clear F a9
  intro a9 F
  refine fr_takeG (i := 13) (o := ⟨some 67, _, _, _, _, _⟩) F ⟨HK.at 0 rfl, (HMO.st x (find_mem HX).1).box⟩ rfl (by rw [wanted_at F rfl (t := 61) (b := false) (by kernel_rfl) rfl]; rfl) 67 rfl (by decide) (.int .i64 n.conn) (fun w9 hS => (by intro a' F'; have h66 := F'.at' 66 _ rfl; have hc : w9.cell? ⟨B, 2, none⟩ = some (.int .i64 n.conn) := hS.1.cells 2; go_simp)) ?_
  clear F a9
  intro a9 F
  refine fr_takeG (i := 14) (o := ⟨some 68, _, _, _, _, _⟩) F ⟨HK.at 0 rfl, (HMO.st x (find_mem HX).1).box⟩ rfl (by rw [wanted_at F rfl (t := 61) (b := false) (by kernel_rfl) rfl]; rfl) 68 rfl (by decide) (.bool true) (fun w9 hS => (by intro a' F'; have h65 := F'.at' 65 _ rfl; have h67 := F'.at' 67 _ rfl; go_simp)) ?_
  clear F a9
  intro a9 F
  refine fr_chT F [15] [(69, .bool true)] ⟨HK.at 0 rfl, (HMO.st x (find_mem HX).1).box⟩ (by kernel_rfl) ?_
  clear F a9
  intro a9 F
  refine AnyT.done (by kernel_rfl) ?_ _
  refine NoPanic.normal ?_
  show Code.wp _ _ _ _ _
  refine wp_cond_true (F.ev 69 rfl) ?_
  replace F := F.cut [(7, .pointer (some ⟨x.s, 0, none⟩)), (6, .bool false), (5, .bool false), (4, .string ⟨#[]⟩), (3, .pointer (some ⟨B, 0, none⟩)), (0, .pointer (some ⟨m, 0, none⟩))] (by kernel_rfl)
  refine wp_seq ?_
  refine wp_region_lit ?_
  refine fr_ch F 3 [(6, .bool false), (5, .bool false), (4, .string ⟨#[]⟩)] (by kernel_rfl) ?_
  clear F a9
  intro a9 F
  refine wpList_nil ?_
  show Code.wp _ _ _ _ _
  have HA : applyS (absL L) n = ((e0, false, false), absL L) := by unfold applyS; rw [if_neg (by omega), if_neg (by omega), if_neg hty, absL_some HX]; dsimp only; rw [if_pos (Or.inr hxc)]
  refine wp_ret ?_
  exact fr_ret3t F rfl _ _ _ rfl rfl rfl (FIN.out _ _ _ L _ (by rw [HA]; rfl) (by rw [HA]) (by rw [HA]) (by rw [HA]) ⟨HMO, HK.sub (List.nil_sublist _) (fun r hr => hr), HON, fun k hk => Or.inl hk⟩)
end Go.Proofs.YtmppkgonkkffhaaDoor

