/- The walk of the reference's Only: a packet with those fields alone that its type has. Conditions: a machine's bounds on the packet's sizes. -/
import Derived.Test.YtfljdlaelanliaaDoorRefFields
import Derived.Test.YtfljdlaelanliaaDoorJoinC
import Derived.Test.YtfljdlaelanliaaDoorRefConnect
namespace Go.Proofs.YtfljdlaelanliaaDoor
open Go.RowKit
structure Bits where
  d : Bool
  r : Bool
  c : Bool
  e : Bool
  q : Bool
  i : Bool
  t : Bool
  p : Bool
  l : Bool
  o : Bool
  b : Bool
  m : Bool
/-- Those fields alone that the letters name. -/
def only1 (p : Pk) (B : Bits) : Pk := { p with dup := p.dup && B.d, ret := p.ret && B.r, clean := p.clean && B.c, present := p.present && B.e }
def only2 (p : Pk) (B : Bits) : Pk := if B.q then only1 p B else { only1 p B with qos := 0 }
def only3 (p : Pk) (B : Bits) : Pk := if B.i then only2 p B else { only2 p B with id := 0 }
def only4 (p : Pk) (B : Bits) : Pk := if B.t then only3 p B else { only3 p B with topic := e0 }
def only5 (p : Pk) (B : Bits) : Pk := if B.p then only4 p B else { only4 p B with payload := e0 }
def only6 (p : Pk) (B : Bits) : Pk := if B.l then only5 p B else { only5 p B with level := 0, keep := 0, client := e0, hasWill := false, wtopic := e0, wpayload := e0, wqos := 0, wret := false, hasUser := false, user := e0, hasPass := false, pass := e0 }
def only7 (p : Pk) (B : Bits) : Pk := if B.o then only6 p B else { only6 p B with code := 0 }
def only8 (p : Pk) (B : Bits) : Pk := if B.b then only7 p B else { only7 p B with subs := [] }
def only9 (p : Pk) (B : Bits) : Pk := if B.m then only8 p B else { only8 p B with codes := e0 }
set_option maxRecDepth 100000 in
set_option maxHeartbeats 4000000 in
theorem ref03_onlyB (p : Pk) (a : Option Addr) (c : Nat) (f : ByteArray) (B : Bits) (w0 : World) (hE : Env w0) (hF : ∀ w1, Calls Tryd.prog 75 #[.int .u8 (p.ty : Int)] w1 fun e w' => e = .returned (.string f) ∧ Below w1.heap.size w1 w') (hz : f.size ≤ 300000000)
    (xd : hasL (bl f) 100 = B.d) (xr : hasL (bl f) 114 = B.r) (xc : hasL (bl f) 99 = B.c) (xe : hasL (bl f) 101 = B.e) (xq : hasL (bl f) 113 = B.q) (xi : hasL (bl f) 105 = B.i) (xt : hasL (bl f) 116 = B.t) (xp : hasL (bl f) 112 = B.p) (xl : hasL (bl f) 108 = B.l) (xo : hasL (bl f) 111 = B.o) (xb : hasL (bl f) 98 = B.b) (xm : hasL (bl f) 109 = B.m) :
    Calls Tryd.prog 76 #[.agg (pkV p a c)] w0 fun e w' => e = .returned (.agg (pkV (only9 p B) (if B.b then a else none) (if B.b then c else 0))) ∧ Below w0.heap.size w0 w' := by
  have yd := fun w1 => has_lit f 100 100 rfl w1 hz
  rw [xd] at yd
  have Yd := Lib.hid yd
  have yr := fun w1 => has_lit f 114 114 rfl w1 hz
  rw [xr] at yr
  have Yr := Lib.hid yr
  have yc := fun w1 => has_lit f 99 99 rfl w1 hz
  rw [xc] at yc
  have Yc := Lib.hid yc
  have ye := fun w1 => has_lit f 101 101 rfl w1 hz
  rw [xe] at ye
  have Ye := Lib.hid ye
  have yq := fun w1 => has_lit f 113 113 rfl w1 hz
  rw [xq] at yq
  have Yq := Lib.hid yq
  have yi := fun w1 => has_lit f 105 105 rfl w1 hz
  rw [xi] at yi
  have Yi := Lib.hid yi
  have yt := fun w1 => has_lit f 116 116 rfl w1 hz
  rw [xt] at yt
  have Yt := Lib.hid yt
  have yp := fun w1 => has_lit f 112 112 rfl w1 hz
  rw [xp] at yp
  have Yp := Lib.hid yp
  have yl := fun w1 => has_lit f 108 108 rfl w1 hz
  rw [xl] at yl
  have Yl := Lib.hid yl
  have yo := fun w1 => has_lit f 111 111 rfl w1 hz
  rw [xo] at yo
  have Yo := Lib.hid yo
  have yb := fun w1 => has_lit f 98 98 rfl w1 hz
  rw [xb] at yb
  have Yb := Lib.hid yb
  have ym := fun w1 => has_lit f 109 109 rfl w1 hz
  rw [xm] at ym
  have Ym := Lib.hid ym
  have HF := Lib.hid hF
  clear hF hz xd yd xr yr xc yc xe ye xq yq xi yi xt yt xp yp xl yl xo yo xb yb xm ym
  have HK := Lib.hid (((Keep.begin hE [] (by intro r hr; cases hr)).alloc' (pkV p a c) 27 w0.heap.size rfl).alloc' (pkV Pk.zero none 0) 27 (w0.heap.size + 1) (by simp))
  clear hE
  obtain ⟨k0, k1, k2, k3, k4, k5, k6, k7, k8, k9, k10, k11, k12, k13, k14, k15, k16, k17, k18, k19, k20, k21, k22, k23⟩ := pk_at p a c
  go_enter Tryd.func76, Tryd.ntmps76
  go_upto_region 1 with (fail)
  show Code.wp _ _ _ _ ((w0.alloc (.cells (pkV p a c) 27)).alloc (.cells (pkV Pk.zero none 0) 27))
  generalize World.alloc (World.alloc w0 _) _ = w2 at HK ⊢
  have hX1 := (HK.out.at 1 rfl).cells
  go_upto_region 3 with (first
    | (go_at_call 75; refine Calls.mono (HF.out _) ?_; rintro e w4 ⟨rfl, hb1⟩; replace HK := Lib.hid (HK.out.below hb1); clear hb1 hX1)
    | ((with_reducible show wpList _ _ _ (⟨some 8, _, _, _, _, _⟩ :: _) _ _); refine wpList_load_box rfl 27 _ rfl _ rfl 27 _ (HK.out.at 1 rfl) _ Tryd.underlying27 rfl (pk_size _ _ _) ?_)
    | ((with_reducible show wpList _ _ _ (⟨some 4, .alloc 27, _, _, _, _⟩ :: _) _ _); obtain ⟨i0, z0, hi0, hz0, hs0, hc0⟩ := infoPkt; refine wpList_new rfl 27 rfl _ rfl rfl _ _ rfl rfl i0 z0 hi0 hz0 (pkV p a c) hs0 hc0 (pk_one _ _ _) rfl rfl ?_; replace HK := Lib.hid (HK.out.alloc (pkV p a c) 27); clear i0 z0 hi0 hz0 hs0 hc0; generalize hgw : World.alloc _ _ = w5 at HK ⊢; clear hgw))
  rename_i hK9
  clear k0 k1 k2 k3 k4 k5 k6 k7 k8 k9 k10 k11 k12 k13 k14 k15 k16 k17 k18 k19 k20 k21 k22 k23 HF
  generalize w4.heap.size = X at *
  refine wp_forget (n := 79) (L := [(1, .pointer (some ⟨w0.heap.size, 0, none⟩)), (2, .pointer (some ⟨w0.heap.size + 1, 0, none⟩)), (3, .string f), (4, .pointer (some ⟨X, 0, none⟩))]) (FrL.add (FrL.add (FrL.add (FrL.add (FrL.nil ?_ ?_) _ _ ?_) _ _ ?_) _ _ ?_) _ _ ?_) ?_
  iterate 6 rfl
  intro a9 F
  replace HK := HK.out
  refine wp_meet (fun a' w' => FrL 79 [(1, .pointer (some ⟨w0.heap.size, 0, none⟩)), (2, .pointer (some ⟨w0.heap.size + 1, 0, none⟩)), (3, .string f), (4, .pointer (some ⟨X, 0, none⟩))] a' ∧ Keep w0 [(X, pkV { p with dup := p.dup && B.d } a c, 27), (w0.heap.size + 1, pkV Pk.zero none 0, 27), (w0.heap.size, pkV p a c, 27)] [] w') ?_ ?_
  · refine wp_region_lit ?_
    refine fr_do F (wanted_free rfl) 9 rfl (by decide) (.pointer (some ⟨w0.heap.size, 1, none⟩)) (by intro a' F'; have h1 := F'.at' 1 _ rfl; go_simp) ?_
    clear F a9
    intro a9 F
    have hc := (HK.at 2 rfl).cells 1
    rw [show (pkV p a c)[1]? = some (.bool p.dup) from rfl] at hc
    refine fr_do F (wanted_free rfl) 10 rfl (by decide) (.bool p.dup) (by intro a' F'; have h9 := F'.at' 9 _ rfl; go_simp) ?_
    clear F a9
    intro a9 F
    refine fr_do F (wanted_free rfl) 11 rfl (by decide) (.bool p.dup) (by intro a' F'; have h10 := F'.at' 10 _ rfl; go_simp) ?_
    clear F a9
    intro a9 F
    clear hc
    obtain ⟨v, hv⟩ : ∃ v, p.dup = v := ⟨_, rfl⟩
    have HV := Lib.hid hv
    rw [hv] at F
    clear hv
    cases v
    · refine fr_left F (by rw [wanted_at F rfl (t := 11) (b := false) (by kernel_rfl) rfl]; rfl) 12 rfl (by decide) ?_
      clear F a9
      intro a9 F
      refine fr_left F (by rw [wanted_at F rfl (t := 11) (b := false) (by kernel_rfl) rfl]; rfl) 13 rfl (by decide) ?_
      clear F a9
      intro a9 F
      refine fr_do F (wanted_free rfl) 14 rfl (by decide) (.bool false) (by intro a' F'; have h11 := F'.at' 11 _ rfl; go_simp) ?_
      clear F a9
      intro a9 F
      refine fr_do F (wanted_free rfl) 15 rfl (by decide) (.pointer (some ⟨X, 1, none⟩)) (by intro a' F'; have h4 := F'.at' 4 _ rfl; go_simp) ?_
      clear F a9
      intro a9 F
      refine fr_put F HK 0 rfl rfl rfl 4 _ _ rfl 1 (.bool false) (fun a' F' => F'.ev 15 rfl) (fun a' F' => F'.ev 14 rfl) z_bool (Nat.le_of_ble_eq_true (by kernel_rfl)) (by kernel_rfl) ?_
      clear F HK a9
      intro a9 w9 F HK
      refine wpList_nil ?_
      refine ⟨F.keep [1, 2, 3, 4], ?_⟩
      rw [HV.out]
      exact HK

    · refine fr_do F (by rw [wanted_at F rfl (t := 11) (b := true) (by kernel_rfl) rfl]; rfl) 12 rfl (by decide) (.string f) (by intro a' F'; have h3 := F'.at' 3 _ rfl; go_simp) ?_
      clear F a9
      intro a9 F
      refine fr_ask F (by rw [wanted_at F rfl (t := 11) (b := true) (by kernel_rfl) rfl]; rfl) 13 rfl (by decide) 80 #[.string f, .int .u8 100] (by intro a' F'; have h1 := F'.at' 12 _ rfl; go_simp) (Yd.out _) ?_
      clear F a9
      intro a9 F
      refine fr_do F (wanted_free rfl) 14 rfl (by decide) (.bool B.d) (by intro a' F'; have h11 := F'.at' 11 _ rfl; have h13 := F'.at' 13 _ rfl; go_simp) ?_
      clear F a9
      intro a9 F
      refine fr_do F (wanted_free rfl) 15 rfl (by decide) (.pointer (some ⟨X, 1, none⟩)) (by intro a' F'; have h4 := F'.at' 4 _ rfl; go_simp) ?_
      clear F a9
      intro a9 F
      refine fr_put F HK 0 rfl rfl rfl 4 _ _ rfl 1 (.bool B.d) (fun a' F' => F'.ev 15 rfl) (fun a' F' => F'.ev 14 rfl) z_bool (Nat.le_of_ble_eq_true (by kernel_rfl)) (by kernel_rfl) ?_
      clear F HK a9
      intro a9 w9 F HK
      refine wpList_nil ?_
      refine ⟨F.keep [1, 2, 3, 4], ?_⟩
      rw [HV.out]
      exact HK


  clear F HK a9 w5
  rintro a9 w9 ⟨F, HK⟩
  refine hK9 _ _ ?_
  clear hK9
  refine wp_seq_meet (fun a' w' => FrL 79 [(1, .pointer (some ⟨w0.heap.size, 0, none⟩)), (2, .pointer (some ⟨w0.heap.size + 1, 0, none⟩)), (3, .string f), (4, .pointer (some ⟨X, 0, none⟩))] a' ∧ Keep w0 [(X, pkV { p with dup := p.dup && B.d, ret := p.ret && B.r } a c, 27), (w0.heap.size + 1, pkV Pk.zero none 0, 27), (w0.heap.size, pkV p a c, 27)] [] w') ?_ ?_
  · refine wp_region_lit ?_
    refine fr_do F (wanted_free rfl) 16 rfl (by decide) (.pointer (some ⟨w0.heap.size, 3, none⟩)) (by intro a' F'; have h1 := F'.at' 1 _ rfl; go_simp) ?_
    clear F a9
    intro a9 F
    have hc := (HK.at 2 rfl).cells 3
    rw [show (pkV p a c)[3]? = some (.bool p.ret) from rfl] at hc
    refine fr_do F (wanted_free rfl) 17 rfl (by decide) (.bool p.ret) (by intro a' F'; have h16 := F'.at' 16 _ rfl; go_simp) ?_
    clear F a9
    intro a9 F
    refine fr_do F (wanted_free rfl) 18 rfl (by decide) (.bool p.ret) (by intro a' F'; have h17 := F'.at' 17 _ rfl; go_simp) ?_
    clear F a9
    intro a9 F
    clear hc
    obtain ⟨v, hv⟩ : ∃ v, p.ret = v := ⟨_, rfl⟩
    have HV := Lib.hid hv
    rw [hv] at F
    clear hv
    cases v
    · refine fr_left F (by rw [wanted_at F rfl (t := 18) (b := false) (by kernel_rfl) rfl]; rfl) 19 rfl (by decide) ?_
      clear F a9
      intro a9 F
      refine fr_left F (by rw [wanted_at F rfl (t := 18) (b := false) (by kernel_rfl) rfl]; rfl) 20 rfl (by decide) ?_
      clear F a9
      intro a9 F
      refine fr_do F (wanted_free rfl) 21 rfl (by decide) (.bool false) (by intro a' F'; have h18 := F'.at' 18 _ rfl; go_simp) ?_
      clear F a9
      intro a9 F
      refine fr_do F (wanted_free rfl) 22 rfl (by decide) (.pointer (some ⟨X, 3, none⟩)) (by intro a' F'; have h4 := F'.at' 4 _ rfl; go_simp) ?_
      clear F a9
      intro a9 F
      refine fr_put F HK 0 rfl rfl rfl 4 _ _ rfl 3 (.bool false) (fun a' F' => F'.ev 22 rfl) (fun a' F' => F'.ev 21 rfl) z_bool (Nat.le_of_ble_eq_true (by kernel_rfl)) (by kernel_rfl) ?_
      clear F HK a9
      intro a9 w9 F HK
      refine wpList_nil ?_
      refine ⟨F.keep [1, 2, 3, 4], ?_⟩
      rw [HV.out]
      exact HK

    · refine fr_do F (by rw [wanted_at F rfl (t := 18) (b := true) (by kernel_rfl) rfl]; rfl) 19 rfl (by decide) (.string f) (by intro a' F'; have h3 := F'.at' 3 _ rfl; go_simp) ?_
      clear F a9
      intro a9 F
      refine fr_ask F (by rw [wanted_at F rfl (t := 18) (b := true) (by kernel_rfl) rfl]; rfl) 20 rfl (by decide) 80 #[.string f, .int .u8 114] (by intro a' F'; have h1 := F'.at' 19 _ rfl; go_simp) (Yr.out _) ?_
      clear F a9
      intro a9 F
      refine fr_do F (wanted_free rfl) 21 rfl (by decide) (.bool B.r) (by intro a' F'; have h18 := F'.at' 18 _ rfl; have h20 := F'.at' 20 _ rfl; go_simp) ?_
      clear F a9
      intro a9 F
      refine fr_do F (wanted_free rfl) 22 rfl (by decide) (.pointer (some ⟨X, 3, none⟩)) (by intro a' F'; have h4 := F'.at' 4 _ rfl; go_simp) ?_
      clear F a9
      intro a9 F
      refine fr_put F HK 0 rfl rfl rfl 4 _ _ rfl 3 (.bool B.r) (fun a' F' => F'.ev 22 rfl) (fun a' F' => F'.ev 21 rfl) z_bool (Nat.le_of_ble_eq_true (by kernel_rfl)) (by kernel_rfl) ?_
      clear F HK a9
      intro a9 w9 F HK
      refine wpList_nil ?_
      refine ⟨F.keep [1, 2, 3, 4], ?_⟩
      rw [HV.out]
      exact HK


  clear F HK a9 w9
  rintro a9 w9 ⟨F, HK⟩
  refine wp_seq_meet (fun a' w' => FrL 79 [(1, .pointer (some ⟨w0.heap.size, 0, none⟩)), (2, .pointer (some ⟨w0.heap.size + 1, 0, none⟩)), (3, .string f), (4, .pointer (some ⟨X, 0, none⟩))] a' ∧ Keep w0 [(X, pkV { p with dup := p.dup && B.d, ret := p.ret && B.r, clean := p.clean && B.c } a c, 27), (w0.heap.size + 1, pkV Pk.zero none 0, 27), (w0.heap.size, pkV p a c, 27)] [] w') ?_ ?_
  · refine wp_region_lit ?_
    refine fr_do F (wanted_free rfl) 23 rfl (by decide) (.pointer (some ⟨w0.heap.size, 8, none⟩)) (by intro a' F'; have h1 := F'.at' 1 _ rfl; go_simp) ?_
    clear F a9
    intro a9 F
    have hc := (HK.at 2 rfl).cells 8
    rw [show (pkV p a c)[8]? = some (.bool p.clean) from rfl] at hc
    refine fr_do F (wanted_free rfl) 24 rfl (by decide) (.bool p.clean) (by intro a' F'; have h23 := F'.at' 23 _ rfl; go_simp) ?_
    clear F a9
    intro a9 F
    refine fr_do F (wanted_free rfl) 25 rfl (by decide) (.bool p.clean) (by intro a' F'; have h24 := F'.at' 24 _ rfl; go_simp) ?_
    clear F a9
    intro a9 F
    clear hc
    obtain ⟨v, hv⟩ : ∃ v, p.clean = v := ⟨_, rfl⟩
    have HV := Lib.hid hv
    rw [hv] at F
    clear hv
    cases v
    · refine fr_left F (by rw [wanted_at F rfl (t := 25) (b := false) (by kernel_rfl) rfl]; rfl) 26 rfl (by decide) ?_
      clear F a9
      intro a9 F
      refine fr_left F (by rw [wanted_at F rfl (t := 25) (b := false) (by kernel_rfl) rfl]; rfl) 27 rfl (by decide) ?_
      clear F a9
      intro a9 F
      refine fr_do F (wanted_free rfl) 28 rfl (by decide) (.bool false) (by intro a' F'; have h25 := F'.at' 25 _ rfl; go_simp) ?_
      clear F a9
      intro a9 F
      refine fr_do F (wanted_free rfl) 29 rfl (by decide) (.pointer (some ⟨X, 8, none⟩)) (by intro a' F'; have h4 := F'.at' 4 _ rfl; go_simp) ?_
      clear F a9
      intro a9 F
      refine fr_put F HK 0 rfl rfl rfl 4 _ _ rfl 8 (.bool false) (fun a' F' => F'.ev 29 rfl) (fun a' F' => F'.ev 28 rfl) z_bool (Nat.le_of_ble_eq_true (by kernel_rfl)) (by kernel_rfl) ?_
      clear F HK a9
      intro a9 w9 F HK
      refine wpList_nil ?_
      refine ⟨F.keep [1, 2, 3, 4], ?_⟩
      rw [HV.out]
      exact HK

    · refine fr_do F (by rw [wanted_at F rfl (t := 25) (b := true) (by kernel_rfl) rfl]; rfl) 26 rfl (by decide) (.string f) (by intro a' F'; have h3 := F'.at' 3 _ rfl; go_simp) ?_
      clear F a9
      intro a9 F
      refine fr_ask F (by rw [wanted_at F rfl (t := 25) (b := true) (by kernel_rfl) rfl]; rfl) 27 rfl (by decide) 80 #[.string f, .int .u8 99] (by intro a' F'; have h1 := F'.at' 26 _ rfl; go_simp) (Yc.out _) ?_
      clear F a9
      intro a9 F
      refine fr_do F (wanted_free rfl) 28 rfl (by decide) (.bool B.c) (by intro a' F'; have h25 := F'.at' 25 _ rfl; have h27 := F'.at' 27 _ rfl; go_simp) ?_
      clear F a9
      intro a9 F
      refine fr_do F (wanted_free rfl) 29 rfl (by decide) (.pointer (some ⟨X, 8, none⟩)) (by intro a' F'; have h4 := F'.at' 4 _ rfl; go_simp) ?_
      clear F a9
      intro a9 F
      refine fr_put F HK 0 rfl rfl rfl 4 _ _ rfl 8 (.bool B.c) (fun a' F' => F'.ev 29 rfl) (fun a' F' => F'.ev 28 rfl) z_bool (Nat.le_of_ble_eq_true (by kernel_rfl)) (by kernel_rfl) ?_
      clear F HK a9
      intro a9 w9 F HK
      refine wpList_nil ?_
      refine ⟨F.keep [1, 2, 3, 4], ?_⟩
      rw [HV.out]
      exact HK


  clear F HK a9 w9
  rintro a9 w9 ⟨F, HK⟩
  refine wp_seq_meet (fun a' w' => FrL 79 [(1, .pointer (some ⟨w0.heap.size, 0, none⟩)), (2, .pointer (some ⟨w0.heap.size + 1, 0, none⟩)), (3, .string f), (4, .pointer (some ⟨X, 0, none⟩))] a' ∧ Keep w0 [(X, pkV (only1 p B) a c, 27), (w0.heap.size + 1, pkV Pk.zero none 0, 27), (w0.heap.size, pkV p a c, 27)] [] w') ?_ ?_
  · refine wp_region_lit ?_
    refine fr_do F (wanted_free rfl) 30 rfl (by decide) (.pointer (some ⟨w0.heap.size, 20, none⟩)) (by intro a' F'; have h1 := F'.at' 1 _ rfl; go_simp) ?_
    clear F a9
    intro a9 F
    have hc := (HK.at 2 rfl).cells 20
    rw [show (pkV p a c)[20]? = some (.bool p.present) from rfl] at hc
    refine fr_do F (wanted_free rfl) 31 rfl (by decide) (.bool p.present) (by intro a' F'; have h30 := F'.at' 30 _ rfl; go_simp) ?_
    clear F a9
    intro a9 F
    refine fr_do F (wanted_free rfl) 32 rfl (by decide) (.bool p.present) (by intro a' F'; have h31 := F'.at' 31 _ rfl; go_simp) ?_
    clear F a9
    intro a9 F
    clear hc
    obtain ⟨v, hv⟩ : ∃ v, p.present = v := ⟨_, rfl⟩
    have HV := Lib.hid hv
    rw [hv] at F
    clear hv
    cases v
    · refine fr_left F (by rw [wanted_at F rfl (t := 32) (b := false) (by kernel_rfl) rfl]; rfl) 33 rfl (by decide) ?_
      clear F a9
      intro a9 F
      refine fr_left F (by rw [wanted_at F rfl (t := 32) (b := false) (by kernel_rfl) rfl]; rfl) 34 rfl (by decide) ?_
      clear F a9
      intro a9 F
      refine fr_do F (wanted_free rfl) 35 rfl (by decide) (.bool false) (by intro a' F'; have h32 := F'.at' 32 _ rfl; go_simp) ?_
      clear F a9
      intro a9 F
      refine fr_do F (wanted_free rfl) 36 rfl (by decide) (.pointer (some ⟨X, 20, none⟩)) (by intro a' F'; have h4 := F'.at' 4 _ rfl; go_simp) ?_
      clear F a9
      intro a9 F
      refine fr_put F HK 0 rfl rfl rfl 4 _ _ rfl 20 (.bool false) (fun a' F' => F'.ev 36 rfl) (fun a' F' => F'.ev 35 rfl) z_bool (Nat.le_of_ble_eq_true (by kernel_rfl)) (by kernel_rfl) ?_
      clear F HK a9
      intro a9 w9 F HK
      refine wpList_nil ?_
      refine ⟨F.keep [1, 2, 3, 4], ?_⟩
      unfold only1
      rw [HV.out]
      exact HK

    · refine fr_do F (by rw [wanted_at F rfl (t := 32) (b := true) (by kernel_rfl) rfl]; rfl) 33 rfl (by decide) (.string f) (by intro a' F'; have h3 := F'.at' 3 _ rfl; go_simp) ?_
      clear F a9
      intro a9 F
      refine fr_ask F (by rw [wanted_at F rfl (t := 32) (b := true) (by kernel_rfl) rfl]; rfl) 34 rfl (by decide) 80 #[.string f, .int .u8 101] (by intro a' F'; have h1 := F'.at' 33 _ rfl; go_simp) (Ye.out _) ?_
      clear F a9
      intro a9 F
      refine fr_do F (wanted_free rfl) 35 rfl (by decide) (.bool B.e) (by intro a' F'; have h32 := F'.at' 32 _ rfl; have h34 := F'.at' 34 _ rfl; go_simp) ?_
      clear F a9
      intro a9 F
      refine fr_do F (wanted_free rfl) 36 rfl (by decide) (.pointer (some ⟨X, 20, none⟩)) (by intro a' F'; have h4 := F'.at' 4 _ rfl; go_simp) ?_
      clear F a9
      intro a9 F
      refine fr_put F HK 0 rfl rfl rfl 4 _ _ rfl 20 (.bool B.e) (fun a' F' => F'.ev 36 rfl) (fun a' F' => F'.ev 35 rfl) z_bool (Nat.le_of_ble_eq_true (by kernel_rfl)) (by kernel_rfl) ?_
      clear F HK a9
      intro a9 w9 F HK
      refine wpList_nil ?_
      refine ⟨F.keep [1, 2, 3, 4], ?_⟩
      unfold only1
      rw [HV.out]
      exact HK


  clear F HK a9 w9
  rintro a9 w9 ⟨F, HK⟩
  refine wp_seq_meet (fun a' w' => FrL 79 [(1, .pointer (some ⟨w0.heap.size, 0, none⟩)), (2, .pointer (some ⟨w0.heap.size + 1, 0, none⟩)), (3, .string f), (4, .pointer (some ⟨X, 0, none⟩))] a' ∧ Keep w0 [(X, pkV (only2 p B) a c, 27), (w0.heap.size + 1, pkV Pk.zero none 0, 27), (w0.heap.size, pkV p a c, 27)] [] w') ?_ ?_
  · have HQ := Lib.hid (show ∀ b, B.q = b → pkV (only2 p B) a c = if b then pkV (only1 p B) a c else pkV { only1 p B with qos := 0 } a c by rintro b rfl; unfold only2; cases B.q <;> rfl)
    obtain ⟨q, hq⟩ : ∃ q, only1 p B = q := ⟨_, rfl⟩
    rw [hq] at HQ HK
    refine wp_seq ?_
    refine wp_region_lit ?_
    refine fr_do F (wanted_free rfl) 37 rfl (by decide) (.string f) (by intro a' F'; have h3 := F'.at' 3 _ rfl; go_simp) ?_
    clear F a9
    intro a9 F
    refine fr_ask F (wanted_free rfl) 38 rfl (by decide) 80 #[.string f, .int .u8 113] (by intro a' F'; have h1 := F'.at' 37 _ rfl; go_simp) (Yq.out _) ?_
    clear F a9
    intro a9 F
    refine fr_do F (wanted_free rfl) 39 rfl (by decide) (.bool !B.q) (by intro a' F'; have h38 := F'.at' 38 _ rfl; go_simp) ?_
    clear F a9
    intro a9 F
    refine wpList_nil ?_
    show Code.wp _ _ _ _ _
    obtain ⟨x, hx⟩ : ∃ x, B.q = x := ⟨_, rfl⟩
    have HY := Lib.hid (HQ.out x hx)
    rw [hx] at F
    cases x
    · refine wp_cond_true (F.ev 39 rfl) ?_
      refine wp_region_lit ?_
      refine fr_do F (wanted_free rfl) 40 rfl (by decide) (.pointer (some ⟨X, 2, none⟩)) (by intro a' F'; have h4 := F'.at' 4 _ rfl; go_simp) ?_
      clear F a9
      intro a9 F
      refine fr_put F HK 0 rfl rfl rfl 5 _ _ rfl 2 (.int .u8 0) (fun a' F' => F'.ev 40 rfl) (fun a' F' => rfl) z_u8 (Nat.le_of_ble_eq_true (by kernel_rfl)) (by kernel_rfl) ?_
      clear F HK a9
      intro a9 w9 F HK
      have hc : setMany (pkV q a c) 2 (Value.cells (.int .u8 0)).toList = pkV { q with qos := 0 } a c := by kernel_rfl
      rw [hc] at HK
      clear hc
      refine wpList_nil ?_
      refine ⟨F.keep [1, 2, 3, 4], ?_⟩
      rw [HY.out]
      exact HK

    · refine wp_cond_false (F.ev 39 rfl) ?_
      refine wp_skip ?_
      refine ⟨F.keep [1, 2, 3, 4], ?_⟩
      rw [HY.out]
      exact HK

  clear F HK a9 w9
  rintro a9 w9 ⟨F, HK⟩
  refine wp_seq_meet (fun a' w' => FrL 79 [(1, .pointer (some ⟨w0.heap.size, 0, none⟩)), (2, .pointer (some ⟨w0.heap.size + 1, 0, none⟩)), (3, .string f), (4, .pointer (some ⟨X, 0, none⟩))] a' ∧ Keep w0 [(X, pkV (only3 p B) a c, 27), (w0.heap.size + 1, pkV Pk.zero none 0, 27), (w0.heap.size, pkV p a c, 27)] [] w') ?_ ?_
  · have HQ := Lib.hid (show ∀ b, B.i = b → pkV (only3 p B) a c = if b then pkV (only2 p B) a c else pkV { only2 p B with id := 0 } a c by rintro b rfl; unfold only3; cases B.i <;> rfl)
    obtain ⟨q, hq⟩ : ∃ q, only2 p B = q := ⟨_, rfl⟩
    rw [hq] at HQ HK
    refine wp_seq ?_
    refine wp_region_lit ?_
    refine fr_do F (wanted_free rfl) 41 rfl (by decide) (.string f) (by intro a' F'; have h3 := F'.at' 3 _ rfl; go_simp) ?_
    clear F a9
    intro a9 F
    refine fr_ask F (wanted_free rfl) 42 rfl (by decide) 80 #[.string f, .int .u8 105] (by intro a' F'; have h1 := F'.at' 41 _ rfl; go_simp) (Yi.out _) ?_
    clear F a9
    intro a9 F
    refine fr_do F (wanted_free rfl) 43 rfl (by decide) (.bool !B.i) (by intro a' F'; have h42 := F'.at' 42 _ rfl; go_simp) ?_
    clear F a9
    intro a9 F
    refine wpList_nil ?_
    show Code.wp _ _ _ _ _
    obtain ⟨x, hx⟩ : ∃ x, B.i = x := ⟨_, rfl⟩
    have HY := Lib.hid (HQ.out x hx)
    rw [hx] at F
    cases x
    · refine wp_cond_true (F.ev 43 rfl) ?_
      refine wp_region_lit ?_
      refine fr_do F (wanted_free rfl) 44 rfl (by decide) (.pointer (some ⟨X, 4, none⟩)) (by intro a' F'; have h4 := F'.at' 4 _ rfl; go_simp) ?_
      clear F a9
      intro a9 F
      refine fr_put F HK 0 rfl rfl rfl 22 _ _ rfl 4 (.int .u16 0) (fun a' F' => F'.ev 44 rfl) (fun a' F' => rfl) z_u16 (Nat.le_of_ble_eq_true (by kernel_rfl)) (by kernel_rfl) ?_
      clear F HK a9
      intro a9 w9 F HK
      have hc : setMany (pkV q a c) 4 (Value.cells (.int .u16 0)).toList = pkV { q with id := 0 } a c := by kernel_rfl
      rw [hc] at HK
      clear hc
      refine wpList_nil ?_
      refine ⟨F.keep [1, 2, 3, 4], ?_⟩
      rw [HY.out]
      exact HK

    · refine wp_cond_false (F.ev 43 rfl) ?_
      refine wp_skip ?_
      refine ⟨F.keep [1, 2, 3, 4], ?_⟩
      rw [HY.out]
      exact HK

  clear F HK a9 w9
  rintro a9 w9 ⟨F, HK⟩
  refine wp_seq_meet (fun a' w' => FrL 79 [(1, .pointer (some ⟨w0.heap.size, 0, none⟩)), (2, .pointer (some ⟨w0.heap.size + 1, 0, none⟩)), (3, .string f), (4, .pointer (some ⟨X, 0, none⟩))] a' ∧ Keep w0 [(X, pkV (only4 p B) a c, 27), (w0.heap.size + 1, pkV Pk.zero none 0, 27), (w0.heap.size, pkV p a c, 27)] [] w') ?_ ?_
  · have HQ := Lib.hid (show ∀ b, B.t = b → pkV (only4 p B) a c = if b then pkV (only3 p B) a c else pkV { only3 p B with topic := e0 } a c by rintro b rfl; unfold only4; cases B.t <;> rfl)
    obtain ⟨q, hq⟩ : ∃ q, only3 p B = q := ⟨_, rfl⟩
    rw [hq] at HQ HK
    refine wp_seq ?_
    refine wp_region_lit ?_
    refine fr_do F (wanted_free rfl) 45 rfl (by decide) (.string f) (by intro a' F'; have h3 := F'.at' 3 _ rfl; go_simp) ?_
    clear F a9
    intro a9 F
    refine fr_ask F (wanted_free rfl) 46 rfl (by decide) 80 #[.string f, .int .u8 116] (by intro a' F'; have h1 := F'.at' 45 _ rfl; go_simp) (Yt.out _) ?_
    clear F a9
    intro a9 F
    refine fr_do F (wanted_free rfl) 47 rfl (by decide) (.bool !B.t) (by intro a' F'; have h46 := F'.at' 46 _ rfl; go_simp) ?_
    clear F a9
    intro a9 F
    refine wpList_nil ?_
    show Code.wp _ _ _ _ _
    obtain ⟨x, hx⟩ : ∃ x, B.t = x := ⟨_, rfl⟩
    have HY := Lib.hid (HQ.out x hx)
    rw [hx] at F
    cases x
    · refine wp_cond_true (F.ev 47 rfl) ?_
      refine wp_region_lit ?_
      refine fr_do F (wanted_free rfl) 48 rfl (by decide) (.pointer (some ⟨X, 5, none⟩)) (by intro a' F'; have h4 := F'.at' 4 _ rfl; go_simp) ?_
      clear F a9
      intro a9 F
      refine fr_put F HK 0 rfl rfl rfl 9 _ _ rfl 5 (.string ⟨#[]⟩) (fun a' F' => F'.ev 48 rfl) (fun a' F' => rfl) z_str (Nat.le_of_ble_eq_true (by kernel_rfl)) (by kernel_rfl) ?_
      clear F HK a9
      intro a9 w9 F HK
      have hc : setMany (pkV q a c) 5 (Value.cells (.string ⟨#[]⟩)).toList = pkV { q with topic := e0 } a c := by kernel_rfl
      rw [hc] at HK
      clear hc
      refine wpList_nil ?_
      refine ⟨F.keep [1, 2, 3, 4], ?_⟩
      rw [HY.out]
      exact HK

    · refine wp_cond_false (F.ev 47 rfl) ?_
      refine wp_skip ?_
      refine ⟨F.keep [1, 2, 3, 4], ?_⟩
      rw [HY.out]
      exact HK

  clear F HK a9 w9
  rintro a9 w9 ⟨F, HK⟩
  refine wp_seq_meet (fun a' w' => FrL 79 [(1, .pointer (some ⟨w0.heap.size, 0, none⟩)), (2, .pointer (some ⟨w0.heap.size + 1, 0, none⟩)), (3, .string f), (4, .pointer (some ⟨X, 0, none⟩))] a' ∧ Keep w0 [(X, pkV (only5 p B) a c, 27), (w0.heap.size + 1, pkV Pk.zero none 0, 27), (w0.heap.size, pkV p a c, 27)] [] w') ?_ ?_
  · have HQ := Lib.hid (show ∀ b, B.p = b → pkV (only5 p B) a c = if b then pkV (only4 p B) a c else pkV { only4 p B with payload := e0 } a c by rintro b rfl; unfold only5; cases B.p <;> rfl)
    obtain ⟨q, hq⟩ : ∃ q, only4 p B = q := ⟨_, rfl⟩
    rw [hq] at HQ HK
    refine wp_seq ?_
    refine wp_region_lit ?_
    refine fr_do F (wanted_free rfl) 49 rfl (by decide) (.string f) (by intro a' F'; have h3 := F'.at' 3 _ rfl; go_simp) ?_
    clear F a9
    intro a9 F
    refine fr_ask F (wanted_free rfl) 50 rfl (by decide) 80 #[.string f, .int .u8 112] (by intro a' F'; have h1 := F'.at' 49 _ rfl; go_simp) (Yp.out _) ?_
    clear F a9
    intro a9 F
    refine fr_do F (wanted_free rfl) 51 rfl (by decide) (.bool !B.p) (by intro a' F'; have h50 := F'.at' 50 _ rfl; go_simp) ?_
    clear F a9
    intro a9 F
    refine wpList_nil ?_
    show Code.wp _ _ _ _ _
    obtain ⟨x, hx⟩ : ∃ x, B.p = x := ⟨_, rfl⟩
    have HY := Lib.hid (HQ.out x hx)
    rw [hx] at F
    cases x
    · refine wp_cond_true (F.ev 51 rfl) ?_
      refine wp_region_lit ?_
      refine fr_do F (wanted_free rfl) 52 rfl (by decide) (.pointer (some ⟨X, 6, none⟩)) (by intro a' F'; have h4 := F'.at' 4 _ rfl; go_simp) ?_
      clear F a9
      intro a9 F
      refine fr_put F HK 0 rfl rfl rfl 9 _ _ rfl 6 (.string ⟨#[]⟩) (fun a' F' => F'.ev 52 rfl) (fun a' F' => rfl) z_str (Nat.le_of_ble_eq_true (by kernel_rfl)) (by kernel_rfl) ?_
      clear F HK a9
      intro a9 w9 F HK
      have hc : setMany (pkV q a c) 6 (Value.cells (.string ⟨#[]⟩)).toList = pkV { q with payload := e0 } a c := by kernel_rfl
      rw [hc] at HK
      clear hc
      refine wpList_nil ?_
      refine ⟨F.keep [1, 2, 3, 4], ?_⟩
      rw [HY.out]
      exact HK

    · refine wp_cond_false (F.ev 51 rfl) ?_
      refine wp_skip ?_
      refine ⟨F.keep [1, 2, 3, 4], ?_⟩
      rw [HY.out]
      exact HK

  clear F HK a9 w9
  rintro a9 w9 ⟨F, HK⟩
  refine wp_seq_meet (fun a' w' => FrL 79 [(1, .pointer (some ⟨w0.heap.size, 0, none⟩)), (2, .pointer (some ⟨w0.heap.size + 1, 0, none⟩)), (3, .string f), (4, .pointer (some ⟨X, 0, none⟩))] a' ∧ Keep w0 [(X, pkV (only6 p B) a c, 27), (w0.heap.size + 1, pkV Pk.zero none 0, 27), (w0.heap.size, pkV p a c, 27)] [] w') ?_ ?_
  · have HQ := Lib.hid (show ∀ b, B.l = b → pkV (only6 p B) a c = if b then pkV (only5 p B) a c else pkV { only5 p B with level := 0, keep := 0, client := e0, hasWill := false, wtopic := e0, wpayload := e0, wqos := 0, wret := false, hasUser := false, user := e0, hasPass := false, pass := e0 } a c by rintro b rfl; unfold only6; cases B.l <;> rfl)
    obtain ⟨q, hq⟩ : ∃ q, only5 p B = q := ⟨_, rfl⟩
    rw [hq] at HQ HK
    refine wp_seq ?_
    refine wp_region_lit ?_
    refine fr_do F (wanted_free rfl) 53 rfl (by decide) (.string f) (by intro a' F'; have h3 := F'.at' 3 _ rfl; go_simp) ?_
    clear F a9
    intro a9 F
    refine fr_ask F (wanted_free rfl) 54 rfl (by decide) 80 #[.string f, .int .u8 108] (by intro a' F'; have h1 := F'.at' 53 _ rfl; go_simp) (Yl.out _) ?_
    clear F a9
    intro a9 F
    refine fr_do F (wanted_free rfl) 55 rfl (by decide) (.bool !B.l) (by intro a' F'; have h54 := F'.at' 54 _ rfl; go_simp) ?_
    clear F a9
    intro a9 F
    refine wpList_nil ?_
    show Code.wp _ _ _ _ _
    obtain ⟨x, hx⟩ : ∃ x, B.l = x := ⟨_, rfl⟩
    have HY := Lib.hid (HQ.out x hx)
    rw [hx] at F
    cases x
    · refine wp_cond_true (F.ev 55 rfl) ?_
      refine wp_seq ?_
      refine wp_region_lit ?_
      refine fr_do F (wanted_free rfl) 56 rfl (by decide) (.pointer (some ⟨X, 7, none⟩)) (by intro a' F'; have h4 := F'.at' 4 _ rfl; go_simp) ?_
      clear F a9
      intro a9 F
      refine fr_put F HK 0 rfl rfl rfl 5 _ _ rfl 7 (.int .u8 0) (fun a' F' => F'.ev 56 rfl) (fun a' F' => rfl) z_u8 (Nat.le_of_ble_eq_true (by kernel_rfl)) (by kernel_rfl) ?_
      clear F HK a9
      intro a9 w9 F HK
      have hc : setMany (pkV q a c) 7 (Value.cells (.int .u8 0)).toList = pkV { q with level := 0 } a c := by kernel_rfl
      rw [hc] at HK
      clear hc
      refine wpList_nil ?_
      show Code.wp _ _ _ _ _
      refine wp_seq ?_
      refine wp_region_lit ?_
      refine fr_do F (wanted_free rfl) 57 rfl (by decide) (.pointer (some ⟨X, 9, none⟩)) (by intro a' F'; have h4 := F'.at' 4 _ rfl; go_simp) ?_
      clear F a9
      intro a9 F
      refine fr_put F HK 0 rfl rfl rfl 22 _ _ rfl 9 (.int .u16 0) (fun a' F' => F'.ev 57 rfl) (fun a' F' => rfl) z_u16 (Nat.le_of_ble_eq_true (by kernel_rfl)) (by kernel_rfl) ?_
      clear F HK a9
      intro a9 w9 F HK
      have hc : setMany (pkV { q with level := 0 } a c) 9 (Value.cells (.int .u16 0)).toList = pkV { q with level := 0, keep := 0 } a c := by kernel_rfl
      rw [hc] at HK
      clear hc
      refine wpList_nil ?_
      show Code.wp _ _ _ _ _
      refine wp_seq ?_
      refine wp_region_lit ?_
      refine fr_do F (wanted_free rfl) 58 rfl (by decide) (.pointer (some ⟨X, 10, none⟩)) (by intro a' F'; have h4 := F'.at' 4 _ rfl; go_simp) ?_
      clear F a9
      intro a9 F
      refine fr_put F HK 0 rfl rfl rfl 9 _ _ rfl 10 (.string ⟨#[]⟩) (fun a' F' => F'.ev 58 rfl) (fun a' F' => rfl) z_str (Nat.le_of_ble_eq_true (by kernel_rfl)) (by kernel_rfl) ?_
      clear F HK a9
      intro a9 w9 F HK
      have hc : setMany (pkV { q with level := 0, keep := 0 } a c) 10 (Value.cells (.string ⟨#[]⟩)).toList = pkV { q with level := 0, keep := 0, client := e0 } a c := by kernel_rfl
      rw [hc] at HK
      clear hc
      refine wpList_nil ?_
      show Code.wp _ _ _ _ _
      refine wp_seq ?_
      refine wp_region_lit ?_
      refine fr_do F (wanted_free rfl) 59 rfl (by decide) (.pointer (some ⟨X, 11, none⟩)) (by intro a' F'; have h4 := F'.at' 4 _ rfl; go_simp) ?_
      clear F a9
      intro a9 F
      refine fr_put F HK 0 rfl rfl rfl 4 _ _ rfl 11 (.bool false) (fun a' F' => F'.ev 59 rfl) (fun a' F' => rfl) z_bool (Nat.le_of_ble_eq_true (by kernel_rfl)) (by kernel_rfl) ?_
      clear F HK a9
      intro a9 w9 F HK
      have hc : setMany (pkV { q with level := 0, keep := 0, client := e0 } a c) 11 (Value.cells (.bool false)).toList = pkV { q with level := 0, keep := 0, client := e0, hasWill := false } a c := by kernel_rfl
      rw [hc] at HK
      clear hc
      refine wpList_nil ?_
      show Code.wp _ _ _ _ _
      refine wp_seq ?_
      refine wp_region_lit ?_
      refine fr_do F (wanted_free rfl) 60 rfl (by decide) (.agg (msgV e0 e0 0 false)) (by intro a' F'; exact run_build_to rfl (by kernel_rfl)) ?_
      clear F a9
      intro a9 F
      refine fr_do F (wanted_free rfl) 61 rfl (by decide) (.pointer (some ⟨X, 12, none⟩)) (by intro a' F'; have h4 := F'.at' 4 _ rfl; go_simp) ?_
      clear F a9
      intro a9 F
      refine fr_put F HK 0 rfl rfl rfl 24 _ _ rfl 12 (.agg (msgV e0 e0 0 false)) (fun a' F' => F'.ev 61 rfl) (fun a' F' => F'.ev 60 rfl) z_msg (Nat.le_of_ble_eq_true (by kernel_rfl)) (by kernel_rfl) ?_
      clear F HK a9
      intro a9 w9 F HK
      have hc : setMany (pkV { q with level := 0, keep := 0, client := e0, hasWill := false } a c) 12 (Value.cells (.agg (msgV e0 e0 0 false))).toList = pkV { q with level := 0, keep := 0, client := e0, hasWill := false, wtopic := e0, wpayload := e0, wqos := 0, wret := false } a c := by kernel_rfl
      rw [hc] at HK
      clear hc
      refine wpList_nil ?_
      show Code.wp _ _ _ _ _
      refine wp_seq ?_
      refine wp_region_lit ?_
      refine fr_do F (wanted_free rfl) 62 rfl (by decide) (.pointer (some ⟨X, 16, none⟩)) (by intro a' F'; have h4 := F'.at' 4 _ rfl; go_simp) ?_
      clear F a9
      intro a9 F
      refine fr_put F HK 0 rfl rfl rfl 4 _ _ rfl 16 (.bool false) (fun a' F' => F'.ev 62 rfl) (fun a' F' => rfl) z_bool (Nat.le_of_ble_eq_true (by kernel_rfl)) (by kernel_rfl) ?_
      clear F HK a9
      intro a9 w9 F HK
      have hc : setMany (pkV { q with level := 0, keep := 0, client := e0, hasWill := false, wtopic := e0, wpayload := e0, wqos := 0, wret := false } a c) 16 (Value.cells (.bool false)).toList = pkV { q with level := 0, keep := 0, client := e0, hasWill := false, wtopic := e0, wpayload := e0, wqos := 0, wret := false, hasUser := false } a c := by kernel_rfl
      rw [hc] at HK
      clear hc
      refine wpList_nil ?_
      show Code.wp _ _ _ _ _
      refine wp_seq ?_
      refine wp_region_lit ?_
      refine fr_do F (wanted_free rfl) 63 rfl (by decide) (.pointer (some ⟨X, 18, none⟩)) (by intro a' F'; have h4 := F'.at' 4 _ rfl; go_simp) ?_
      clear F a9
      intro a9 F
      refine fr_put F HK 0 rfl rfl rfl 9 _ _ rfl 18 (.string ⟨#[]⟩) (fun a' F' => F'.ev 63 rfl) (fun a' F' => rfl) z_str (Nat.le_of_ble_eq_true (by kernel_rfl)) (by kernel_rfl) ?_
      clear F HK a9
      intro a9 w9 F HK
      have hc : setMany (pkV { q with level := 0, keep := 0, client := e0, hasWill := false, wtopic := e0, wpayload := e0, wqos := 0, wret := false, hasUser := false } a c) 18 (Value.cells (.string ⟨#[]⟩)).toList = pkV { q with level := 0, keep := 0, client := e0, hasWill := false, wtopic := e0, wpayload := e0, wqos := 0, wret := false, hasUser := false, user := e0 } a c := by kernel_rfl
      rw [hc] at HK
      clear hc
      refine wpList_nil ?_
      show Code.wp _ _ _ _ _
      refine wp_seq ?_
      refine wp_region_lit ?_
      refine fr_do F (wanted_free rfl) 64 rfl (by decide) (.pointer (some ⟨X, 17, none⟩)) (by intro a' F'; have h4 := F'.at' 4 _ rfl; go_simp) ?_
      clear F a9
      intro a9 F
      refine fr_put F HK 0 rfl rfl rfl 4 _ _ rfl 17 (.bool false) (fun a' F' => F'.ev 64 rfl) (fun a' F' => rfl) z_bool (Nat.le_of_ble_eq_true (by kernel_rfl)) (by kernel_rfl) ?_
      clear F HK a9
      intro a9 w9 F HK
      have hc : setMany (pkV { q with level := 0, keep := 0, client := e0, hasWill := false, wtopic := e0, wpayload := e0, wqos := 0, wret := false, hasUser := false, user := e0 } a c) 17 (Value.cells (.bool false)).toList = pkV { q with level := 0, keep := 0, client := e0, hasWill := false, wtopic := e0, wpayload := e0, wqos := 0, wret := false, hasUser := false, user := e0, hasPass := false } a c := by kernel_rfl
      rw [hc] at HK
      clear hc
      refine wpList_nil ?_
      show Code.wp _ _ _ _ _
      refine wp_region_lit ?_
      refine fr_do F (wanted_free rfl) 65 rfl (by decide) (.pointer (some ⟨X, 19, none⟩)) (by intro a' F'; have h4 := F'.at' 4 _ rfl; go_simp) ?_
      clear F a9
      intro a9 F
      refine fr_put F HK 0 rfl rfl rfl 9 _ _ rfl 19 (.string ⟨#[]⟩) (fun a' F' => F'.ev 65 rfl) (fun a' F' => rfl) z_str (Nat.le_of_ble_eq_true (by kernel_rfl)) (by kernel_rfl) ?_
      clear F HK a9
      intro a9 w9 F HK
      have hc : setMany (pkV { q with level := 0, keep := 0, client := e0, hasWill := false, wtopic := e0, wpayload := e0, wqos := 0, wret := false, hasUser := false, user := e0, hasPass := false } a c) 19 (Value.cells (.string ⟨#[]⟩)).toList = pkV { q with level := 0, keep := 0, client := e0, hasWill := false, wtopic := e0, wpayload := e0, wqos := 0, wret := false, hasUser := false, user := e0, hasPass := false, pass := e0 } a c := by kernel_rfl
      rw [hc] at HK
      clear hc
      refine wpList_nil ?_
      refine ⟨F.keep [1, 2, 3, 4], ?_⟩
      rw [HY.out]
      exact HK

    · refine wp_cond_false (F.ev 55 rfl) ?_
      refine wp_skip ?_
      refine ⟨F.keep [1, 2, 3, 4], ?_⟩
      rw [HY.out]
      exact HK

  clear F HK a9 w9
  rintro a9 w9 ⟨F, HK⟩
  refine wp_seq_meet (fun a' w' => FrL 79 [(1, .pointer (some ⟨w0.heap.size, 0, none⟩)), (2, .pointer (some ⟨w0.heap.size + 1, 0, none⟩)), (3, .string f), (4, .pointer (some ⟨X, 0, none⟩))] a' ∧ Keep w0 [(X, pkV (only7 p B) a c, 27), (w0.heap.size + 1, pkV Pk.zero none 0, 27), (w0.heap.size, pkV p a c, 27)] [] w') ?_ ?_
  · have HQ := Lib.hid (show ∀ b, B.o = b → pkV (only7 p B) a c = if b then pkV (only6 p B) a c else pkV { only6 p B with code := 0 } a c by rintro b rfl; unfold only7; cases B.o <;> rfl)
    obtain ⟨q, hq⟩ : ∃ q, only6 p B = q := ⟨_, rfl⟩
    rw [hq] at HQ HK
    refine wp_seq ?_
    refine wp_region_lit ?_
    refine fr_do F (wanted_free rfl) 66 rfl (by decide) (.string f) (by intro a' F'; have h3 := F'.at' 3 _ rfl; go_simp) ?_
    clear F a9
    intro a9 F
    refine fr_ask F (wanted_free rfl) 67 rfl (by decide) 80 #[.string f, .int .u8 111] (by intro a' F'; have h1 := F'.at' 66 _ rfl; go_simp) (Yo.out _) ?_
    clear F a9
    intro a9 F
    refine fr_do F (wanted_free rfl) 68 rfl (by decide) (.bool !B.o) (by intro a' F'; have h67 := F'.at' 67 _ rfl; go_simp) ?_
    clear F a9
    intro a9 F
    refine wpList_nil ?_
    show Code.wp _ _ _ _ _
    obtain ⟨x, hx⟩ : ∃ x, B.o = x := ⟨_, rfl⟩
    have HY := Lib.hid (HQ.out x hx)
    rw [hx] at F
    cases x
    · refine wp_cond_true (F.ev 68 rfl) ?_
      refine wp_region_lit ?_
      refine fr_do F (wanted_free rfl) 69 rfl (by decide) (.pointer (some ⟨X, 21, none⟩)) (by intro a' F'; have h4 := F'.at' 4 _ rfl; go_simp) ?_
      clear F a9
      intro a9 F
      refine fr_put F HK 0 rfl rfl rfl 5 _ _ rfl 21 (.int .u8 0) (fun a' F' => F'.ev 69 rfl) (fun a' F' => rfl) z_u8 (Nat.le_of_ble_eq_true (by kernel_rfl)) (by kernel_rfl) ?_
      clear F HK a9
      intro a9 w9 F HK
      have hc : setMany (pkV q a c) 21 (Value.cells (.int .u8 0)).toList = pkV { q with code := 0 } a c := by kernel_rfl
      rw [hc] at HK
      clear hc
      refine wpList_nil ?_
      refine ⟨F.keep [1, 2, 3, 4], ?_⟩
      rw [HY.out]
      exact HK

    · refine wp_cond_false (F.ev 68 rfl) ?_
      refine wp_skip ?_
      refine ⟨F.keep [1, 2, 3, 4], ?_⟩
      rw [HY.out]
      exact HK

  clear F HK a9 w9
  rintro a9 w9 ⟨F, HK⟩
  refine wp_seq_meet (fun a' w' => FrL 79 [(1, .pointer (some ⟨w0.heap.size, 0, none⟩)), (2, .pointer (some ⟨w0.heap.size + 1, 0, none⟩)), (3, .string f), (4, .pointer (some ⟨X, 0, none⟩))] a' ∧ Keep w0 [(X, pkV (only8 p B) (if B.b then a else none) (if B.b then c else 0), 27), (w0.heap.size + 1, pkV Pk.zero none 0, 27), (w0.heap.size, pkV p a c, 27)] [] w') ?_ ?_
  · have HQ := Lib.hid (show ∀ b, B.b = b → pkV (only8 p B) (if B.b then a else none) (if B.b then c else 0) = if b then pkV (only7 p B) a c else pkV { only7 p B with subs := [] } none 0 by rintro b rfl; unfold only8; cases B.b <;> rfl)
    obtain ⟨q, hq⟩ : ∃ q, only7 p B = q := ⟨_, rfl⟩
    rw [hq] at HQ HK
    refine wp_seq ?_
    refine wp_region_lit ?_
    refine fr_do F (wanted_free rfl) 70 rfl (by decide) (.string f) (by intro a' F'; have h3 := F'.at' 3 _ rfl; go_simp) ?_
    clear F a9
    intro a9 F
    refine fr_ask F (wanted_free rfl) 71 rfl (by decide) 80 #[.string f, .int .u8 98] (by intro a' F'; have h1 := F'.at' 70 _ rfl; go_simp) (Yb.out _) ?_
    clear F a9
    intro a9 F
    refine fr_do F (wanted_free rfl) 72 rfl (by decide) (.bool !B.b) (by intro a' F'; have h71 := F'.at' 71 _ rfl; go_simp) ?_
    clear F a9
    intro a9 F
    refine wpList_nil ?_
    show Code.wp _ _ _ _ _
    obtain ⟨x, hx⟩ : ∃ x, B.b = x := ⟨_, rfl⟩
    have HY := Lib.hid (HQ.out x hx)
    rw [hx] at F
    cases x
    · refine wp_cond_true (F.ev 72 rfl) ?_
      refine wp_region_lit ?_
      refine fr_do F (wanted_free rfl) 73 rfl (by decide) (.pointer (some ⟨X, 22, none⟩)) (by intro a' F'; have h4 := F'.at' 4 _ rfl; go_simp) ?_
      clear F a9
      intro a9 F
      refine fr_put F HK 0 rfl rfl rfl 25 _ _ rfl 22 (.slice none 0 0) (fun a' F' => F'.ev 73 rfl) (fun a' F' => rfl) z_subs (Nat.le_of_ble_eq_true (by kernel_rfl)) (by kernel_rfl) ?_
      clear F HK a9
      intro a9 w9 F HK
      have hc : setMany (pkV q a c) 22 (Value.cells (.slice none 0 0)).toList = pkV { q with subs := [] } none 0 := by kernel_rfl
      rw [hc] at HK
      clear hc
      refine wpList_nil ?_
      refine ⟨F.keep [1, 2, 3, 4], ?_⟩
      rw [HY.out]
      exact HK

    · refine wp_cond_false (F.ev 72 rfl) ?_
      refine wp_skip ?_
      refine ⟨F.keep [1, 2, 3, 4], ?_⟩
      rw [HY.out]
      exact HK

  clear F HK a9 w9
  rintro a9 w9 ⟨F, HK⟩
  refine wp_seq_meet (fun a' w' => FrL 79 [(1, .pointer (some ⟨w0.heap.size, 0, none⟩)), (2, .pointer (some ⟨w0.heap.size + 1, 0, none⟩)), (3, .string f), (4, .pointer (some ⟨X, 0, none⟩))] a' ∧ Keep w0 [(X, pkV (only9 p B) (if B.b then a else none) (if B.b then c else 0), 27), (w0.heap.size + 1, pkV Pk.zero none 0, 27), (w0.heap.size, pkV p a c, 27)] [] w') ?_ ?_
  · have HQ := Lib.hid (show ∀ b, B.m = b → pkV (only9 p B) (if B.b then a else none) (if B.b then c else 0) = if b then pkV (only8 p B) (if B.b then a else none) (if B.b then c else 0) else pkV { only8 p B with codes := e0 } (if B.b then a else none) (if B.b then c else 0) by rintro b rfl; unfold only9; cases B.m <;> rfl)
    obtain ⟨q, hq⟩ : ∃ q, only8 p B = q := ⟨_, rfl⟩
    rw [hq] at HQ HK
    refine wp_seq ?_
    refine wp_region_lit ?_
    refine fr_do F (wanted_free rfl) 74 rfl (by decide) (.string f) (by intro a' F'; have h3 := F'.at' 3 _ rfl; go_simp) ?_
    clear F a9
    intro a9 F
    refine fr_ask F (wanted_free rfl) 75 rfl (by decide) 80 #[.string f, .int .u8 109] (by intro a' F'; have h1 := F'.at' 74 _ rfl; go_simp) (Ym.out _) ?_
    clear F a9
    intro a9 F
    refine fr_do F (wanted_free rfl) 76 rfl (by decide) (.bool !B.m) (by intro a' F'; have h75 := F'.at' 75 _ rfl; go_simp) ?_
    clear F a9
    intro a9 F
    refine wpList_nil ?_
    show Code.wp _ _ _ _ _
    obtain ⟨x, hx⟩ : ∃ x, B.m = x := ⟨_, rfl⟩
    have HY := Lib.hid (HQ.out x hx)
    rw [hx] at F
    cases x
    · refine wp_cond_true (F.ev 76 rfl) ?_
      refine wp_region_lit ?_
      refine fr_do F (wanted_free rfl) 77 rfl (by decide) (.pointer (some ⟨X, 23, none⟩)) (by intro a' F'; have h4 := F'.at' 4 _ rfl; go_simp) ?_
      clear F a9
      intro a9 F
      refine fr_put F HK 0 rfl rfl rfl 9 _ _ rfl 23 (.string ⟨#[]⟩) (fun a' F' => F'.ev 77 rfl) (fun a' F' => rfl) z_str (Nat.le_of_ble_eq_true (by kernel_rfl)) (by kernel_rfl) ?_
      clear F HK a9
      intro a9 w9 F HK
      have hc : setMany (pkV q (if B.b then a else none) (if B.b then c else 0)) 23 (Value.cells (.string ⟨#[]⟩)).toList = pkV { q with codes := e0 } (if B.b then a else none) (if B.b then c else 0) := by kernel_rfl
      rw [hc] at HK
      clear hc
      refine wpList_nil ?_
      refine ⟨F.keep [1, 2, 3, 4], ?_⟩
      rw [HY.out]
      exact HK

    · refine wp_cond_false (F.ev 76 rfl) ?_
      refine wp_skip ?_
      refine ⟨F.keep [1, 2, 3, 4], ?_⟩
      rw [HY.out]
      exact HK

  clear F HK a9 w9
  rintro a9 w9 ⟨F, HK⟩
  refine wp_seq ?_
  refine wp_region_lit ?_
  refine fr_do F (wanted_free rfl) 78 rfl (by decide) (.agg (pkV (only9 p B) (if B.b then a else none) (if B.b then c else 0))) (by intro a' F'; exact run_load_box rfl (F'.ev 4 rfl) (HK.at 0 rfl) Tryd.underlying27 rfl (pk_size _ _ _)) ?_
  clear F a9
  intro a9 F
  refine fr_store F HK 1 rfl rfl rfl 27 _ _ rfl (pkV (only9 p B) (if B.b then a else none) (if B.b then c else 0)) (fun a' F' => F'.ev 2 rfl) (fun a' F' => F'.ev 78 rfl) (pk_size _ _ _) rfl (pk_one _ _ _) ?_
  clear F HK a9 w9
  intro a9 w9 F HK
  refine wpList_nil ?_
  refine wp_ret ?_
  exact bodyPost_ret (results_cell_row rfl _ _ (w0.heap.size + 1) 27 _ (0, 0) _ (F.ev 2 rfl) (HK.at 1 rfl) Tryd.underlying27 rfl (pk_size _ _ _)) F.defers ⟨rfl, HK.low⟩
end Go.Proofs.YtfljdlaelanliaaDoor
