import Derived.Test.YtnnpokndajpkiaaGreatDoorJoinB
import Derived.Test.YtnnpokndajpkiaaGreatDoorJoinC
import Derived.Lib.AppendStr
namespace Go.Proofs.YtnnpokndajpkiaaGreatDoor
open Go.RowKit
def u8V (L : Bs) : List Value := L.map fun b => Value.int .u8 (b.toNat : Int)
theorem u8V_append (A B : Bs) : u8V (A ++ B) = u8V A ++ u8V B := List.map_append
theorem u8V_one (A : Bs) : ∀ u ∈ u8V A, u.oneCell' = true := by
  intro u hu; obtain ⟨n, _, rfl⟩ := List.mem_map.1 hu; rfl
theorem u8V_nat (A : Bs) : u8V A = natV (A.map UInt8.toNat) := by unfold u8V natV; rw [List.map_map]; rfl
def bB (L : Bs) : ByteArray := ⟨L.toArray⟩
theorem bl_bB (L : Bs) : bl (bB L) = L := rfl
theorem bB_size (L : Bs) : (bB L).size = L.length := rfl
theorem strN_u8 (A : Bs) : strN (A.map UInt8.toNat) = bB A := by
  unfold strN bB; rw [List.map_map]; have : (UInt8.ofNat ∘ UInt8.toNat) = id := by funext x; simp
  rw [this, List.map_id]
def Out (w : World) (B : Nat) (v : Value) (L : Bs) : Prop := w.ownsRow B 5 1 v L.length (u8V L)
def OnlyU (B : Nat) (w w' : World) : Prop := Only (fun j => B ≤ j ∧ ∃ cur fr, w.heap[j]? = some (.cells cur 5 fr)) w w'
theorem OnlyU.refl (B : Nat) (w : World) : OnlyU B w w := Only.refl _ _
theorem OnlyU.trans {B : Nat} {a b c : World} (h : OnlyU B a b) (k : OnlyU B b c) : OnlyU B a c :=
  Only.trans h k (fun j hj ⟨h1, cur, fr, h2⟩ => by
    refine ⟨h1, ?_⟩; by_cases hF : B ≤ j ∧ ∃ cur fr, a.heap[j]? = some (.cells cur 5 fr)
    · exact hF.2
    · rw [h.block j hj hF] at h2
      exact ⟨cur, fr, h2⟩)
theorem OnlyU.of_below {B : Nat} {w w' : World} (h : Below w.heap.size w w') : OnlyU B w w' := Only.of_below h _
theorem OnlyU.then {B : Nat} {a b c : World} (h : OnlyU B a b) (k : Below b.heap.size b c) : OnlyU B a c := h.trans (OnlyU.of_below k)
theorem OnlyU.low {B : Nat} {w w' : World} (h : OnlyU B w w') (hB : B ≤ w.heap.size) : Below B w w' := Only.below h hB (fun _ hk => hk.1)
theorem OnlyU.box {B : Nat} {w w' : World} (h : OnlyU B w w') {X : Nat} {cs : Array Value} {T : TypeId} (hb : BoxAt w X cs T) (hT : T ≠ 5) : BoxAt w' X cs T :=
  hb.only h (fun ⟨_, cur, fr, e⟩ => by
    unfold BoxAt at hb; rw [hb] at e; injection e with e
    injection e with _ e _
    exact hT e)
theorem own_u8 {w : World} {B n : Nat} {v : Value} {xs : List Value} (h : w.ownsRow B 5 1 v n xs) {g : Nat} (hg : v.ownBlock = some g) : B ≤ g ∧ ∃ cur fr, w.heap[g]? = some (.cells cur 5 fr) := by
  rcases h.2 with ⟨rfl, _⟩ | ⟨g', cap, cur, rfl, hB, hh, _⟩
  · simp [Value.ownBlock] at hg
  · have : g' = g := by simpa [Value.ownBlock] using hg
    subst this; exact ⟨hB, cur, _, hh⟩
theorem OnlyU.grown {B n : Nat} {w w' : World} {v : Value} {xs : List Value} (h : w.ownsRow B 5 1 v n xs) (k : w.grownBy w' v.ownBlock) : OnlyU B w w' :=
  (only_grown k).weaken (fun _j hj => own_u8 h hj)
theorem Out.below {w w' : World} {B : Nat} {v : Value} {L : Bs} (h : Out w B v L) (k : Below w.heap.size w w') : Out w' B v L := own_only h (Only.of_below k (fun _ => False)) (fun _ _ h => h)
theorem num_Size (n : Nat) (h : n ≤ 268435455) (w : World) : Calls Tryz.prog 138 #[.int .i64 (n : Int)] w fun e w' => e = .returned (.int .i64 (lenS n : Nat)) ∧ w = w' := by
  have FIN := Lib.hid (show ∀ (k : Int), ((lenS n : Nat) : Int) = k → Ending.returned (.int .i64 k) = .returned (.int .i64 (lenS n : Nat)) from by rintro k rfl; rfl); have HB := Lib.hid h; go_enter Tryz.func138, Tryz.ntmps138
  go_wp2_with fail
  go_loopw [0, 3] (fun m s wr => ∃ (x k : Nat), x ≤ 268435455 ∧ k ≤ 4 ∧ m = .int .i64 (x : Int) ∧ s = .int .i64 (k : Int) ∧ Hid (k + lenS x = lenS n + 1) ∧ w = wr) (fun m _ _ => (intOf m).toNat)
  case atStart => exact ⟨n, 1, h, by omega, rfl, rfl, by unfold Hid; omega, rfl⟩
  case round =>
    obtain ⟨x, k, hx, hk, rfl, rfl, HP, rfl⟩ := hrel; by_cases hl : 128 ≤ x
    · have hi : (128 : Int) ≤ (x : Int) := by omega
      have HQ := Lib.hid (show k + 1 + lenS (x / 128) = lenS n + 1 by
        have h1 := HP.out; unfold lenS at h1 ⊢
        (repeat' split at h1) <;> (repeat' split) <;> omega)
      have hk4 : k + 1 ≤ 4 := by
        have h1 := HQ.out; have : lenS n ≤ 4 := by unfold lenS; (repeat' split) <;> omega
        have : 1 ≤ lenS (x / 128) := by unfold lenS; (repeat' split) <;> omega
        omega
      go_wp2_with fail
      go_roundw
      case rel => exact ⟨x / 128, k + 1, by omega, hk4, by first | rfl | go_num | (congr 1; omega), by first | rfl | go_num, HQ, by first | rfl | trivial⟩
      case measure => simp [intOf]; omega
    · have hi : ¬ (128 : Int) ≤ (x : Int) := by omega
      have HQ := Lib.hid (show ((lenS n : Nat) : Int) = (k : Int) by
        have h1 := HP.out; have : lenS x = 1 := by unfold lenS; rw [if_pos (by omega)]
        omega)
      go_wp2_with fail
      go_ret
      exact ⟨FIN.out _ HQ.out, rfl⟩
end Go.Proofs.YtnnpokndajpkiaaGreatDoor
namespace Go.Proofs.YtnnpokndajpkiaaGreatDoor
open Go.RowKit
theorem byteN_toNat (n : Nat) : (byteN n).toNat = n % 256 := by simp [byteN]
theorem u8V_word (n : Nat) (h : n ≤ 65535) : u8V (wordB n) = [.int .u8 ((n / 256 : Nat) : Int), .int .u8 ((n % 256 : Nat) : Int)] := by
  unfold u8V wordB; simp only [List.map_cons, List.map_nil, byteN_toNat, Nat.mod_mod]; rw [Nat.mod_eq_of_lt (show n / 256 < 256 by omega)]
set_option maxRecDepth 100000 in
set_option maxHeartbeats 1000000 in
theorem num_Words (n : Nat) (h : n ≤ 65535) (b o : Nat) (w : World) (hc : w.cell? ⟨b, o, none⟩ = some (.int .i64 (n : Int))) : Calls Tryz.prog 155 #[.slice (some ⟨b, o, none⟩) 1 1] w fun e w' => e = .returned (.tuple #[.string (bB (wordB n)), .int .i64 0]) ∧ Below w.heap.size w w' := by
  obtain ⟨i0, hi, hz0, hz1, hz2⟩ := info_parts infoU8; have HW := Lib.hid (u8V_word n h); have n1 : (n : Int) ≤ 65535 := by omega
  have hb := World.block_lt_of_cell? _ _ hc; dsimp only at hb
  go_enter Tryz.func155, Tryz.ntmps155
  have FIN := Lib.hid (show ∀ (s : ByteArray) (w' : World), bB (wordB n) = s → Below w.heap.size w w' → Ending.returned (.tuple #[.string s, .int .i64 0]) = .returned (.tuple #[.string (bB (wordB n)), .int .i64 0]) ∧ Below w.heap.size w w' from by rintro s w' rfl h; exact ⟨rfl, h⟩); go_wp2_with (at_make; refine wpList_make_own _ rfl _ _ _ rfl w.heap.size 5 i0 _ 1 Tryz.underlying22 hi hz0 hz1 .i64 .i64 _ 2 rfl rfl rfl (by rw [hz2]; omega) (by unfold maxLen; omega) (Nat.le_refl _) ?_; intro v1 hown1 hg1; have HO := Lib.hid hown1; have hb1 := below_none hg1; clear hown1 hg1)
  go_loopw [4, 13] (fun v i wr => ∃ k : Nat, k ≤ 1 ∧ i = .int .i64 (k : Int) ∧ Hid (Out wr w.heap.size v (if k = 0 then [] else wordB n)) ∧ Below w.heap.size w wr) (fun _ i _ => 1 - (intOf i).toNat)
  case atStart => exact ⟨0, by omega, rfl, HO, hb1⟩
  case round =>
    clear HO hb1; obtain ⟨k, hk, rfl, HO, hbr⟩ := hrel; by_cases hlt : k < 1
    · have hk0 : k = 0 := by omega
      subst hk0; have hcr := cell_later hc hbr; have hsz := hbr.size; have HO0 := Lib.hid (show Out wr w.heap.size u4 [] from by have := HO.out; simpa using this); clear HO; go_wp2_with (at_builtin; refine wpList_append_own _ rfl _ _ 22 rfl w.heap.size 5 i0 _ 1 1 Tryz.underlying22 hi hz0 hz1 hz2 rfl (by decide) _ 0 [] rfl (World.ownsRow.alloc HO0.out _) ⟨wr.heap.size, 0, none⟩ 2 2 (u8V (wordB n)) rfl rfl (by rw [HW.out]; exact newsN _ _ _ _ rfl) (u8V_one _) (by unfold maxLen; omega) (by omega) (by simp; omega) ?_; intro v3 w3 hown3 hg3 _; have hb3 := Below.grown' (hbr.alloc hsz _) hg3 (by simp; omega) (fun r hr => (own_lt HO0.out hr).2); have HC3 := Lib.hid hown3; clear hown3 hg3)
      go_roundw
      case rel => exact ⟨1, by omega, by first | rfl | go_num, HC3.out, hb3⟩
      case measure => simp [intOf]
    · have hk1 : k = 1 := by omega
      subst hk1; have hout := show Out wr w.heap.size u4 (wordB n) from by have := HO.out; simpa using this
      obtain ⟨a1, c1, hv, _, hcells⟩ := own_form hout; subst hv; rw [u8V_nat] at hcells; have kc := conv_nats (P := Tryz.prog) wr 22 5 Tryz.underlying22 Tryz.underlying5 a1 c1 _ (wordB n).length (by simp) hcells 9 Tryz.underlying9; rw [strN_u8] at kc; clear hout hcells HO; go_wp2_with fail
      go_ret2
      exact FIN.out _ _ rfl hbr
set_option maxRecDepth 100000 in
theorem text_PutData (s : ByteArray) (h : s.size ≤ 65535) (w : World) : Calls Tryz.prog 154 #[.string s] w fun e w' => e = .returned (.tuple #[.string (bB (dataB s)), .int .i64 0]) ∧ Below w.heap.size w w' := by
  have hbw : Below w.heap.size w (w.alloc (.cells #[.int .i64 (s.size : Int)] 3)) := (Below.refl _ _).alloc (Nat.le_refl _) _; have HW := Lib.hid (num_Words s.size h w.heap.size 0 (w.alloc (.cells #[.int .i64 (s.size : Int)] 3)) (by rw [World.cell?_alloc_new]; rfl)); have HS := Lib.hid (show bB (wordB s.size) ++ s = bB (dataB s) by
    unfold dataB; apply bl_inj
    unfold bl bB; simp)
  have hz : ¬ 9223372036854775807 < 2 + s.size := by omega
  have hz2 : ¬ 9223372036854775807 < (bB (wordB s.size)).size + s.size := by show ¬ 9223372036854775807 < 2 + s.size; omega
  go_enter Tryz.func154, Tryz.ntmps154
  go_wp2_with (go_at_call 155; refine Calls.mono HW.out ?_; rintro e w1 ⟨rfl, hb1⟩; replace hb1 := Below.then hbw hb1)
  go_ret2
  exact ⟨by rw [← HS.out]; rfl, hb1⟩
end Go.Proofs.YtnnpokndajpkiaaGreatDoor
namespace Go.Proofs.YtnnpokndajpkiaaGreatDoor
open Go.RowKit
def RetOut (B : Nat) (L : Bs) (w : World) (e : Ending) (w' : World) : Prop := ∃ v, e = .returned v ∧ Out w' B v L ∧ OnlyU B w w'
theorem out_append {w : World} {B : Nat} {L : Bs} {s : ByteArray} {v' : Value} (h : w.ownsRow B 5 1 v' (L.length + s.size) (u8V L ++ Lib.strCells s)) : Out w B v' (L ++ bl s) := by
  unfold Out; rw [List.length_append, blen, u8V_append]; exact h
set_option maxRecDepth 100000 in
theorem write_field (B : Nat) (v : Value) (L : Bs) (s : ByteArray) (w : World) (hO : Out w B v L) (hB : B ≤ w.heap.size) (hs : s.size ≤ 65535) (hL : L.length ≤ 1000000000000) :
    Calls Tryz.prog 141 #[v, .string s] w (RetOut B (L ++ dataB s) w) := by
  obtain ⟨i0, hi, hz0, hz1, hz2⟩ := info_parts infoU8; have HP := Lib.hid (text_PutData s hs w); have HO := Lib.hid hO; have hd : (bB (dataB s)).size ≤ 65537 := by show (dataB s).length ≤ _; rw [dataB_len]; omega
  have HX4 := Lib.hid (show L.length + (bB (dataB s)).size ≤ 140737488355328 by omega); have HX5 := Lib.hid (show L.length + (bB (dataB s)).size ≤ maxLen by unfold maxLen; omega); clear hO; go_enter Tryz.func141, Tryz.ntmps141
  go_wp2_with (first
    | (go_at_call 154; refine Calls.mono HP.out ?_; rintro e w1 ⟨rfl, hb1⟩)
    | (at_builtin; have X1 := HO.out.below hb1; have X3 := Nat.le_trans hB hb1.size; refine (@Lib.wpList_append_own_string Tryz.prog w1) rfl (.tmp 12) (.tmp 13) 22 9 rfl B 5 i0 Tryz.underlying22 Tryz.underlying9 hi hz0 hz1 hz2 v L.length (u8V L) rfl X1 (bB (dataB s)) rfl HX5.out HX4.out X3 ?_; intro v3 w3 hown3 hg3 _; have hu0 : OnlyU B w1 w3 := OnlyU.grown X1 hg3; have hu : OnlyU B w w3 := OnlyU.trans (OnlyU.of_below hb1) hu0; have HC3 := Lib.hid (out_append hown3); clear hown3 hg3 X1 X3 hu0))
  go_ret
  exact ⟨_, rfl, HC3.out, hu⟩
set_option maxRecDepth 100000 in
theorem write_word (B : Nat) (v : Value) (L : Bs) (n : Nat) (w : World) (hO : Out w B v L) (hB : B ≤ w.heap.size) (hn : n ≤ 65535) (hL : L.length ≤ 1000000000000) :
    Calls Tryz.prog 142 #[v, .int .u16 (n : Int)] w (RetOut B (L ++ wordB n) w) := by
  obtain ⟨i0, hi, hz0, hz1, hz2⟩ := info_parts infoU8; have hbw : Below w.heap.size w (w.alloc (.cells #[.int .i64 (n : Int)] 3)) := (Below.refl _ _).alloc (Nat.le_refl _) _; have HW := Lib.hid (num_Words n hn w.heap.size 0 (w.alloc (.cells #[.int .i64 (n : Int)] 3)) (by rw [World.cell?_alloc_new]; rfl)); have HO := Lib.hid hO; have hd : (bB (wordB n)).size ≤ 2 := Nat.le_refl _; have HX4 := Lib.hid (show L.length + (bB (wordB n)).size ≤ 140737488355328 by omega); have HX5 := Lib.hid (show L.length + (bB (wordB n)).size ≤ maxLen by unfold maxLen; omega); have n1 : (n : Int) ≤ 65535 := by omega
  clear hO; go_enter Tryz.func142, Tryz.ntmps142
  go_wp2_with (first
    | (go_at_call 155; refine Calls.mono HW.out ?_; rintro e w1 ⟨rfl, hb1⟩; replace hb1 := Below.then hbw hb1)
    | (at_builtin; have X1 := HO.out.below hb1; have X3 := Nat.le_trans hB hb1.size; refine (@Lib.wpList_append_own_string Tryz.prog w1) rfl (.tmp 14) (.tmp 15) 22 9 rfl B 5 i0 Tryz.underlying22 Tryz.underlying9 hi hz0 hz1 hz2 v L.length (u8V L) rfl X1 (bB (wordB n)) rfl HX5.out HX4.out X3 ?_; intro v3 w3 hown3 hg3 _; have hu0 : OnlyU B w1 w3 := OnlyU.grown X1 hg3; have hu : OnlyU B w w3 := OnlyU.trans (OnlyU.of_below hb1) hu0; have HC3 := Lib.hid (out_append hown3); clear hown3 hg3 X1 X3 hu0))
  go_ret
  exact ⟨_, rfl, HC3.out, hu⟩
def bitI (b : Bool) (n : Int) : Int := if b then n else 0
theorem write_bit (b : Bool) (k : Nat) (n : Int) (hk : (k = 0 ∧ n = 1) ∨ (k = 1 ∧ n = 2) ∨ (k = 2 ∧ n = 4) ∨ (k = 3 ∧ n = 8) ∨ (k = 5 ∧ n = 32) ∨ (k = 6 ∧ n = 64) ∨ (k = 7 ∧ n = 128)) (w : World) :
    Calls Tryz.prog 139 #[.bool b, .int .u64 (k : Int)] w fun e w' => e = .returned (.int .u8 (bitI b n)) ∧ w = w' := by
  cases b
  · go_enter Tryz.func139, Tryz.ntmps139
    go_wp2_with fail
    go_ret
    exact ⟨rfl, rfl⟩
  · rcases hk with ⟨rfl, rfl⟩ | ⟨rfl, rfl⟩ | ⟨rfl, rfl⟩ | ⟨rfl, rfl⟩ | ⟨rfl, rfl⟩ | ⟨rfl, rfl⟩ | ⟨rfl, rfl⟩
    all_goals
      go_enter Tryz.func139, Tryz.ntmps139
      go_wp2_with fail
      go_ret
      exact ⟨rfl, rfl⟩
theorem u8V_snoc (L : Bs) (n : Nat) (h : n < 256) : u8V (L ++ [byteN n]) = u8V L ++ [.int .u8 (n : Int)] := by
  rw [u8V_append]; unfold u8V; simp [byteN_toNat, Nat.mod_eq_of_lt h]
theorem lenF_step (f n : Nat) (h : 128 ≤ n) : lenF (f + 1) n = byteN (n % 128 + 128) :: lenF f (n / 128) := by
  show (if n < 128 then _ else _) = _; rw [if_neg (by omega)]
theorem lenF_last (f n : Nat) (h : n < 128) : lenF f n = [byteN n] := by
  cases f with
  | zero => rfl
  | succ f => show (if n < 128 then _ else _) = _; rw [if_pos h]
set_option maxRecDepth 100000 in
set_option maxHeartbeats 1000000 in
theorem num_Len (n : Nat) (h : n ≤ 268435455) (w : World) : Calls Tryz.prog 112 #[.int .i64 (n : Int)] w fun e w' => e = .returned (.tuple #[.string (bB (lenB n)), .int .i64 0]) ∧ Below w.heap.size w w' := by
  obtain ⟨i0, hi, hz0, hz1, hz2⟩ := info_parts infoU8; have FIN := Lib.hid (show ∀ (s : ByteArray) (w' : World), bB (lenB n) = s → Below w.heap.size w w' → Ending.returned (.tuple #[.string s, .int .i64 0]) = .returned (.tuple #[.string (bB (lenB n)), .int .i64 0]) ∧ Below w.heap.size w w' from by rintro s w' rfl h; exact ⟨rfl, h⟩); have HS := Lib.hid (num_Size n h w); have h4 : ((lenS n : Nat) : Int) ≠ 0 := by unfold lenS; (repeat' split) <;> omega
  have h4' : (((lenS n : Nat) : Int) == 0) = false := beq_eq_false_iff_ne.2 h4; clear h4; generalize lenS n = z at *; go_enter Tryz.func112, Tryz.ntmps112
  go_wp2_with (first
    | (go_at_call 138; refine Calls.mono HS.out ?_; rintro e w1 ⟨rfl, rfl⟩)
    | (at_make; refine wpList_make_own _ rfl _ _ _ rfl w.heap.size 5 i0 _ 1 Tryz.underlying22 hi hz0 hz1 .i64 .i64 _ 4 rfl rfl rfl (by rw [hz2]; omega) (by unfold maxLen; omega) (Nat.le_refl _) ?_; intro v1 hown1 hg1; have HO := Lib.hid hown1; have hb1 := below_none hg1; clear hown1 hg1))
  go_loopw [0, 5] (fun m v wr => ∃ (x f : Nat) (L : Bs), x ≤ 268435455 ∧ m = .int .i64 (x : Int) ∧ Hid (x < 128 ^ (f + 1) ∧ lenB n = L ++ lenF f x ∧ L.length + f = 3 ∧ Out wr w.heap.size v L) ∧ L.length ≤ 3 ∧ Below w.heap.size w wr) (fun m _ _ => (intOf m).toNat)
  case atStart => exact ⟨n, 3, [], h, rfl, ⟨by omega, rfl, rfl, HO.out⟩, by simp, hb1⟩
  case round =>
    clear HO hb1; obtain ⟨x, f, L, hx, rfl, HP, hL, hbr⟩ := hrel; have hsz := hbr.size; have HO := Lib.hid HP.out.2.2.2; by_cases hl : 128 ≤ x
    · have hi1 : (128 : Int) ≤ (x : Int) := by omega
      obtain ⟨g, rfl⟩ : ∃ g, f = g + 1 := by
        cases f with
        | zero => have := HP.out.1; omega
        | succ g => exact ⟨g, rfl⟩
      have HB := Lib.hid (show u8V (L ++ [byteN (x % 128 + 128)]) = u8V L ++ [.int .u8 ((x : Int) % 128 + 128)] by
        rw [u8V_snoc _ _ (by omega)]; push_cast; rfl)
      go_wp2_with (at_builtin; refine wpList_append_own _ rfl _ _ 22 rfl w.heap.size 5 i0 _ 1 1 Tryz.underlying22 hi hz0 hz1 hz2 rfl (by decide) _ L.length (u8V L) rfl (World.ownsRow.alloc HO.out _) ⟨wr.heap.size, 0, none⟩ 1 1 [.int .u8 ((x : Int) % 128 + 128)] rfl rfl (newsN _ _ _ _ rfl) (by intro u hu; simp at hu; subst hu; rfl) (by unfold maxLen; omega) (by omega) (by simp; omega) ?_; intro v3 w3 hown3 hg3 _; have hb3 := Below.grown' (hbr.alloc hsz _) hg3 (by simp; omega) (fun r hr => (own_lt HO.out hr).2); have HC3 := Lib.hid hown3; clear hown3 hg3)
      go_roundw
      case rel => exact ⟨x / 128, g, L ++ [byteN (x % 128 + 128)], by omega, by first | rfl | go_num | (congr 1; omega), ⟨by have := HP.out.1; rw [Nat.pow_succ] at this; omega, by rw [HP.out.2.1, lenF_step g x hl, List.append_assoc]; rfl, by have := HP.out.2.2.1; rw [List.length_append]; simp; omega, by unfold Out; rw [HB.out, List.length_append]; exact HC3.out⟩, by have := HP.out.2.2.1; rw [List.length_append]; simp; omega, hb3⟩
      case measure => simp [intOf]; omega
    · have hi1 : ¬ (128 : Int) ≤ (x : Int) := by omega
      have hmod : (x : Int) % 256 = (x : Int) := by omega
      have HB := Lib.hid (show u8V (L ++ [byteN x]) = u8V L ++ [.int .u8 (x : Int)] from u8V_snoc _ _ (by omega)); have HE := Lib.hid (show lenB n = L ++ [byteN x] by rw [HP.out.2.1, lenF_last f x (by omega)]); go_wp2_with (at_builtin; refine wpList_append_own _ rfl _ _ 22 rfl w.heap.size 5 i0 _ 1 1 Tryz.underlying22 hi hz0 hz1 hz2 rfl (by decide) _ L.length (u8V L) rfl (World.ownsRow.alloc HO.out _) ⟨wr.heap.size, 0, none⟩ 1 1 [.int .u8 (x : Int)] rfl rfl (newsN _ _ _ _ rfl) (by intro u hu; simp at hu; subst hu; rfl) (by unfold maxLen; omega) (by omega) (by simp; omega) ?_; intro v3 w3 hown3 hg3 _; have hb3 := Below.grown' (hbr.alloc hsz _) hg3 (by simp; omega) (fun r hr => (own_lt HO.out hr).2); rw [← HB.out] at hown3; obtain ⟨a1, c1, hv, _, hcells⟩ := own_form hown3; subst hv; rw [u8V_nat] at hcells; have kc := conv_nats (P := Tryz.prog) w3 22 5 Tryz.underlying22 Tryz.underlying5 a1 c1 _ (L.length + 1) (by simp) hcells 9 Tryz.underlying9; rw [strN_u8] at kc; clear hown3 hg3 hcells)
      go_ret2
      exact FIN.out _ _ (by rw [HE.out]) hb3
end Go.Proofs.YtnnpokndajpkiaaGreatDoor
