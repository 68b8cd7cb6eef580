/- The walk of ShardParts. Conditions: the decoder's tables lie as Go lays them. -/
import Derived.Test.YtnnggcaifbinbaaDoorLaw08
import Derived.Test.YtnnggcaifbinbaaDoorPlainParts
import Derived.Laws.IdiomStrings
import Derived.Deep.RegionHeld3
namespace Go.Proofs.YtnnggcaifbinbaaDoor
open Go.RowKit

theorem one_txt {w : World} {s : ByteArray} : CellsA (w.alloc (.cells #[.string s] 9)) (some ⟨w.heap.size, 0, none⟩) ([s].map Value.string) := by
  intro j v hv
  refine ⟨_, _, rfl, ?_⟩
  rw [Nat.zero_add, cell_of_row _ _ _ _ _ _ (heap_alloc_new w _)]
  simpa using hv
theorem five_txt {w : World} {a b c d f : ByteArray} : CellsA (w.alloc (.cells #[.string a, .string b, .string c, .string d, .string f] 9)) (some ⟨w.heap.size, 0, none⟩) ([a, b, c, d, f].map Value.string) := by
  intro j v hv
  refine ⟨_, _, rfl, ?_⟩
  rw [Nat.zero_add, cell_of_row _ _ _ _ _ _ (heap_alloc_new w _)]
  simpa using hv

/-- The hash's contract at texts that the call lays: what each call of the law asks. -/
theorem hashes (A : List ByteArray) (H : Nat) (hH : hashL (catL A) = H) (hA : A.length ≤ 5) (hs : ∀ x ∈ A, x.size ≤ 9223372036854775807) (w : World) (B : Nat) (hB : w.heap.size = B) :
    Calls Tryd.prog 31 #[.slice (some ⟨B, 0, none⟩) A.length A.length] (w.alloc (.cells (A.map Value.string).toArray 9)).drew fun e w' => e = .returned (.int .u64 (H : Int)) ∧ (w.alloc (.cells (A.map Value.string).toArray 9)).drew = w' := by
  subst hB
  have h := shard_Hash (some ⟨w.heap.size, 0, none⟩) A.length A (w.alloc (.cells (A.map Value.string).toArray 9)).drew (by omega) hs (by
    intro j v hv
    refine ⟨_, _, rfl, ?_⟩
    show (w.alloc _).cell? _ = _
    rw [Nat.zero_add, cell_of_row _ _ _ _ _ _ (heap_alloc_new w _)]
    simpa using hv)
  rw [hH] at h
  exact h

theorem ext_head (s : ByteArray) (k : Nat) : bl (s.extract 0 k) = (bl s).take k := by unfold bl; simp
theorem ext_tail (s : ByteArray) (k : Nat) : bl (s.extract k s.size) = (bl s).drop k := Lib.extract_to_end s k
theorem ext_mid (s : ByteArray) (k : Nat) : bl (s.extract k (k + 1)) = ((bl s).drop k).take 1 := by
  unfold bl; simp [List.take_drop]

theorem bytes_row (s : ByteArray) (c : Nat) (C : Array Value) (hC : bytesRow s c = C) (j : Nat) (b : UInt8) (hb : (bl s)[j]? = some b) : C[j]? = some (.int .u8 (b.toNat : Int)) := by
  obtain ⟨h1, h2⟩ := List.getElem?_eq_some_iff.1 hb
  rw [← hC, bytesRow_at s c j (by simpa [bl] using h1)]
  rw [← h2]; rfl
theorem bytes_at (w : World) (s : ByteArray) (c : Nat) (C : Array Value) (hC : bytesRow s c = C) (T : TypeId) (k : Nat) (b : UInt8) (hb : (bl s)[k]? = some b) :
    (w.alloc (.cells C T (C.size, C.size + 1))).cell? ⟨w.heap.size, k, none⟩ = some (.int .u8 (b.toNat : Int)) := by
  rw [World.cell?_alloc_mark]; exact bytes_row s c C hC k b hb
theorem bytes_turned (w w1 : World) (s : ByteArray) (c : Nat) (C : Array Value) (hC : bytesRow s c = C) (T : TypeId) (k : Nat) (b z : UInt8) (hb : (bl s)[k]? = some b) (O : Obj)
    (hw1 : (((w.alloc (.cells C T (C.size, C.size + 1))).setCell ⟨w.heap.size, k, none⟩ (.int .u8 ((b.toNat ^^^ z.toNat : Nat) : Int))).alloc O).drew = w1) (j : Nat) (hj : j < ((bl s).set k (b ^^^ z)).length) :
    w1.cell? ⟨w.heap.size, j, none⟩ = some (.int .u8 ((((bl s).set k (b ^^^ z))[j]).toNat : Int)) := by
  subst hw1
  show (World.alloc _ O).cell? _ = _
  rw [World.cell?_alloc_lt _ _ _ (by simp [World.setCell])]
  have hjl : j < (bl s).length := by simpa using hj
  by_cases e : j = k
  · subst e
    rw [World.cell?_setCell_same _ _ _ (bytes_at w s c C hC T j b hb)]
    simp [UInt8.toNat_xor]
  · rw [World.cell?_setCell_other _ _ _ _ (by intro h; injection h with _ h; exact e h.symm), World.cell?_alloc_mark, bytes_row s c C hC j _ (List.getElem?_eq_getElem hjl)]
    rw [List.getElem_set_ne (fun h => e h.symm)]
theorem bytes_free (w : World) (s : ByteArray) (c : Nat) (C : Array Value) (hC : bytesRow s c = C) (T : TypeId) (k : Nat) (hk : k < s.size) :
    (w.alloc (.cells C T (C.size, C.size + 1))).frozen? ⟨w.heap.size, k, none⟩ = false := by
  rw [World.frozen?_alloc_mark]
  have h : k < C.size := by
    obtain ⟨b, hb⟩ : ∃ b, (bl s)[k]? = some b := ⟨_, List.getElem?_eq_getElem (by rw [bl_len]; exact hk)⟩
    exact (Array.getElem?_eq_some_iff.1 (bytes_row s c C hC k b hb)).1
  rw [decide_eq_false (by omega)]; rfl

theorem below_al {w w' : World} (h : Below w.heap.size w w') (o : Obj) : Below w.heap.size w (w'.alloc o) := h.alloc h.size o

set_option maxHeartbeats 6000000 in
set_option maxRecDepth 100000 in
theorem law08_ShardParts (s : ByteArray) (at_ : Int) (y : Int) (w : World) (hE : Env w) (hy : 0 ≤ y ∧ y < 256) :
    Calls Tryd.prog 7 #[.string s, .int .i64 at_, .int .u8 y] w fun e w' => e = .returned (.bool true) ∧ Below w.heap.size w w' := by
  have hAw := Lib.hid (fun w hE => law08_awake w hE)
  by_cases hsm : s.size ≤ 2000 ∧ 0 ≤ at_ ∧ at_ < s.size
  · obtain ⟨s1, s2, s3⟩ := hsm
    obtain ⟨k, rfl⟩ : ∃ k : Nat, at_ = k := ⟨at_.toNat, by omega⟩
    obtain ⟨z, rfl⟩ : ∃ z : UInt8, y = (z.toNat : Int) := ⟨UInt8.ofNat y.toNat, by
      rw [UInt8.toNat_ofNat', Nat.mod_eq_of_lt (by omega)]; omega⟩
    have hk : k < s.size := by omega
    have c1 : ¬ (2000 : Int) < (s.size : Int) := by omega
    have c2 : ¬ (k : Int) < 0 := by omega
    have c3 : ¬ (s.size : Int) ≤ (k : Int) := by omega
    obtain ⟨b, hb0⟩ : ∃ b, (bl s)[k]? = some b := ⟨_, List.getElem?_eq_getElem (by rw [bl_len]; exact hk)⟩
    obtain ⟨H, hH⟩ : ∃ H, hashL (bl s) = H := ⟨_, rfl⟩
    have hb1 := b.toNat_lt
    have hz1 := z.toNat_lt
    have hx := u8_xor_nat b.toNat z.toNat (by omega) (by omega)
    have hset := hash_set (bl s) k b hb0 z
    rw [hH] at hset
    have hlen : ((bl s).set k (b ^^^ z)).length = s.size := by rw [List.length_set, bl_len]
    have hcv := run_bytes_of_string (P := Tryd.prog) w 9 36 5 s Tryd.underlying9 Tryd.underlying36 Tryd.underlying5
    obtain ⟨c, hc⟩ : ∃ c, grownCap w s.size 0 5 = c := ⟨_, rfl⟩
    obtain ⟨C, hC⟩ : ∃ C, bytesRow s c = C := ⟨_, rfl⟩
    rw [hc, hC] at hcv
    have hcell := bytes_at w s c C hC 5 k b hb0
    have hfroz := bytes_free w s c C hC 5 k hk
    have hS1 := Lib.hid (show ∀ (w : World) (B : Nat), w.heap.size = B → Calls Tryd.prog 31 #[.slice (some ⟨B, 0, none⟩) 1 1] (w.alloc (.cells #[.string s] 9)).drew fun e w' => e = .returned (.int .u64 (H : Int)) ∧ (w.alloc (.cells #[.string s] 9)).drew = w' from hashes [s] H (by rw [← hH]; simp [catL]) (by simp) (by simp; omega))
    have hS2 := Lib.hid (show ∀ (w : World) (B : Nat), w.heap.size = B → Calls Tryd.prog 31 #[.slice (some ⟨B, 0, none⟩) 2 2] (w.alloc (.cells #[.string (s.extract 0 k), .string (s.extract k s.size)] 9)).drew fun e w' => e = .returned (.int .u64 (H : Int)) ∧ (w.alloc (.cells #[.string (s.extract 0 k), .string (s.extract k s.size)] 9)).drew = w' from hashes [s.extract 0 k, s.extract k s.size] H (by rw [← hH]; simp [catL, ext_head, ext_tail]) (by simp) (by simp; omega))
    have hS5 := Lib.hid (show ∀ (w : World) (B : Nat), w.heap.size = B → Calls Tryd.prog 31 #[.slice (some ⟨B, 0, none⟩) 5 5] (w.alloc (.cells #[.string ⟨#[]⟩, .string (s.extract 0 k), .string (s.extract k (k + 1)), .string ⟨#[]⟩, .string (s.extract (k + 1) s.size)] 9)).drew fun e w' => e = .returned (.int .u64 (H : Int)) ∧ (w.alloc (.cells #[.string ⟨#[]⟩, .string (s.extract 0 k), .string (s.extract k (k + 1)), .string ⟨#[]⟩, .string (s.extract (k + 1) s.size)] 9)).drew = w' from hashes [⟨#[]⟩, s.extract 0 k, s.extract k (k + 1), ⟨#[]⟩, s.extract (k + 1) s.size] H (by
      rw [← hH]; congr 1
      show bl ⟨#[]⟩ ++ (bl _ ++ (bl _ ++ (bl ⟨#[]⟩ ++ (bl _ ++ [])))) = bl s
      rw [ext_head, ext_tail, ext_mid]
      show (bl s).take k ++ (((bl s).drop k).take 1 ++ ((bl s).drop (k + 1) ++ [])) = bl s
      rw [List.append_nil, show (bl s).drop (k + 1) = ((bl s).drop k).drop 1 by rw [List.drop_drop], List.take_append_drop, List.take_append_drop]) (by simp) (by simp [show (ByteArray.mk #[]).size = 0 from rfl]; omega))
    obtain ⟨H2, hH2⟩ : ∃ n, hashL ((bl s).set k (b ^^^ z)) = n := ⟨_, rfl⟩
    rw [hH2] at hset
    have hT := Lib.hid (show ∀ (w : World) (B : Nat), w.heap.size = B → Calls Tryd.prog 31 #[.slice (some ⟨B, 0, none⟩) 1 1] (w.alloc (.cells #[.string ⟨((bl s).set k (b ^^^ z)).toArray⟩] 9)).drew fun e w' => e = .returned (.int .u64 (H2 : Int)) ∧ (w.alloc (.cells #[.string ⟨((bl s).set k (b ^^^ z)).toArray⟩] 9)).drew = w' from hashes [⟨((bl s).set k (b ^^^ z)).toArray⟩] H2 (by rw [← hH2]; simp [catL, bl]) (by simp) (by
      intro x hx
      simp only [List.mem_singleton] at hx
      subst hx
      show ((bl s).set k (b ^^^ z)).toArray.size ≤ _
      simp only [List.size_toArray]
      omega))
    have hBK : ∀ (w1 : World) (O : Obj), (((w.alloc (.cells C 5 (C.size, C.size + 1))).setCell ⟨w.heap.size, k, none⟩ (.int .u8 ((b.toNat ^^^ z.toNat : Nat) : Int))).alloc O).drew = w1 →
        ∀ w', Below w1.heap.size w1 w' → (convert 36 9 (.slice (some ⟨w.heap.size, 0, none⟩) s.size c)).run Tryd.prog w' = .ok (.string ⟨((bl s).set k (b ^^^ z)).toArray⟩) w' := by
      intro w1 O h1 w' hb
      have h := run_convert_bytes_back (P := Tryd.prog) w' 36 9 5 ⟨w.heap.size, 0, none⟩ c ((bl s).set k (b ^^^ z)) Tryd.underlying36 Tryd.underlying5 Tryd.underlying9 (fun j hj => by
        rw [Addr.add_lit, Nat.zero_add]
        exact cell_later (bytes_turned w w1 s c C hC 5 k b z hb0 O h1 j hj) hb)
      rw [hlen] at h
      exact h
    have HBK := Lib.hid hBK
    obtain ⟨t, ht⟩ : ∃ t : ByteArray, ByteArray.mk ((bl s).set k (b ^^^ z)).toArray = t := ⟨_, rfl⟩
    rw [ht] at HBK hT
    have f1 : ((H : Int) == (H : Int)) = true := beq_self_eq_true _
    have f2 : ((H2 : Int) == (H : Int)) = (z == 0) := by rw [← hset, Bool.eq_iff_iff, beq_iff_eq, beq_iff_eq]; omega
    have f3 : ((z.toNat : Int) == 0) = (z == 0) := by
      rw [Bool.eq_iff_iff, beq_iff_eq, beq_iff_eq]
      exact ⟨fun h => UInt8.toNat_inj.1 (by show z.toNat = 0; omega), fun h => by subst h; rfl⟩
    obtain ⟨v, hv⟩ : ∃ v, (z == 0) = v := ⟨_, rfl⟩
    rw [hv] at f2 f3
    have f4 : (v == v) = true := beq_self_eq_true _
    have g1 : (0 : Int) ≤ (k : Int) := by omega
    have g2 : (k : Int) ≤ (s.size : Int) := by omega
    have g3 : (k : Int) + 1 ≤ (s.size : Int) := by omega
    have g4 : IntKind.i64.wrap ((k : Int) + 1) = (k : Int) + 1 := by rw [IntKind.wrap_i64]; omega
    have g5 : ((k : Int) + 1).toNat = k + 1 := by omega
    have g6 : (0 : Int) ≤ (k : Int) + 1 := by omega
    have hmid : ∀ w, (Instr.slice 9 (.string s) (some (.int .i64 (k : Int))) (some (.int .i64 ((k : Int) + 1))) none).run Tryd.prog w = .ok (.string (s.extract k (k + 1))) w := by
      intro w
      have h := run_slice_string (P := Tryd.prog) (w := w) 9 s .i64 .i64 (k : Int) ((k : Int) + 1) Tryd.underlying9 g1 (by omega) g3
      rw [g5, Int.toNat_natCast] at h
      exact h
    have g7 : k ≤ k + 1 := by omega
    have g8 : k + 1 ≤ s.size := by omega
    have g9 : k ≤ s.size := by omega
    clear hH hb0 hBK ht hset hlen hH2 hC hc hv
    go_enter Tryd.func7, Tryd.ntmps7
    go_wp2_with (first
      | (go_at_call 31; refine Calls.mono (hS1.out _ _ (by simp)) ?_; rintro e w1 ⟨rfl, hw1⟩))
    have hK0 := HBK.out w1 _ hw1
    have hbw : Below w.heap.size w w1 := by subst hw1; go_grown
    have KEEP := Lib.hid (show ∀ w', Below w1.heap.size w1 w' → Below w1.heap.size w1 w' ∧ (convert 36 9 (.slice (some ⟨w.heap.size, 0, none⟩) s.size c)).run Tryd.prog w' = .ok (.string t) w' from fun w' h => ⟨h, hK0 w' h⟩)
    have EV := Lib.hid (show ∀ w', Below w1.heap.size w1 w' → Env w' from fun w' h => (hE.below hbw).below h)
    have FIN := Lib.hid (show ∀ w', Below w1.heap.size w1 w' → Below w.heap.size w w' from fun w' h => Below.then hbw h)
    have HW1 := Lib.hid hw1
    clear hw1 hK0 HBK hcv hcell hfroz hx hbw
    first | go_region_held3 (fun w' => Below w1.heap.size w1 w' ∧ (convert 36 9 (.slice (some ⟨w.heap.size, 0, none⟩) s.size c)).run Tryd.prog w' = .ok (.string t) w')
      ((go_split_ands; first | exact KEEP.out _ (below_add (Below.refl _ _) 1) | exact KEEP.out _ (by assumption) | exact KEEP.out _ (below_al (by assumption) _) | exact KEEP.out _ (Below.then (by assumption) (by assumption))))
      ((go_split_ands; first
        | (go_at_call 31; refine Calls.mono (hS2.out _ _ (by simp)) ?_; rintro e w2 ⟨rfl, rfl⟩; clear hS2)
        | (go_at_call 31; refine Calls.mono (hS5.out _ _ (by simp)) ?_; rintro e w2 ⟨rfl, rfl⟩; clear hS5)
        | (go_at_call 31; refine Calls.mono (hT.out _ _ (by simp)) ?_; rintro e w2 ⟨rfl, rfl⟩; clear hT)
        | (go_at_call 30; refine (hAw.out _ (EV.out _ (by assumption))).mono ?_; rintro e w2 ⟨rfl, hb9⟩))) | fail "held"
    all_goals go_split_ands
    all_goals go_wp2_with fail
    all_goals go_ret
    all_goals exact ⟨rfl, FIN.out _ (by assumption)⟩
  · have hsm' : (2000 : Int) < (s.size : Int) ∨ ((s.size : Int) ≤ 2000 ∧ at_ < 0) ∨ ((s.size : Int) ≤ 2000 ∧ 0 ≤ at_ ∧ (s.size : Int) ≤ at_) := by omega
    clear hsm
    rcases hsm' with h1 | ⟨h1, h2⟩ | ⟨h1, h2, h3⟩
    all_goals
      go_enter Tryd.func7, Tryd.ntmps7
      go_wp2_with (go_at_call 30; refine (hAw.out _ hE).mono ?_; rintro e w1 ⟨rfl, hb1⟩)
      go_ret
      exact ⟨rfl, hb1⟩
end Go.Proofs.YtnnggcaifbinbaaDoor
