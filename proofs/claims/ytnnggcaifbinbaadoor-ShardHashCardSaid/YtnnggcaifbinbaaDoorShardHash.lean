/- ShardHash: the law returns true and leaves its arguments as they were. Conditions: none beyond the card's (the decoder's two tables lie as Go lays them). -/
import Derived.Test.YtnnggcaifbinbaaDoorCard
import Derived.Test.YtnnggcaifbinbaaDoorLawHash
namespace Go.Proofs.YtnnggcaifbinbaaDoor.shardHash
open Go.ChangeShapes Go.WideShapes Go.ChangeAt Go.RowKit
open Go.ChangeMaps (open_string shut_string)

theorem weights_strs {H : Type} (P : Program) (e : TypeId) : ∀ (L : List ByteArray) (x : ByteArray), x ∈ L → x.size ∈ DataW.weightsAll (H := H) P e (strs L)
  | [], _, h => by cases h
  | y :: r, x, h => by
    simp only [strs, List.map_cons, DataW.weightsAll, List.mem_append]
    rcases List.mem_cons.1 h with rfl | h
    · left; simp only [DataW.weights, List.mem_singleton]; exact Lib.size_eq x
    · right; exact weights_strs P e r x h

set_option maxRecDepth 100000 in
theorem lifted (os : Os) (started : os.Started) (H : Type) (enc : TypeId × Value → H) (F : Stop.Interp) :
    ReturnsInHanded {} Tryd.checked os 6 .any ((OpenSpec.ofChange Rows.shardHashSpec).preRow enc Tryd.prog Tryd.f6 Rows.shardHashRow.domain false Rows.shardHashRow.laid) (((OpenSpec.ofChange Rows.shardHashSpec).at F).post enc Tryd.prog Tryd.f6 false true false false) := by
  have hw : (DataW.whole enc Tryd.prog ((laidWorld os #[]).forCall (fun _ _ => 0) ⟨#[], #[.slice none 0 0], []⟩).memory Tryd.f6.params.toList Rows.shardHashSpec.vars false (#[Value.slice none 0 0] : Array Value).toList 8).map (fun x => (x.1, x.2.1)) =
      some ([.nil], []) := by kernel_rfl
  obtain ⟨⟨x1, x2, x3⟩, hx, hx1⟩ := Option.map_eq_some_iff.1 hw
  simp only [Prod.mk.injEq] at hx1
  obtain ⟨rfl, rfl⟩ := hx1
  refine returnsInHanded_of_row (C := Tryd.checked) (s := OpenSpec.ofChange Rows.shardHashSpec) own started (by kernel_rfl) Tryd.func6
    (witness_row_at (enc := enc) (C := Tryd.checked) false (laidWorld os #[]) #[.slice none 0 0] rfl (by kernel_rfl) (by kernel_rfl) (by kernel_rfl)
      (OpenSpec.preRow_of_cond 8 hx (by kernel_rfl) (fun k hk => by cases hk) (by kernel_rfl) (laid_met os _))) ?_
  intro W base args ds gs before hval0 hW _ _ hsz hL hS _
  have hval : ∀ (j : Nat) t v, Tryd.f6.params[j]? = some t → args[j]? = some v → Value.okWide Tryd.prog W .any base t v := hval0
  have hW' := hW
  obtain ⟨p, q, hA0, hV0, rfl, _, _⟩ := hW
  have hA : DataW.TrodAll enc Tryd.prog W 0 (fun _ => true) true Tryd.f6.params.toList args.toList ds p := hA0
  rw [Tryd.params6] at hA hval
  obtain ⟨v0, vs0, d0, ds0, p0, q0, hargs, rfl, rfl, h0, r0⟩ := trodAll_cons hA
  obtain ⟨rfl, rfl, rfl⟩ := trodAll_nil r0
  obtain rfl : args = #[v0] := by cases args; simp_all
  obtain ⟨rfl, rfl⟩ := trodVars_none hV0
  obtain ⟨a0, len, cap, rfl⟩ := okWide_slice Tryd.underlying27 (hval 0 27 v0 rfl rfl)
  have hps : ∀ x ∈ p0, x.block < W.heap.size := fun x hx => hW'.lt x (by simp [hx])
  have fin : ∀ (e : Ending) (W' : World), e = .returned (.bool true) ∧ Below W.heap.size W W' → ∃ v, e = .returned v ∧ ((OpenSpec.ofChange Rows.shardHashSpec).at F).post enc Tryd.prog Tryd.f6 false true false false W #[.slice a0 len cap] v W' := by
    rintro e W' ⟨rfl, bel⟩
    have e1 : ((OpenSpec.ofChange Rows.shardHashSpec).at F).fn H ([d0] ++ []) = { results := [.lit (.bool true)], args := [d0] } := rfl
    refine ⟨_, rfl, _, _, _, [], p0, [], hW', ?_, ?_, ?_, bel.frame _, fun h => by cases h⟩
    · rw [e1]; exact trodAll_mk1 (shut_bool Tryd.underlying4 _)
    · rw [e1]; exact trodAll_mk1 (Below.trod (by kernel_rfl) (by kernel_rfl) (of_decide_eq_true (by kernel_rfl)) h0 bel hps)
    · rw [e1]; rfl
  have h0k := h0
  obtain ⟨fuel, hf⟩ := h0k
  rcases open_strings Tryd.underlying27 Tryd.underlying9 (by kernel_rfl) hf with ⟨hcs, hx⟩ | ⟨a, len', cap', ss, hcs, _, hl, hm, hz, hx, hcell, hws⟩
  · simp [Value.cells] at hcs
    obtain ⟨rfl, rfl, rfl⟩ := hcs
    exact (law08_ShardHash none 0 [] W (env_of hL hS) (Nat.le_refl _) (by decide) (by simp) (CellsA.nil _ _)).mono fin
  · simp [Value.cells] at hcs
    obtain ⟨rfl, rfl, rfl⟩ := hcs
    simp only [if_true] at hz
    simp only [Prod.mk.injEq] at hx
    obtain ⟨rfl, rfl⟩ := hx
    have hreach : len ≤ 140737488355328 := by
      have := sized_slice hsz (j := 0) (t := 27) (e := 9) rfl rfl Tryd.underlying27
      rw [show Tryd.checked.prog.bytesOf 9 = 16 by kernel_rfl] at this
      simp only [strs, List.length_map, List.length_take, List.length_drop, reachBytes] at this
      omega
    have htk : (ss.take len).length = len := by simp; omega
    have hcl : CellsA W (some a) ((ss.take len).map Value.string) := by
      intro j v hv
      have hj : j < len := by
        apply Nat.lt_of_not_le
        intro h
        rw [List.getElem?_eq_none (by simp; omega)] at hv
        simp at hv
      have h1 := hcell j (by omega)
      obtain ⟨xb, xo, spot⟩ := a
      have hspot : spot = none := by simpa [Addr.add] using World.cell?_spot (hcell 0 (by omega))
      subst hspot
      refine ⟨xb, xo, rfl, ?_⟩
      rw [Addr.add_lit] at h1
      rw [h1, ← hv]
      simp [List.getElem?_take_of_lt hj, List.getD, hj, show j < ss.length by omega]
    have hxz : ∀ x ∈ ss.take len, x.size ≤ 140737488355328 := by
      intro x hx
      have hm : x.size ∈ (DataW.slice (H := H) (strs (ss.take len)) (strs (ss.drop len))).weights Tryd.prog 27 := by
        simp only [DataW.weights, Tryd.underlying27, List.mem_cons, List.mem_append]
        exact Or.inr (Or.inl (weights_strs _ _ _ x hx))
      have := List.all_eq_true.1 hsz _ (DataW.weights_mem_each (j := 0) rfl rfl _ hm)
      have h8 : x.size ≤ reachBytes := by simpa using this
      have h9 := reachBytes_lt
      omega
    have hw := law08_ShardHash (some a) cap (ss.take len) W (env_of hL hS) (by omega) (by omega) hxz hcl
    rw [htk] at hw
    exact hw.mono fin

theorem said : Rows.ShardHashSaid :=
  OpenClaim.holds_of_cond 6 Tryd.f6 rfl rfl rfl rfl rfl rfl rfl ⟨rfl, rfl, rfl, rfl, rfl⟩ rfl rfl rfl rfl rfl (by kernel_rfl) Tryd.func6 (by kernel_rfl)
    (of_decide_eq_true (by kernel_rfl)) (by unfold Func.isWrapper; first | (rw [if_pos (by decide +kernel)]; kernel_rfl) | (rw [if_neg (by decide +kernel)]; exact ⟨rfl, rfl⟩))
    (fun os started H enc _ F => by rw [OpenClaim.pre_eq_preRow]; exact lifted os started H enc F)

theorem plain (f : FuncId) (fn : Func) (hf : Tryd.pinned.checked.prog.funcNamed "relayhouse/relayhouselaw08.ShardHash" = some f) (hfn : Tryd.pinned.checked.prog.funcs[f]? = some fn) :
    false = Tryd.pinned.checked.prog.looks [] ∧ ∀ (j : Nat) t, fn.params[j]? = some t → Tryd.pinned.checked.prog.wantsStandIn t = false := by
  obtain rfl : f = 6 := Option.some.inj ((show Tryd.prog.funcNamed "relayhouse/relayhouselaw08.ShardHash" = some 6 by kernel_rfl).symm.trans hf) |>.symm
  obtain rfl : fn = Tryd.f6 := (Option.some.inj (Tryd.func6.symm.trans hfn)).symm
  exact ⟨by kernel_rfl, fun j t ht => by
    rw [Tryd.params6] at ht
    have hm : t ∈ [27] := by simpa using Array.mem_of_getElem? ht
    have hall : ([27].all fun u => !Tryd.prog.wantsStandIn u) = true := by kernel_rfl
    exact (show Tryd.prog.wantsStandIn t = false by simpa using List.all_eq_true.1 hall t hm)⟩

theorem card : Rows.ShardHashCardSaid :=
  Claim7.holds_tied_plain_at .later [] _ _ _ _ said (fun _ h => by cases h) (by kernel_rfl) (fun _ h => by cases h) shardHash_row_tie rfl ⟨rfl, rfl⟩ (by kernel_rfl) rfl plain (by kernel_rfl)
#print axioms card
end Go.Proofs.YtnnggcaifbinbaaDoor.shardHash
