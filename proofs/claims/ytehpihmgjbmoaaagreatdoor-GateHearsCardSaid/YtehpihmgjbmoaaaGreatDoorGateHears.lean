import Derived.Test.YtehpihmgjbmoaaaGreatDoorJoinA
import Derived.Test.YtehpihmgjbmoaaaGreatDoorGtHsL
namespace Go.Proofs.YtehpihmgjbmoaaaGreatDoor.gateHears
open Go.ChangeShapes Go.WideShapes Go.ChangeAt Go.RowKit
open Go.ChangeMaps (open_string shut_string)
set_option maxRecDepth 100000 in
theorem lifted (os:Os) (started:os.Started) (H:Type) (enc:TypeId × Value→H) (F:Stop.Interp) :
    ReturnsInHanded {} Tryz.checked os 5 .any ((OpenSpec.ofChange Rows.gateHearsSpec).preRow enc Tryz.prog Tryz.f5 Rows.gateHearsRow.domain false Rows.gateHearsRow.laid) (((OpenSpec.ofChange Rows.gateHearsSpec).at F).post enc Tryz.prog Tryz.f5 false true false false):=by
  have hw:(DataW.whole enc Tryz.prog ((laidWorld os #[]).forCall (fun _ _=>0) ⟨#[],#[.int .i64 0,.int .i64 0,.int .i64 0,.slice none 0 0],[]⟩).memory Tryz.f5.params.toList Rows.gateHearsSpec.vars false (#[.int .i64 0,.int .i64 0,.int .i64 0,.slice none 0 0]:Array Value).toList 8).map (fun x=>(x.1,x.2.1)) =
      some ([.lit (.int .i64 0),.lit (.int .i64 0),.lit (.int .i64 0),.nil],[]):=by kernel_rfl
  obtain ⟨⟨x1,x2,x3⟩,hx,hx1⟩:=Option.map_eq_some_iff.1 hw;simp only [Prod.mk.injEq] at hx1;obtain ⟨rfl,rfl⟩:=hx1;refine returnsInHanded_of_row (C:=Tryz.checked) (s:=OpenSpec.ofChange Rows.gateHearsSpec) own started (by kernel_rfl) Tryz.func5
    (witness_row_at (enc:=enc) (C:=Tryz.checked) false (laidWorld os #[]) #[.int .i64 0,.int .i64 0,.int .i64 0,.slice none 0 0] rfl (by kernel_rfl) (by kernel_rfl) (by kernel_rfl)
      (OpenSpec.preRow_of_cond 8 hx (by kernel_rfl) (fun k hk=>by cases hk) (by kernel_rfl) (laid_met os _))) ?_
  intro W base args ds gs before hval0 hW _ _ hsz hL hS _;have hval:∀ (j:Nat) t v,Tryz.f5.params[j]? = some t→args[j]? = some v→Value.okWide Tryz.prog W .any base t v:=hval0;have hW':=hW;obtain ⟨p,q,hA0,hV0,rfl,_,_⟩:=hW;have hA:DataW.TrodAll enc Tryz.prog W 0 (fun _=>true) true Tryz.f5.params.toList args.toList ds p:=hA0;rw [Tryz.params5] at hA hval;obtain ⟨v0,vs0,d0,ds0,p0,q0,hargs,rfl,rfl,h0,r0⟩:=trodAll_cons hA;obtain ⟨v1,vs1,d1,ds1,p1,q1,rfl,rfl,rfl,h1,r1⟩:=trodAll_cons r0;obtain ⟨v2,vs2,d2,ds2,p2,q2,rfl,rfl,rfl,h2,r2⟩:=trodAll_cons r1;obtain ⟨v3,vs3,d3,ds3,p3,q3,rfl,rfl,rfl,h3,r3⟩:=trodAll_cons r2;obtain ⟨rfl,rfl,rfl⟩:=trodAll_nil r3;obtain rfl:args=#[v0,v1,v2,v3]:=by cases args;simp_all
  obtain ⟨rfl,rfl⟩:=trodVars_none hV0;have hps0:∀ x ∈ p0,x.block < W.heap.size:=fun x hx=>hW'.lt x (by simp [hx])
  have hps1:∀ x ∈ p1,x.block < W.heap.size:=fun x hx=>hW'.lt x (by simp [hx])
  have hps2:∀ x ∈ p2,x.block < W.heap.size:=fun x hx=>hW'.lt x (by simp [hx])
  have hps3:∀ x ∈ p3,x.block < W.heap.size:=fun x hx=>hW'.lt x (by simp [hx])
  have fin:∀ (e:Ending) (W':World),e=.returned (.bool true)∧Below W.heap.size W W'→∃ v,e=.returned v∧((OpenSpec.ofChange Rows.gateHearsSpec).at F).post enc Tryz.prog Tryz.f5 false true false false W #[v0,v1,v2,v3] v W':=by
    rintro e W' ⟨rfl,bel⟩;have e1:((OpenSpec.ofChange Rows.gateHearsSpec).at F).fn H ([d0,d1,d2,d3]++[])={ results:=[.lit (.bool true)],args:=[d0,d1,d2,d3] }:=rfl;refine ⟨_,rfl,_,_,_,[],(p0++(p1++(p2++(p3++[])))),[],hW',?_,?_,?_,bel.frame _,fun h=>by cases h⟩
    · rw [e1];exact trodAll_mk1 (shut_bool Tryz.underlying4 _)
    · rw [e1];exact trodAll_cons_mk (Below.trod (by kernel_rfl) (by kernel_rfl) (of_decide_eq_true (by kernel_rfl)) h0 bel hps0) (trodAll_cons_mk (Below.trod (by kernel_rfl) (by kernel_rfl) (of_decide_eq_true (by kernel_rfl)) h1 bel hps1) (trodAll_cons_mk (Below.trod (by kernel_rfl) (by kernel_rfl) (of_decide_eq_true (by kernel_rfl)) h2 bel hps2) (trodAll_cons_mk (Below.trod (by kernel_rfl) (by kernel_rfl) (of_decide_eq_true (by kernel_rfl)) h3 bel hps3) trodAll_mk0)))
    · rw [e1];rfl
  obtain ⟨a0,rfl,_,_,wa0⟩:=open_int Tryz.underlying3 (hval 0 3 _ rfl rfl) h0;obtain ⟨a1,rfl,_,_,wa1⟩:=open_int Tryz.underlying3 (hval 1 3 _ rfl rfl) h1;obtain ⟨a2,rfl,_,_,wa2⟩:=open_int Tryz.underlying3 (hval 2 3 _ rfl rfl) h2;obtain ⟨b3,c3,L3,rfl,hn3,ha3,hq3⟩:=open_acts20 h3 (by obtain ⟨a,l,c,h⟩:=okWide_slice Tryz.underlying41 (hval 3 41 _ rfl rfl);exact ⟨a,l,c,h⟩);exact (law20_GateHears a0 a1 a2 b3 c3 L3 W (env_of hL hS) (wf_of wa0) (wf_of wa1) (wf_of wa2) hn3 ha3 hq3).mono fin
theorem said:Rows.GateHearsSaid :=
  OpenClaim.holds_of_cond 5 Tryz.f5 rfl rfl rfl rfl rfl rfl rfl ⟨rfl,rfl,rfl,rfl,rfl⟩ rfl rfl rfl rfl rfl (by kernel_rfl) Tryz.func5 (by kernel_rfl)
    (of_decide_eq_true (by kernel_rfl)) (by unfold Func.isWrapper;first | (rw [if_pos (by decide +kernel)];kernel_rfl) | (rw [if_neg (by decide +kernel)];exact ⟨rfl,rfl⟩))
    (fun os started H enc _ F=>by rw [OpenClaim.pre_eq_preRow];exact lifted os started H enc F)
theorem plain (f : FuncId) (fn : Func) (hf : Tryz.pinned.checked.prog.funcNamed "relayhouse/relayhouselaw20.GateHears" = some f) (hfn : Tryz.pinned.checked.prog.funcs[f]? = some fn) :
    false=Tryz.pinned.checked.prog.looks []∧∀ (j:Nat) t,fn.params[j]? = some t→Tryz.pinned.checked.prog.wantsStandIn t=false:=by
  obtain rfl : f = 5 := Option.some.inj ((show Tryz.prog.funcNamed "relayhouse/relayhouselaw20.GateHears" = some 5 by kernel_rfl).symm.trans hf) |>.symm; obtain rfl : fn = Tryz.f5 := (Option.some.inj (Tryz.func5.symm.trans hfn)).symm; exact ⟨by kernel_rfl, fun j t ht => by
    rw [Tryz.params5] at ht;have hm:t ∈ [3,3,3,41]:=by simpa using Array.mem_of_getElem? ht
    have hall:([3,3,3,41].all fun u=>!Tryz.prog.wantsStandIn u)=true:=by kernel_rfl
    exact (show Tryz.prog.wantsStandIn t=false by simpa using List.all_eq_true.1 hall t hm)⟩
theorem card:Rows.GateHearsCardSaid :=
  Claim7.holds_tied_plain_at .later [] _ _ _ _ said (fun _ h=>by cases h) (by kernel_rfl) (fun _ h=>by cases h) gateHears_row_tie rfl ⟨rfl,rfl⟩ (by kernel_rfl) rfl plain (by kernel_rfl)
#print axioms card
end Go.Proofs.YtehpihmgjbmoaaaGreatDoor.gateHears
