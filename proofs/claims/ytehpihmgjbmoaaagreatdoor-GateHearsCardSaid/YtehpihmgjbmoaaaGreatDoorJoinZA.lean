import Derived.Test.YtehpihmgjbmoaaaGreatDoorEng
import Derived.Test.YtehpihmgjbmoaaaGreatDoorJoinM
import Derived.Test.YtehpihmgjbmoaaaGreatDoorJoinC
namespace Go.Proofs.YtehpihmgjbmoaaaGreatDoor
open Go.RowKit
def numL:Nat→List Value→List (Nat × Value)
  | _,[]=>[]
  | i,v::r=>(i,v)::numL (i+1) r
theorem numL_at:∀ (l:List Value) (i j:Nat) (v:Value),(numL i l).lookup j=some v→i≤j∧l[j - i]? = some v
  | [],i,j,v,h=>by simp [numL] at h
  | x::r,i,j,v,h=>by
    simp only [numL,List.lookup_cons] at h;by_cases e:j=i
    · subst e
      rw [beq_self_eq_true] at h;injection h with h
      subst h;exact ⟨Nat.le_refl _,by simp⟩
    · rw [beq_eq_false_iff_ne.2 e] at h
      obtain ⟨h1,h2⟩:=numL_at r (i+1) j v h;refine ⟨by omega,?_⟩;rw [show j - i=(j - (i+1))+1 by omega,List.getElem?_cons_succ];exact h2
section
variable {P:Program} {Q:Exit→Act→World→Prop} {n:Nat} {wb w0 w:World} {G:Nat→Prop} {I:Chk} {B:List Bx} {s:Sg}
theorem Kp.begin (h:Hp wb B I w):Kp wb w (Fp B I) B I w:=⟨h,Only.refl _ _,fun j hj=>Or.inl hj⟩
def codeOf (fn:Func):Code:=fn.body.getD .skip
theorem en_call {f:FuncId} {fn:Func} {args:List Value} {RR:Ending→World→Prop} (hf:P.funcs[f]? = some fn) (HK:Hp wb B I w) (h:Ok P (bodyPost P fn RR) fn.ntmps wb w (Fp B I) I ⟨.code (codeOf fn) [],numL 0 args,B⟩)
    (hn:Nat.ble args.length fn.ntmps=true:=by kernel_rfl) (hb:fn.body=some (codeOf fn):=by kernel_rfl):Calls P f args.toArray w RR:=by
  refine calls_of_wp hf hb (h _ _ ⟨?_,rfl,fun i v hi=>?_⟩ (Kp.begin HK))
  · have:=Nat.le_of_ble_eq_true hn
    simp only [Array.size_append,List.size_toArray,Array.size_replicate];omega
  · obtain ⟨_,h2⟩:=numL_at _ _ _ _ hi
    rw [Nat.sub_zero] at h2;have hl:=(List.getElem?_eq_some_iff.1 h2).1;rw [Array.getElem?_append_left (by simpa using hl)];simpa using h2
def retL (P:Program) (B:List Bx) (L:List (Nat × Value)):List ResultVar→List Nat→Option (List Value × List (Cm × Cm))
  | [],_=>some ([],[])
  | .tmp t::r,ks=>match L.lookup t,retL P B L r ks with
    | some v,some (vs,C)=>some (v::vs,C)
    | _,_=>none
  | .cell t ty::r,ks=>match ks with
    | k::ks=>match L.lookup t,B[k]? with
      | some p,some x=>match ldv P ty ⟨x.blk,0,x.cells⟩ 0,retL P B L r ks with
        | some v,some (vs,C)=>some (v::vs,(.v p,.v (.pointer (some ⟨x.blk,0,none⟩)))::C)
        | _,_=>none
      | _,_=>none
    | []=>none
def one (vs:List Value):Value:=match vs with
  | [v]=>v
  | vs=>.tuple vs.toArray
def atEnd:Cfg→Bool
  | .out .ret []=>true
  | .out .normal []=>true
  | _=>false
def ret1 (P:Program) (fn:Func) (ks:List Nat) (s:Sg):Option (Value × List Cm):=if atEnd (ctl s.L 300 s.cfg) then
    match retL P s.B s.L fn.results.toList ks with
    | some (vs,C)=>some (one vs,C.map (·.1))
    | none=>none
  else none
def ret2 (P:Program) (fn:Func) (ks:List Nat) (s:Sg) (v:Value):Option (Value × List Cm):=match retL P s.B s.L fn.results.toList ks with
  | some (_,C)=>some (v,C.map (·.2))
  | none=>some (v,[.n 0])
theorem cell_run {w:World} {x:Bx} {ty:TypeId} {v:Value} (hb:BoxAt w x.blk x.cells.toArray x.ty) (h:ldv P ty ⟨x.blk,0,x.cells⟩ 0=some v):(loadVar ty ⟨x.blk,0,none⟩).run P w=.ok v w:=by
  have hr:w.rangeAt x.blk 0 x.cells:=by have:=hb.range;simpa using this
  have hl:=ldv_run (P:=P) (ob:=⟨x.blk,0,x.cells⟩) hr h;simpa [Instr.loadAt,Instr.sureAddr,Sem.run_bind,Sem.run_pure,Result.andThen_ok] using hl
def resG (a:Act):ResultVar→Sem Value
  | .tmp t=>pure (a.tmps.getD t undef)
  | .cell b t=>do loadVar t (← asAddr (a.tmps.getD b undef))
theorem retL_ok {a:Act} {L:List (Nat × Value)} (F:FrL n L a) (hB:∀ x ∈ B,BoxAt w x.blk x.cells.toArray x.ty):∀ (rs:List ResultVar) (ks:List Nat) (vs:List Value) (C:List (Cm × Cm)),retL P B L rs ks=some (vs,C)→C.map (·.1)=C.map (·.2)→(rs.mapM (resG a)).run P w=.ok vs w
  | [],ks,vs,C,h,_=>by
    simp only [retL] at h;injection h with h
    injection h with h1 _
    subst h1;rfl
  | .tmp t::r,ks,vs,C,h,hC=>by
    simp only [retL] at h;split at h
    · rename_i v us C2 hv hr
      injection h with h
      injection h with h1 h2
      subst h1 h2;have ih:=retL_ok F hB r ks us C2 hr hC;have hg:(resG a (.tmp t)).run P w=.ok v w:=by
        show Sem.run P (pure (a.tmps.getD t undef)) w=_;rw [F.get t hv];rfl
      rw [List.mapM_cons];simp only [Sem.run_bind,Sem.run_pure,Result.andThen_ok,ih,hg]
    · cases h
  | .cell t ty::r,ks,vs,C,h,hC=>by
    simp only [retL] at h;split at h
    · split at h
      · rename_i p x hp hx
        split at h
        · rename_i v us C2 hv hr
          injection h with h
          injection h with h1 h2
          subst h1 h2;simp only [List.map_cons,List.cons.injEq,Cm.v.injEq] at hC;obtain ⟨e,hC⟩:=hC;subst e;have ih:=retL_ok F hB r _ us C2 hr hC;have hl:=cell_run (P:=P) (hB x (List.mem_of_getElem? hx)) hv;have hg:(resG a (.cell t ty)).run P w=.ok v w:=by
            show Sem.run P (do loadVar ty (← asAddr (a.tmps.getD t undef))) w=_;rw [F.get t hp];simp only [asAddr,Sem.run_bind,Sem.run_pure,Result.andThen_ok,hl]
          rw [List.mapM_cons];simp only [Sem.run_bind,Sem.run_pure,Result.andThen_ok,ih,hg]
        · cases h
      · cases h
    · cases h
theorem res_run {fn:Func} {a:Act} {rs:List ResultVar} (h:fn.results=rs.toArray) {vs:List Value} (hr:(rs.mapM (resG a)).run P w=.ok vs w):(results fn a.tmps).run P w=.ok (one vs) w:=by
  have e:results fn a.tmps=(do let vs ← rs.toArray.mapM (resG a);pure (if h:vs.size=1 then vs[0] else .tuple vs)):=by
    unfold results;rw [h];rfl
  rw [e,List.mapM_toArray];simp only [Sem.run_bind,Sem.run_pure,map_eq_pure_bind,hr,Result.andThen_ok];cases vs with
  | nil=>rfl
  | cons v r=>cases r <;> rfl
theorem en_retK {fn:Func} {RR:Ending→World→Prop} (v:Value) (ks:List Nat) (k:∀ w,Kp wb w0 G s.B I w→RR (.returned v) w) (h:ret1 P fn ks s=ret2 P fn ks s v:=by kernel_rfl):Ok P (bodyPost P fn RR) n wb w0 G I s:=by
  intro a w F HK;refine ctl_ok F 300 s.cfg ?_;unfold ret1 ret2 at h;split at h
  · rename_i he
    cases hr:retL P s.B s.L fn.results.toList ks with
    | none =>
      rw [hr] at h;cases h
    | some r =>
      obtain ⟨vs,C⟩:=r;rw [hr] at h;injection h with h
      injection h with h1 h2
      subst h1;have hrun:(results fn a.tmps).run P w=.ok (one vs) w:=res_run (rs:=fn.results.toList) (by simp) (retL_ok F HK.hp.box _ _ _ _ hr h2);cases hc:ctl s.L 300 s.cfg with
      | out e st =>
        rw [hc] at he;cases e <;> cases st <;> first | (cases he;done) | (exact ⟨F.defers,_,hrun,k w HK⟩)
      | _=>rw [hc] at he;cases he
  · split at h <;> cases h
def hdE (P:Program) (s:Sg):Option (Sem Next × Option Nat × (List (Nat × Nat × Nat)→Cfg) × Option (List Ob × Rd)):=match ctl s.L 300 s.cfg with
  | .run ops (o::os) st=>match wantsT ops s.L o with
    | some true=>if noSel o.op && o.op.operands.toList.all (inDom s.L) then some (execOp (known s.L) o,o.dst,fun _=>.run ops os st,none) else none
    | _=>none
  | .any ops listed (m+1) _ bs ob z st=>match Region.ready .any ops listed with
    | [i]=>match ops[i]? with
      | some o=>match wantsT ops s.L o with
        | some true=>if noSel o.op && o.op.operands.toList.all (inDom s.L) then some (execOp (known s.L) o,o.dst,fun ks=>.any ops (listed.setIfInBounds i true) m ks bs ob z st,if Nat.beq i z then none else some (bs,ob)) else none
        | _=>none
      | none=>none
    | _=>none
  | _=>none
def addL (L:List (Nat × Value)) (d:Option Nat) (v:Value):List (Nat × Value):=match d with
  | some d=>(d,v)::L
  | none=>L
def nxE (P:Program) (s:Sg) (ks:List (Nat × Nat × Nat)) (v:Value) (B:List Bx):Sg:=match hdE P s with
  | some (_,d,c,_)=>⟨c ks,addL s.L d v,B⟩
  | none=>⟨.out .normal [],[],[]⟩
def hdT (P:Program) (n:Nat) (s:Sg):Option (Sem Next):=match hdE P s with
  | some (T,some d,_)=>if Nat.blt d n then some T else none
  | some (T,none,_)=>some T
  | none=>none
def hdC (P:Program) (n:Nat) (s:Sg):Option (FuncId × Array Value):=match hdT P n s with
  | some T=>match alone P T with
    | some (.enter f args)=>some (f,args)
    | _=>none
  | none=>none
def nd1 (N:Option (List Ob × Rd)) (ks:List (Nat × Nat × Nat)) (B:List Bx):List (Option Ob):=match N with
  | some _=>ks.map (pickO B)
  | none=>[]
def nd2 (N:Option (List Ob × Rd)):List (Option Ob):=match N with
  | some (bs,_)=>bs.map some
  | none=>[]
def ndO (N:Option (List Ob × Rd)):Rd:=match N with
  | some (_,ob)=>ob
  | none=>r0
def hdN (P:Program) (s:Sg):Option (List Ob × Rd):=match hdE P s with
  | some (_,_,_,N)=>N
  | none=>none
def need1 (P:Program) (s:Sg) (ks:List (Nat × Nat × Nat)) (B:List Bx):List (Option Ob):=nd1 (hdN P s) ks B
def need2 (P:Program) (s:Sg):List (Option Ob):=nd2 (hdN P s)
def needO (P:Program) (s:Sg):Rd:=ndO (hdN P s)
theorem hd_ok {T:Sem Next} (h:hdT P n s=some T) {a:Act} {w:World} (F:FrL n s.L a) (k:∀ (o:Oper) (K:Act→World→Prop) (Q':Exit→Act→World→Prop),o.dst.all (fun d=>Nat.blt d n)=true→execOp a.eval o=T→(∀ ks v B' w' I',Kp wb w0 G B' I' w'→need1 P s ks B'=need2 P s→RdOk P w' (needO P s)→(nxE P s ks v B').L=addL s.L o.dst v→((nxE P s ks v B').cfg.goal P Q (a.put o.dst v) w')→K (a.put o.dst v) w')→(∀ ks v B',(nxE P s ks v B').L=addL s.L o.dst v∧(nxE P s ks v B').B=B')→o.wp P a w K Q'):s.cfg.goal P Q a w:=by
  refine ctl_ok F 300 s.cfg ?_;cases hh:hdE P s with
  | none=>simp only [hdT,hh] at h;cases h
  | some r =>
    obtain ⟨T',d,c,N⟩:=r;have hn:∀ ks v B',nxE P s ks v B'=⟨c ks,addL s.L d v,B'⟩:=fun ks v B'=>by
      unfold nxE;rw [hh]
    have hT:T'=T∧d.all (fun d=>Nat.blt d n)=true:=by
      cases d with
      | none=>simp only [hdT,hh] at h;injection h with h;exact ⟨h,rfl⟩
      | some d =>
        simp only [hdT,hh] at h;split at h
        · rename_i hd
          injection h with h;exact ⟨h,hd⟩
        · cases h
    have hN:hdN P s=N:=by unfold hdN;rw [hh]
    unfold hdE at hh;split at hh
    · rename_i ops o os st hc
      split at hh
      · rename_i hw
        split at hh
        · rename_i hd
          injection hh with hh
          injection hh with h1 hh
          injection hh with h2 hh
          injection hh with h3 h4
          subst h2 h3 h4;rw [hc];rw [Bool.and_eq_true] at hd;refine wpList_step fun K hK=>?_
          rw [if_pos (wantsT_spec F hw)];refine k o K _ hT.2 (by rw [← hT.1,← h1];exact execOp_congr o (fun cs b e=>by have h3:=hd.1;rw [e] at h3;cases h3) (fun x hx=>known_ev F (List.all_eq_true.1 hd.2 x (by simpa using hx)))) (fun ks v B' w' I' _ _ _ _ hg=>?_) (fun ks v B'=>by rw [hn];exact ⟨rfl,rfl⟩);rw [hn] at hg;exact hK _ _ hg
        · cases hh
      · cases hh
    · rename_i ops listed m ks0 bs ob z st hc
      split at hh
      · rename_i i hr
        split at hh
        · rename_i o ho
          split at hh
          · rename_i hw
            split at hh
            · rename_i hd
              injection hh with hh
              injection hh with h1 hh
              injection hh with h2 hh
              injection hh with h3 h4
              subst h2 h3;rw [hc];rw [Bool.and_eq_true] at hd;intro hcl;refine AnyT.step hr ho (fun K hK=>?_);rw [if_pos (wantsT_spec F hw)];refine k o K _ hT.2 (by rw [← hT.1,← h1];exact execOp_congr o (fun cs b e=>by have h3:=hd.1;rw [e] at h3;cases h3) (fun x hx=>known_ev F (List.all_eq_true.1 hd.2 x (by simpa using hx)))) (fun ks v B' w' I' HK' e1 e2 _ hg=>?_) (fun ks v B'=>by rw [hn];exact ⟨rfl,rfl⟩);rw [hn] at hg;refine hK.out _ _ (fun hz=>?_) (fun _=>hg (closed_set hcl (by rw [hr];exact List.mem_singleton.2 rfl)));unfold need1 need2 at e1;unfold needO at e2;rw [if_neg (fun e=>hz (Nat.eq_of_beq_eq_true e))] at h4;subst h4;rw [hN] at e1 e2;exact sb_of e1 HK' e2
            · cases hh
          · cases hh
        · cases hh
      · cases hh
    · cases hh
theorem put_ok {L:List (Nat × Value)} {a:Act} (F:FrL n L a) {d:Option Nat} (hd:d.all (fun d=>Nat.blt d n)=true) (v:Value):FrL n (addL L d v) (a.put d v):=by
  cases d with
  | none=>exact F
  | some d=>exact F.put d v (Nat.le_of_ble_eq_true hd)
theorem en_doM {α:Type} {v:α→Value} {B':α→List Bx} {I':α→Chk} (f:FuncId) (args:Array Value) (B0:List Bx) (hc:∀ w,Kp wb w0 G B0 I w→Calls P f args w fun e w'=>∃ x,e=.returned (v x)∧Kp wb w0 G (B' x) (I' x) w') (ks:List (Nat × Nat × Nat)) (O:Rd) (hM:∀ x w,Kp wb w0 G (B' x) (I' x) w→RdOk P w O)
    (k:∀ x,Ok P Q n wb w0 G (I' x) (nxE P s ks (v x) (B' x))) (h:hdC P n s=some (f,args):=by kernel_rfl) (hB:s.B=B0:=by kernel_rfl) (hS:∀ x,need1 P s ks (B' x)=need2 P s:=by intro x;kernel_rfl) (hO:needO P s=O:=by kernel_rfl):Ok P Q n wb w0 G I s:=by
  intro a w F HK;subst hB hO;unfold hdC at h;split at h
  · rename_i T hT
    split at h
    · rename_i f' args' hA
      injection h with h
      injection h with h1 h2
      subst h1 h2;refine hd_ok (wb:=wb) (w0:=w0) (G:=G) hT F (fun o K Q' hd he hnext hl=>?_);unfold Oper.wp;rw [he,alone_run _ _ hA w];refine Calls.mono (hc w HK) ?_;rintro e w' ⟨x,rfl,HK'⟩;have hk:=k x _ w' (by rw [(hl ks (v x) (B' x)).1];exact put_ok F hd (v x)) (by rw [(hl ks (v x) (B' x)).2];exact HK');exact hnext ks (v x) (B' x) w' (I' x) HK' (hS x) (hM x w' HK') (hl _ _ _).1 hk
    · cases h
  · cases h
theorem en_do {α:Type} {v:α→Value} {B':α→List Bx} {I':α→Chk} (f:FuncId) (args:Array Value) (B0:List Bx) (hc:∀ w,Kp wb w0 G B0 I w→Calls P f args w fun e w'=>∃ x,e=.returned (v x)∧Kp wb w0 G (B' x) (I' x) w') (ks:List (Nat × Nat × Nat))
    (k:∀ x,Ok P Q n wb w0 G (I' x) (nxE P s ks (v x) (B' x))) (h:hdC P n s=some (f,args):=by kernel_rfl) (hB:s.B=B0:=by kernel_rfl) (hS:∀ x,need1 P s ks (B' x)=need2 P s:=by intro x;kernel_rfl) (hO:needO P s=r0:=by kernel_rfl):Ok P Q n wb w0 G I s :=
  en_doM f args B0 hc ks r0 (fun _ _ _=>rd0) k h hB hS hO
theorem en_opM {α:Type} {v:α→Value} {B':α→List Bx} {I':α→Chk} (T:Sem Next) (B0:List Bx) (hc:∀ w,Kp wb w0 G B0 I w→∃ x w' r,T.run P w=.ok r w'∧(r=.value (v x)∨r=.skip∧v x=undef)∧Kp wb w0 G (B' x) (I' x) w') (ks:List (Nat × Nat × Nat)) (O:Rd) (hM:∀ x w,Kp wb w0 G (B' x) (I' x) w→RdOk P w O)
    (k:∀ x,Ok P Q n wb w0 G (I' x) (nxE P s ks (v x) (B' x))) (h:hdT P n s=some T:=by kernel_rfl) (hB:s.B=B0:=by kernel_rfl) (hS:∀ x,need1 P s ks (B' x)=need2 P s:=by intro x;kernel_rfl) (hO:needO P s=O:=by kernel_rfl):Ok P Q n wb w0 G I s:=by
  intro a w F HK;subst hB hO;refine hd_ok (wb:=wb) (w0:=w0) (G:=G) h F (fun o K Q' hd he hnext hl=>?_);obtain ⟨x,w',r,h1,h2,HK'⟩:=hc w HK;have hk:=k x _ w' (by rw [(hl ks (v x) (B' x)).1];exact put_ok F hd (v x)) (by rw [(hl ks (v x) (B' x)).2];exact HK');have hK:=hnext ks (v x) (B' x) w' (I' x) HK' (hS x) (hM x w' HK') (hl _ _ _).1 hk;unfold Oper.wp;rw [he,h1];rcases h2 with rfl | ⟨rfl,e⟩
  · exact hK
  · show K (a.put o.dst undef) w'
    rw [← e];exact hK
theorem en_op {α:Type} {v:α→Value} {B':α→List Bx} {I':α→Chk} (T:Sem Next) (B0:List Bx) (hc:∀ w,Kp wb w0 G B0 I w→∃ x w' r,T.run P w=.ok r w'∧(r=.value (v x)∨r=.skip∧v x=undef)∧Kp wb w0 G (B' x) (I' x) w') (ks:List (Nat × Nat × Nat))
    (k:∀ x,Ok P Q n wb w0 G (I' x) (nxE P s ks (v x) (B' x))) (h:hdT P n s=some T:=by kernel_rfl) (hB:s.B=B0:=by kernel_rfl) (hS:∀ x,need1 P s ks (B' x)=need2 P s:=by intro x;kernel_rfl) (hO:needO P s=r0:=by kernel_rfl):Ok P Q n wb w0 G I s :=
  en_opM T B0 hc ks r0 (fun _ _ _=>rd0) k h hB hS hO
def stopJ:Cfg→Option (Act→World→Prop)
  | .out .normal (.stop J::_)=>some J
  | _=>none
theorem en_stop {J:Act→World→Prop} {L:List (Nat × Value)} {B0:List Bx} (k:∀ a w,FrL n L a→Kp wb w0 G B0 I w→J a w) (h:stopJ (ctl s.L 300 s.cfg)=some J:=by kernel_rfl) (hL:picks s.L (L.map (·.1))=some L:=by kernel_rfl) (hB:s.B=B0:=by kernel_rfl):Ok P Q n wb w0 G I s:=by
  intro a w F HK;subst hB;refine ctl_ok F 300 s.cfg ?_;unfold stopJ at h;split at h
  · rename_i hc
    injection h with h
    subst h;rw [hc];exact k a w (F.cut L hL) HK
  · cases h
theorem loop_ix {c:Code} {α:Type} (m:α→Nat) (J:α→Act→World→Prop) (round:∀ x a w,J x a w→c.wp P (Exit.then (fun a' w'=>∃ y,m y < m x∧J y a' w') Q) a w) (x0:α) {a:Act} {w:World} (h0:J x0 a w):(Code.loop c).wp P Q a w:=by
  intro b k cs;have key:∀ n x a w,m x=n→J x a w→∃ e a' w',Q e a' w'∧Arrives P (lone (b.at a (.code c::.inLoop c::k)) cs w) b k cs e a' w':=by
    intro n;induction n using Nat.strongRecOn with
    | _ n ih =>
      intro x a w hn hI;obtain ⟨e,a₁,w₁,hq,harr⟩:=round x a w hI b (.inLoop c::k) cs;cases e with
      | normal =>
        obtain ⟨y,hlt,hI₁⟩:=hq;obtain ⟨e₂,a₂,w₂,hq₂,harr₂⟩:=ih (m y) (hn ▸ hlt) y a₁ w₁ rfl hI₁;exact ⟨e₂,a₂,w₂,hq₂,.of_steps (Steps.trans harr (.one step_inLoop)) harr₂⟩
      | exit id=>exact ⟨_,a₁,w₁,hq,.pass (x:=.inLoop c) rfl (fun _ _=>.inl (by simp)) harr⟩
      | goto l=>exact ⟨_,a₁,w₁,hq,.pass (x:=.inLoop c) rfl (fun _ _=>.inl (by simp)) harr⟩
      | ret=>exact ⟨_,a₁,w₁,hq,.pass (x:=.inLoop c) rfl (fun _ _=>.inl (by simp)) harr⟩
      | panic ch=>exact ⟨_,a₁,w₁,hq,.pass (x:=.inLoop c) rfl (fun _ _=>.inl (by simp)) harr⟩
      | outgrown=>exact ⟨_,a₁,w₁,hq,.pass (x:=.inLoop c) rfl (fun _ _=>.inl (by simp)) harr⟩
  obtain ⟨e,a',w',hq,harr⟩:=key _ x0 a w rfl h0;exact ⟨e,a',w',hq,.of_steps (.one step_loop) harr⟩
def loopC (s:Sg):Code:=match ctl s.L 300 s.cfg with
  | .code (.loop c) _=>c
  | _=>.skip
def loopS (s:Sg):List It:=match ctl s.L 300 s.cfg with
  | .code (.loop _) st=>st
  | _=>[]
def isLoop (s:Sg):Bool:=match ctl s.L 300 s.cfg with
  | .code (.loop _) _=>true
  | _=>false
theorem en_loop {α:Type} (m:α→Nat) (Lx:α→List (Nat × Value)) (Bx':α→List Bx) (Ix:α→Chk) (x0:α) (hI:I=Ix x0)
    (k:∀ x (J:Act→World→Prop),(∀ y a w,m y < m x→FrL n (Lx y) a→Kp wb w0 G (Bx' y) (Ix y) w→J a w)→Ok P Q n wb w0 G (Ix x) ⟨.code (loopC s) (.stop J::loopS s),Lx x,Bx' x⟩)
    (hl:isLoop s=true:=by kernel_rfl) (hL:picks s.L ((Lx x0).map (·.1))=some (Lx x0):=by kernel_rfl) (hB:s.B=Bx' x0:=by kernel_rfl):Ok P Q n wb w0 G I s:=by
  intro a w F HK;subst hI;refine ctl_ok F 300 s.cfg ?_;unfold isLoop at hl;split at hl
  · rename_i c st hc
    have h1:loopC s=c:=by unfold loopC;rw [hc]
    have h2:loopS s=st:=by unfold loopS;rw [hc]
    rw [h1,h2] at k;rw [hc];refine loop_ix m (fun x a w=>FrL n (Lx x) a∧Kp wb w0 G (Bx' x) (Ix x) w) (fun x a w hx=>?_) x0 ⟨F.cut _ hL,hB ▸ HK⟩;exact k x (fun a' w'=>∃ y,m y < m x∧FrL n (Lx y) a'∧Kp wb w0 G (Bx' y) (Ix y) w') (fun y a w h1 h2 h3=>⟨y,h1,h2,h3⟩) a w hx.1 hx.2
  · cases hl
def putS (J:Act→World→Prop):Nat→List It→Option (List It)
  | 0,.code _::r=>some (.stop J::r)
  | d+1,x::r=>match putS J d r with
    | some r'=>some (x::r')
    | none=>none
  | _,_=>none
def dropS:Nat→List It→List It
  | 0,l=>l
  | d+1,_::r=>dropS d r
  | _+1,[]=>[]
def stk:Cfg→List It
  | .code _ st=>st
  | .run _ _ st=>st
  | .any _ _ _ _ _ _ _ st=>st
  | .out _ st=>st
def putC (c:Cfg) (st:List It):Cfg:=match c with
  | .code x _=>.code x st
  | .run ops os _=>.run ops os st
  | .any ops li m ks bs ob z _=>.any ops li m ks bs ob z st
  | .out e _=>.out e st
theorem putS_ok {J:Act→World→Prop}:∀ (d:Nat) (st st':List It),putS J d st=some st'→(∀ a w,J a w→(Cfg.out .normal (dropS d st)).goal P Q a w)→∀ e a w,after P Q st' e a w→after P Q st e a w
  | 0,.code y::r,st',h,hJ,e,a,w,k=>by
    simp only [putS] at h;injection h with h
    subst h;cases e <;> first | exact hJ a w k | exact k
  | d+1,x::r,st',h,hJ,e,a,w,k=>by
    simp only [putS] at h;split at h
    · rename_i r' hr
      injection h with h
      subst h;have ih:=putS_ok d r r' hr hJ;cases x with
      | code y =>
        cases e with
        | normal=>exact Code.wp_mono ih k
        | _=>exact ih _ _ _ k
      | blk id =>
        cases e with
        | exit j =>
          show Exit.inBlock _ _ _ _ _;have k:Exit.inBlock id (after P Q r') (.exit j) a w:=k;simp only [Exit.inBlock] at k ⊢;split
          · rename_i hj;rw [if_pos hj] at k;exact ih _ _ _ k
          · rename_i hj;rw [if_neg hj] at k;exact ih _ _ _ k
        | _=>exact ih _ _ _ k
      | stop J2 =>
        cases e with
        | normal=>exact k
        | _=>exact ih _ _ _ k
    · cases h
  | 0,[],_,h,_,_,_,_,_=>by cases h
  | 0,.blk _::_,_,h,_,_,_,_,_=>by cases h
  | 0,.stop _::_,_,h,_,_,_,_,_=>by cases h
  | _+1,[],_,h,_,_,_,_,_=>by cases h
theorem letsOut_mono {Q Q':Exit→Act→World→Prop} (hQ:∀ e a w,Q e a w→Q' e a w) (h:LetsOut Q):LetsOut Q':=by
  obtain ⟨a,w,h⟩:=h;exact ⟨a,w,hQ _ _ _ h⟩
theorem oper_mono {Q Q':Exit→Act→World→Prop} (hQ:∀ e a w,Q e a w→Q' e a w) {o:Oper} {a:Act} {w:World} {K K':Act→World→Prop} (hK:∀ a w,K a w→K' a w) (hh:o.wp P a w K Q):o.wp P a w K' Q':=by
  unfold Oper.wp at *;generalize (execOp a.eval o).run P w=r at *;cases r with
  | ok n w' =>
    cases n <;> simp only [Oper.upon] at hh ⊢ <;>
      first
        | exact hK _ _ hh
        | exact Calls.mono hh (fun e w'' he=>by cases e <;> first | exact hK _ _ he | exact hQ _ _ _ he | exact letsOut_mono hQ he)
        | exact Rows.mono hh (fun _ _ he=>hK _ _ he)
  | halt x w'=>cases x <;> simp only [Oper.upon] at hh ⊢ <;> exact hQ _ _ _ hh
theorem noPanic_mono {Q Q':Exit→Act→World→Prop} (hQ:∀ e a w,Q e a w→Q' e a w) (e:Exit) (a:Act) (w:World) (h:NoPanic Q e a w):NoPanic Q' e a w:=by
  cases e <;> first | exact hQ _ _ _ h | exact h
theorem anyT_mono {Q Q':Exit→Act→World→Prop} (hQ:∀ e a w,Q e a w→Q' e a w) {ops:Array Oper} {S:World→Prop} {z:Nat}:∀ (m:Nat) (li:Array Bool) (a:Act) (w:World),AnyT P .any ops Q S z m li a w→AnyT P .any ops Q' S z m li a w
  | 0,_,_,_,h=>⟨h.1,hQ _ _ _ h.2⟩
  | m+1,li,a,w,h=>by
    refine ⟨fun hr=>hQ _ _ _ (h.1 hr),fun i hi=>?_⟩;have h1:=h.2 i hi;unfold wpOp at h1 ⊢;split
    · rename_i ho
      rw [ho] at h1;exact ⟨h1.1,anyT_mono hQ m _ _ _ h1.2⟩
    · rename_i o ho
      rw [ho] at h1;simp only at h1
      split
      · rename_i hw
        rw [if_pos hw] at h1;exact h1.imp (oper_mono hQ (fun b u k=>⟨k.1,anyT_mono hQ m _ _ _ k.2⟩)) (fun k=>⟨k.1,letsOut_mono hQ k.2⟩)
      · rename_i hw
        rw [if_neg hw] at h1;exact ⟨h1.1,anyT_mono hQ m _ _ _ h1.2⟩
theorem putC_ok {c:Cfg} {st':List It} (h:∀ e a w,after P Q st' e a w→after P Q (stk c) e a w) {a:Act} {w:World} (k:(putC c st').goal P Q a w):c.goal P Q a w:=by
  cases c with
  | code x st=>exact Code.wp_mono h k
  | run ops os st =>
    have hm:∀ (l:List Oper) (a:Act) (w:World),wpList P ops (after P Q st') l a w→wpList P ops (after P Q st) l a w:=by
      intro l;induction l with
      | nil=>intro a w h1;exact h _ _ _ h1
      | cons o l ih =>
        intro a w h1;unfold wpList at h1 ⊢;split
        · rename_i hw
          rw [if_pos hw] at h1;exact h1.imp (oper_mono h ih) (fun h2=>⟨h2.1,letsOut_mono h h2.2⟩)
        · rename_i hw
          rw [if_neg hw] at h1;exact ih _ _ h1
    exact hm os a w k
  | any ops li m ks bs ob z st=>exact fun hc=>anyT_mono (noPanic_mono h) m li a w (k hc)
  | out e st=>exact h _ _ _ k
def meetS (s:Sg) (d:Nat) (J:Act→World→Prop):Sg:=⟨putC (ctl s.L 300 s.cfg) ((putS J d (stk (ctl s.L 300 s.cfg))).getD []),s.L,s.B⟩
def meetN (s:Sg) (d:Nat):Cfg:=.out .normal (dropS d (stk (ctl s.L 300 s.cfg)))
theorem en_meet {α:Type} (d:Nat) (Lx:α→List (Nat × Value)) (Bx':α→List Bx) (Ix:α→Chk)
    (k1:∀ J:Act→World→Prop,(∀ x a w,FrL n (Lx x) a→Kp wb w0 G (Bx' x) (Ix x) w→J a w)→Ok P Q n wb w0 G I (meetS s d J))
    (k2:∀ x,Ok P Q n wb w0 G (Ix x) ⟨meetN s d,Lx x,Bx' x⟩) (h:(putS (fun _ _=>False) d (stk (ctl s.L 300 s.cfg))).isSome=true:=by kernel_rfl):Ok P Q n wb w0 G I s:=by
  intro a w F HK;refine ctl_ok F 300 s.cfg ?_;have hk:=k1 (fun a w=>∃ x,FrL n (Lx x) a∧Kp wb w0 G (Bx' x) (Ix x) w) (fun x a w h1 h2=>⟨x,h1,h2⟩) a w F HK;have hsome:∀ (J J':Act→World→Prop) (d:Nat) (st:List It),(putS J d st).isSome=(putS J' d st).isSome:=by
    intro J J' d;induction d with
    | zero=>intro st;cases st with
      | nil=>rfl
      | cons x r=>cases x <;> rfl
    | succ d ih=>intro st;cases st with
      | nil=>rfl
      | cons x r =>
        have:=ih r;simp only [putS];cases h1:putS J d r <;> cases h2:putS J' d r <;> simp_all
  rw [hsome _ (fun a w=>∃ x,FrL n (Lx x) a∧Kp wb w0 G (Bx' x) (Ix x) w)] at h;obtain ⟨st',hst⟩:=Option.isSome_iff_exists.1 h;unfold meetS at hk;rw [hst] at hk;refine putC_ok (putS_ok d _ st' hst ?_) hk;rintro a w ⟨x,h1,h2⟩;exact k2 x a w h1 h2
end
end Go.Proofs.YtehpihmgjbmoaaaGreatDoor
namespace Go.Proofs.YtehpihmgjbmoaaaGreatDoor
open Go.RowKit
def Far (a b:Chk):Prop:=∀ j,a.fp j→¬ b.fp j
theorem Far.symm {a b:Chk} (h:Far a b):Far b a:=fun j h1 h2=>h j h2 h1
def many (l:List Chk):Chk:=⟨fun w=>(∀ c ∈ l,c.is w)∧l.Pairwise Far,fun j=>∃ c ∈ l,c.fp j,
  fun w j h ⟨c,hc,hj⟩=>c.lt w j (h.1 c hc) hj,
  fun w w' G h k hG=>⟨fun c hc=>c.st w w' G (h.1 c hc) k (fun j hj=>hG j ⟨c,hc,hj⟩),h.2⟩⟩
def boxC (x:Bx):Chk:=⟨fun w=>BoxAt w x.blk x.cells.toArray x.ty,fun j=>j=x.blk,fun _ _ h e=>e ▸ h.lt,fun _ _ _ h k hG=>h.only k (hG _ rfl)⟩
def rowC (base:Nat) (e:TypeId) (size:Nat) (v:Value) (n:Nat) (xs:List Value):Chk:=⟨fun w=>w.ownsRow base e size v n xs,fun j=>v.ownBlock=some j,fun _ _ h e=>(own_lt h e).1,fun _ _ _ h k hG=>own_only h k (fun g hg=>hG g hg)⟩
def mapC {α:Type} (b:Nat) (f:α→Value) (es:List (α × Value)):Chk:=⟨fun w=>MapAt w b f es,fun j=>j=b,fun _ _ h e=>e ▸ h.lt,fun _ _ _ h k hG=>h.only k (hG _ rfl)⟩
section
variable {wb w0 w w':World} {G:Nat→Prop} {B B2:List Bx} {I J:Chk} {l l2:List Chk}
theorem Hp.imp (h:Hp wb B I w) (h1:J.is w) (h2:∀ j,J.fp j→I.fp j):Hp wb B J w:=⟨h.env0,h.low,h.box,h.nod,fun j hj=>h.up j (hj.imp id (h2 j)),h1,fun x hx hf=>h.far x hx (h2 _ hf)⟩
theorem Kp.imp (h:Kp wb w0 G B I w) (h1:J.is w) (h2:∀ j,J.fp j→I.fp j):Kp wb w0 G B J w:=⟨h.hp.imp h1 h2,h.only,fun j hj=>h.new j (hj.imp id (h2 j))⟩
theorem many_perm (hp:l.Perm l2) (h:(many l).is w):(many l2).is w:=⟨fun c hc=>h.1 c (hp.mem_iff.2 hc),(hp.pairwise_iff (fun h=>h.symm)).1 h.2⟩
theorem many_fp (hp:l.Perm l2) {j:Nat} (h:(many l2).fp j):(many l).fp j:=by
  obtain ⟨c,hc,hj⟩:=h;exact ⟨c,hp.mem_iff.2 hc,hj⟩
theorem Hp.perm (h:Hp wb B (many l) w) (hb:B.Perm B2) (hl:l.Perm l2):Hp wb B2 (many l2) w:=by
  refine ⟨h.env0,h.low,fun x hx=>h.box x (hb.mem_iff.2 hx),(hb.map _).nodup_iff.1 h.nod,fun j hj=>h.up j (hj.imp (fun ⟨x,hx,e⟩=>⟨x,hb.mem_iff.2 hx,e⟩) (many_fp hl)),many_perm hl h.is,fun x hx hf=>h.far x (hb.mem_iff.2 hx) (many_fp hl hf)⟩
theorem Kp.perm (h:Kp wb w0 G B (many l) w) (hb:B.Perm B2) (hl:l.Perm l2):Kp wb w0 G B2 (many l2) w:=⟨h.hp.perm hb hl,h.only,fun j hj=>h.new j (hj.imp (fun ⟨x,hx,e⟩=>⟨x,hb.mem_iff.2 hx,e⟩) (many_fp hl))⟩
theorem Hp.open (x:Bx) (h:Hp wb B (many (boxC x::l)) w):Hp wb (B++[x]) (many l) w:=by
  have hx:(many (boxC x::l)).fp x.blk:=⟨_,List.mem_cons_self ..,rfl⟩
  have hp:=List.pairwise_cons.1 h.is.2;refine ⟨h.env0,h.low,?_,?_,?_,⟨fun c hc=>h.is.1 c (List.mem_cons_of_mem _ hc),hp.2⟩,?_⟩
  · intro y hy
    rcases List.mem_append.1 hy with hy | hy
    · exact h.box y hy
    · rw [List.mem_singleton.1 hy];exact h.is.1 _ (List.mem_cons_self ..)
  · rw [List.map_append,List.nodup_append]
    refine ⟨h.nod,by simp,?_⟩;intro a ha b hb e;obtain ⟨y,hy,rfl⟩:=List.mem_map.1 ha;simp only [List.map_cons,List.map_nil,List.mem_singleton] at hb;exact h.far y hy (by rw [e,hb];exact hx)
  · rintro j (⟨y,hy,rfl⟩ | ⟨c,hc,hj⟩)
    · rcases List.mem_append.1 hy with hy | hy
      · exact h.up _ (Or.inl ⟨y,hy,rfl⟩)
      · rw [List.mem_singleton.1 hy];exact h.up _ (Or.inr hx)
    · exact h.up _ (Or.inr ⟨c,List.mem_cons_of_mem _ hc,hj⟩)
  · rintro y hy ⟨c,hc,hj⟩
    rcases List.mem_append.1 hy with hy | hy
    · exact h.far y hy ⟨c,List.mem_cons_of_mem _ hc,hj⟩
    · rw [List.mem_singleton.1 hy] at hj
      exact hp.1 c hc x.blk rfl hj
theorem Hp.shut (x:Bx) (h:Hp wb (B++[x]) (many l) w):Hp wb B (many (boxC x::l)) w:=by
  have hx:x ∈ B++[x]:=List.mem_append.2 (Or.inr (List.mem_singleton.2 rfl));have hn:=h.nod;rw [List.map_append,List.nodup_append] at hn;refine ⟨h.env0,h.low,fun y hy=>h.box y (List.mem_append.2 (Or.inl hy)),hn.1,?_,⟨?_,List.pairwise_cons.2 ⟨?_,h.is.2⟩⟩,?_⟩
  · rintro j (⟨y,hy,rfl⟩ | ⟨c,hc,hj⟩)
    · exact h.up _ (Or.inl ⟨y,List.mem_append.2 (Or.inl hy),rfl⟩)
    · rcases List.mem_cons.1 hc with rfl | hc
      · have hj:j=x.blk:=hj
        subst hj;exact h.up _ (Or.inl ⟨x,hx,rfl⟩)
      · exact h.up _ (Or.inr ⟨c,hc,hj⟩)
  · intro c hc
    rcases List.mem_cons.1 hc with rfl | hc
    · exact h.box x hx
    · exact h.is.1 c hc
  · intro c hc j hj hf
    have hj:j=x.blk:=hj;subst hj;exact h.far x hx ⟨c,hc,hf⟩
  · rintro y hy ⟨c,hc,hj⟩
    rcases List.mem_cons.1 hc with rfl | hc
    · have hj:y.blk=x.blk:=hj
      exact hn.2.2 _ (List.mem_map_of_mem hy) x.blk (by simp) hj
    · exact h.far y (List.mem_append.2 (Or.inl hy)) ⟨c,hc,hj⟩
theorem fp_box (x:Bx) (j:Nat):Fp (B++[x]) (many l) j↔Fp B (many (boxC x::l)) j:=by
  constructor
  · rintro (⟨y,hy,rfl⟩ | ⟨c,hc,hj⟩)
    · rcases List.mem_append.1 hy with hy | hy
      · exact Or.inl ⟨y,hy,rfl⟩
      · rw [List.mem_singleton.1 hy];exact Or.inr ⟨_,List.mem_cons_self ..,rfl⟩
    · exact Or.inr ⟨c,List.mem_cons_of_mem _ hc,hj⟩
  · rintro (⟨y,hy,rfl⟩ | ⟨c,hc,hj⟩)
    · exact Or.inl ⟨y,List.mem_append.2 (Or.inl hy),rfl⟩
    · rcases List.mem_cons.1 hc with rfl | hc
      · exact Or.inl ⟨x,List.mem_append.2 (Or.inr (List.mem_singleton.2 rfl)),(show j=x.blk from hj).symm⟩
      · exact Or.inr ⟨c,hc,hj⟩
theorem Kp.open (x:Bx) (h:Kp wb w0 G B (many (boxC x::l)) w):Kp wb w0 G (B++[x]) (many l) w:=⟨h.hp.open x,h.only,fun j hj=>h.new j ((fp_box x j).1 hj)⟩
theorem Kp.shut (x:Bx) (h:Kp wb w0 G (B++[x]) (many l) w):Kp wb w0 G B (many (boxC x::l)) w:=⟨h.hp.shut x,h.only,fun j hj=>h.new j ((fp_box x j).2 hj)⟩
theorem many_flat (l2:List Chk) (h:(many (many l::l2)).is w):(many (l++l2)).is w:=by
  have hp:=List.pairwise_cons.1 h.2;have h0:=h.1 _ (List.mem_cons_self ..);refine ⟨fun c hc=>?_,List.pairwise_append.2 ⟨h0.2,hp.2,fun a ha b hb j hj=>hp.1 b hb j ⟨a,ha,hj⟩⟩⟩;rcases List.mem_append.1 hc with hc | hc
  · exact h0.1 c hc
  · exact h.1 c (List.mem_cons_of_mem _ hc)
theorem many_deep (l2:List Chk) (h:(many (l++l2)).is w):(many (many l::l2)).is w:=by
  obtain ⟨h1,h2,h3⟩:=List.pairwise_append.1 h.2;refine ⟨fun c hc=>?_,List.pairwise_cons.2 ⟨fun b hb j ⟨a,ha,hj⟩=>h3 a ha b hb j hj,h2⟩⟩;rcases List.mem_cons.1 hc with rfl | hc
  · exact ⟨fun c hc=>h.1 c (List.mem_append.2 (Or.inl hc)),h1⟩
  · exact h.1 c (List.mem_append.2 (Or.inr hc))
theorem many_flat_fp (l2:List Chk) (j:Nat):(many (l++l2)).fp j↔(many (many l::l2)).fp j:=by
  constructor
  · rintro ⟨c,hc,hj⟩
    rcases List.mem_append.1 hc with hc | hc
    · exact ⟨_,List.mem_cons_self ..,c,hc,hj⟩
    · exact ⟨c,List.mem_cons_of_mem _ hc,hj⟩
  · rintro ⟨c,hc,hj⟩
    rcases List.mem_cons.1 hc with rfl | hc
    · obtain ⟨c,hc,hj⟩:=hj
      exact ⟨c,List.mem_append.2 (Or.inl hc),hj⟩
    · exact ⟨c,List.mem_append.2 (Or.inr hc),hj⟩
theorem Kp.flat (l2:List Chk) (h:Kp wb w0 G B (many (many l::l2)) w):Kp wb w0 G B (many (l++l2)) w:=h.imp (many_flat l2 h.hp.is) (fun j=>(many_flat_fp l2 j).1)
theorem Kp.deep (l2:List Chk) (h:Kp wb w0 G B (many (l++l2)) w):Kp wb w0 G B (many (many l::l2)) w:=h.imp (many_deep l2 h.hp.is) (fun j=>(many_flat_fp l2 j).2)
theorem Hp.flat (l2:List Chk) (h:Hp wb B (many (many l::l2)) w):Hp wb B (many (l++l2)) w:=h.imp (many_flat l2 h.is) (fun j=>(many_flat_fp l2 j).1)
theorem Hp.deep (l2:List Chk) (h:Hp wb B (many (l++l2)) w):Hp wb B (many (many l::l2)) w:=h.imp (many_deep l2 h.is) (fun j=>(many_flat_fp l2 j).2)
theorem Hp.left {BR:List Bx} {lR:List Chk} (h:Hp wb (B++BR) (many (l++lR)) w):Hp wb B (many l) w:=by
  have hn:=h.nod;rw [List.map_append,List.nodup_append] at hn;refine ⟨h.env0,h.low,fun x hx=>h.box x (List.mem_append.2 (Or.inl hx)),hn.1,?_,⟨fun c hc=>h.is.1 c (List.mem_append.2 (Or.inl hc)),(List.pairwise_append.1 h.is.2).1⟩,fun x hx ⟨c,hc,hj⟩=>h.far x (List.mem_append.2 (Or.inl hx)) ⟨c,List.mem_append.2 (Or.inl hc),hj⟩⟩;rintro j (⟨x,hx,rfl⟩ | ⟨c,hc,hj⟩)
  · exact h.up _ (Or.inl ⟨x,List.mem_append.2 (Or.inl hx),rfl⟩)
  · exact h.up _ (Or.inr ⟨c,List.mem_append.2 (Or.inl hc),hj⟩)
theorem Hp.frame {BR B':List Bx} {lR l':List Chk} (h:Hp wb (B++BR) (many (l++lR)) w) (k:Kp wb w (Fp B (many l)) B' (many l') w'):Hp wb (B'++BR) (many (l'++lR)) w':=by
  obtain ⟨k1,k2,k3⟩:=k;have hn:=h.nod;rw [List.map_append,List.nodup_append] at hn;have hl:=List.pairwise_append.1 h.is.2;have hR:∀ j,(∃ x ∈ BR,x.blk=j)∨(many lR).fp j→¬ Fp B (many l) j:=by
    rintro j (⟨x,hx,rfl⟩ | ⟨c,hc,hj⟩) (⟨y,hy,e⟩ | ⟨d,hd,hk⟩)
    · exact hn.2.2 _ (List.mem_map_of_mem hy) _ (List.mem_map_of_mem hx) e
    · exact h.far x (List.mem_append.2 (Or.inr hx)) ⟨d,List.mem_append.2 (Or.inl hd),hk⟩
    · exact h.far y (List.mem_append.2 (Or.inl hy)) ⟨c,List.mem_append.2 (Or.inr hc),e ▸ hj⟩
    · exact hl.2.2 d hd c hc j hk hj
  have hRlt:∀ j,(∃ x ∈ BR,x.blk=j)∨(many lR).fp j→j < w.heap.size:=by
    rintro j (⟨x,hx,rfl⟩ | ⟨c,hc,hj⟩)
    · exact h.lt (Or.inl ⟨x,List.mem_append.2 (Or.inr hx),rfl⟩)
    · exact h.lt (Or.inr ⟨c,List.mem_append.2 (Or.inr hc),hj⟩)
  have hnew:∀ j,(∃ x ∈ BR,x.blk=j)∨(many lR).fp j→¬ Fp B' (many l') j:=fun j hj hf=>by
    rcases k3 j hf with h1 | h1
    · exact hR j hj h1
    · have:=hRlt j hj;omega
  refine ⟨h.env0,k1.low,?_,?_,?_,⟨?_,?_⟩,?_⟩
  · intro x hx
    rcases List.mem_append.1 hx with hx | hx
    · exact k1.box x hx
    · exact (h.box x (List.mem_append.2 (Or.inr hx))).only k2 (hR _ (Or.inl ⟨x,hx,rfl⟩))
  · rw [List.map_append,List.nodup_append]
    refine ⟨k1.nod,hn.2.1,?_⟩;intro a ha b hb e;obtain ⟨y,hy,rfl⟩:=List.mem_map.1 ha;obtain ⟨x,hx,rfl⟩:=List.mem_map.1 hb;exact hnew _ (Or.inl ⟨x,hx,rfl⟩) (Or.inl ⟨y,hy,e⟩)
  · rintro j (⟨x,hx,rfl⟩ | ⟨c,hc,hj⟩)
    · rcases List.mem_append.1 hx with hx | hx
      · exact k1.up _ (Or.inl ⟨x,hx,rfl⟩)
      · exact h.up _ (Or.inl ⟨x,List.mem_append.2 (Or.inr hx),rfl⟩)
    · rcases List.mem_append.1 hc with hc | hc
      · exact k1.up _ (Or.inr ⟨c,hc,hj⟩)
      · exact h.up _ (Or.inr ⟨c,List.mem_append.2 (Or.inr hc),hj⟩)
  · intro c hc
    rcases List.mem_append.1 hc with hc | hc
    · exact k1.is.1 c hc
    · exact c.st w w' _ (h.is.1 c (List.mem_append.2 (Or.inr hc))) k2 (fun j hj=>hR j (Or.inr ⟨c,hc,hj⟩))
  · refine List.pairwise_append.2 ⟨k1.is.2,hl.2.1,fun a ha b hb j hj hk=>hnew j (Or.inr ⟨b,hb,hk⟩) (Or.inr ⟨a,ha,hj⟩)⟩
  · rintro x hx ⟨c,hc,hj⟩
    rcases List.mem_append.1 hx with hx | hx
    · rcases List.mem_append.1 hc with hc | hc
      · exact k1.far x hx ⟨c,hc,hj⟩
      · exact hnew _ (Or.inr ⟨c,hc,hj⟩) (Or.inl ⟨x,hx,rfl⟩)
    · rcases List.mem_append.1 hc with hc | hc
      · exact hnew _ (Or.inl ⟨x,hx,rfl⟩) (Or.inr ⟨c,hc,hj⟩)
      · exact h.far x (List.mem_append.2 (Or.inr hx)) ⟨c,List.mem_append.2 (Or.inr hc),hj⟩
theorem Kp.frame {BR B':List Bx} {lR l':List Chk} (h:Kp wb w0 G (B++BR) (many (l++lR)) w) (k:Kp wb w (Fp B (many l)) B' (many l') w'):Kp wb w0 G (B'++BR) (many (l'++lR)) w':=by
  have hsub:∀ j,Fp B (many l) j→G j∨w0.heap.size≤j:=by
    rintro j (⟨x,hx,rfl⟩ | ⟨c,hc,hj⟩)
    · exact h.new _ (Or.inl ⟨x,List.mem_append.2 (Or.inl hx),rfl⟩)
    · exact h.new _ (Or.inr ⟨c,List.mem_append.2 (Or.inl hc),hj⟩)
  have hs:=h.only.size;refine ⟨h.hp.frame k,h.only.trans k.only (fun j hj hf=>?_),?_⟩
  · rcases hsub j hf with h1 | h1
    · exact h1
    · omega
  · have hnew:∀ j,Fp B' (many l') j→G j∨w0.heap.size≤j:=fun j hj=>by
      rcases k.new j hj with h1 | h1
      · exact hsub j h1
      · exact Or.inr (by omega)
    rintro j (⟨x,hx,rfl⟩ | ⟨c,hc,hj⟩)
    · rcases List.mem_append.1 hx with hx | hx
      · exact hnew _ (Or.inl ⟨x,hx,rfl⟩)
      · exact h.new _ (Or.inl ⟨x,List.mem_append.2 (Or.inr hx),rfl⟩)
    · rcases List.mem_append.1 hc with hc | hc
      · exact hnew _ (Or.inr ⟨c,hc,hj⟩)
      · exact h.new _ (Or.inr ⟨c,List.mem_append.2 (Or.inr hc),hj⟩)
end
def Spec (P:Program) (wb:World) (f:FuncId) (args:Array Value) (B:List Bx) (l:List Chk) {α:Type} (v:α→Value) (B':α→List Bx) (l':α→List Chk):Prop :=
  ∀ w,Hp wb B (many l) w→Calls P f args w fun e w'=>∃ x,e=.returned (v x)∧Kp wb w (Fp B (many l)) (B' x) (many (l' x)) w'
def takeI {α:Type}:List Nat→List α→Option (List α × List α)
  | [],l=>some ([],l)
  | k::r,l=>match l[k]? with
    | some x=>match takeI r (l.eraseIdx k) with
      | some (a,b)=>some (x::a,b)
      | none=>none
    | none=>none
theorem perm_idx {α:Type}:∀ (l:List α) (k:Nat) (x:α),l[k]? = some x→l.Perm (x::l.eraseIdx k)
  | [],_,_,h=>by simp at h
  | y::r,0,x,h=>by
    simp only [List.getElem?_cons_zero,Option.some.injEq] at h;subst h;exact List.Perm.refl _
  | y::r,k+1,x,h=>(List.Perm.cons y (perm_idx r k x (by simpa using h))).trans (List.Perm.swap x y _)
theorem takeI_perm {α:Type}:∀ (ks:List Nat) (l a b:List α),takeI ks l=some (a,b)→l.Perm (a++b)
  | [],l,a,b,h=>by
    simp only [takeI] at h;injection h with h
    injection h with h1 h2
    subst h1 h2;exact List.Perm.refl _
  | k::r,l,a,b,h=>by
    simp only [takeI] at h;split at h
    · rename_i x hx
      split at h
      · rename_i a' b' h2
        injection h with h
        injection h with h1 h3
        subst h1 h3;exact (perm_idx l k x hx).trans (List.Perm.cons x (takeI_perm r _ _ _ h2))
      · cases h
    · cases h
def headI {α:Type} (ks:List Nat) (l:List α):Option (List α):=match takeI ks l with
  | some (a,_)=>some a
  | none=>none
def restI {α:Type} (ks:List Nat) (l:List α):List α:=match takeI ks l with
  | some (_,b)=>b
  | none=>[]
theorem headI_perm {α:Type} {ks:List Nat} {l a:List α} (h:headI ks l=some a):l.Perm (a++restI ks l):=by
  unfold headI at h;unfold restI;split at h
  · rename_i a' b he
    injection h with h
    subst h;exact takeI_perm ks l _ _ he
  · cases h
def OpS (P:Program) (T:Sem Next) (B:List Bx) (l:List Chk) {α:Type} (v:α→Value) (B':α→List Bx) (l':α→List Chk):Prop :=
  ∀ wb w,Hp wb B (many l) w→∃ x w' r,T.run P w=.ok r w'∧(r=.value (v x)∨r=.skip∧v x=undef)∧Kp wb w (Fp B (many l)) (B' x) (many (l' x)) w'
section
variable {P:Program} {Q:Exit→Act→World→Prop} {n:Nat} {wb w0 w w':World} {G:Nat→Prop} {s:Sg}
theorem Kp.left {B BR:List Bx} {l lR:List Chk} (h:Kp wb w0 G (B++BR) (many (l++lR)) w):Kp wb w0 G B (many l) w:=⟨h.hp.left,h.only,fun j hj=>h.new j (by
  rcases hj with ⟨x,hx,rfl⟩ | ⟨c,hc,hj⟩
  · exact Or.inl ⟨x,List.mem_append.2 (Or.inl hx),rfl⟩
  · exact Or.inr ⟨c,List.mem_append.2 (Or.inl hc),hj⟩)⟩
theorem Kp.part {B B1:List Bx} {l l1:List Chk} {ks cs:List Nat} (h:Kp wb w0 G B (many l) w) (hk:headI ks B=some B1) (hc:headI cs l=some l1):Kp wb w0 G B1 (many l1) w:=(h.perm (headI_perm hk) (headI_perm hc)).left
theorem en_spec {f:FuncId} {args:Array Value} {B1:List Bx} {l0 l1:List Chk} {α:Type} {v:α→Value} {B':α→List Bx} {l':α→List Chk} (hS:Spec P wb f args B1 l1 v B' l') (ks cs:List Nat) (js:List (Nat × Nat × Nat))
    (k:∀ x,Ok P Q n wb w0 G (many (l' x++restI cs l0)) (nxE P s js (v x) (B' x++restI ks s.B))) (hk:headI ks s.B=some B1:=by kernel_rfl) (hc:headI cs l0=some l1:=by kernel_rfl) (h:hdC P n s=some (f,args):=by kernel_rfl) (hS2:∀ x,need1 P s js (B' x++restI ks s.B)=need2 P s:=by intro x;kernel_rfl) (hO:needO P s=r0:=by kernel_rfl):Ok P Q n wb w0 G (many l0) s :=
  en_do f args s.B (fun w HK=>by
    have HK':=HK.perm (headI_perm hk) (headI_perm hc);refine Calls.mono (hS w HK'.hp.left) ?_;rintro e w' ⟨x,he,hx⟩;exact ⟨x,he,HK'.frame hx⟩) js k h rfl hS2 hO
theorem en_spec0 {f:FuncId} {args:Array Value} {B1:List Bx} {l0 l1:List Chk} {v:Value} {B':List Bx} {l':List Chk} (hS:Spec P wb f args B1 l1 (fun _:Unit=>v) (fun _=>B') (fun _=>l')) (ks cs:List Nat) (js:List (Nat × Nat × Nat))
    (k:Ok P Q n wb w0 G (many (l'++restI cs l0)) (nxE P s js v (B'++restI ks s.B))) (hk:headI ks s.B=some B1:=by kernel_rfl) (hc:headI cs l0=some l1:=by kernel_rfl) (h:hdC P n s=some (f,args):=by kernel_rfl) (hS2:need1 P s js (B'++restI ks s.B)=need2 P s:=by kernel_rfl) (hO:needO P s=r0:=by kernel_rfl):Ok P Q n wb w0 G (many l0) s :=
  en_spec hS ks cs js (fun _=>k) hk hc h (fun _=>hS2) hO
theorem en_ops {T:Sem Next} {B1:List Bx} {l0 l1:List Chk} {α:Type} {v:α→Value} {B':α→List Bx} {l':α→List Chk} (hS:OpS P T B1 l1 v B' l') (ks cs:List Nat) (js:List (Nat × Nat × Nat))
    (k:∀ x,Ok P Q n wb w0 G (many (l' x++restI cs l0)) (nxE P s js (v x) (B' x++restI ks s.B))) (hk:headI ks s.B=some B1:=by kernel_rfl) (hc:headI cs l0=some l1:=by kernel_rfl) (h:hdT P n s=some T:=by kernel_rfl) (hS2:∀ x,need1 P s js (B' x++restI ks s.B)=need2 P s:=by intro x;kernel_rfl) (hO:needO P s=r0:=by kernel_rfl):Ok P Q n wb w0 G (many l0) s :=
  en_op T s.B (fun w HK=>by
    have HK':=HK.perm (headI_perm hk) (headI_perm hc);obtain ⟨x,w',r,h1,h2,h3⟩:=hS wb w HK'.hp.left;exact ⟨x,w',r,h1,h2,HK'.frame h3⟩) js k h rfl hS2 hO
theorem en_opsM {T:Sem Next} {B1:List Bx} {l0 l1:List Chk} {α:Type} {v:α→Value} {B':α→List Bx} {l':α→List Chk} (hS:OpS P T B1 l1 v B' l') (ks cs:List Nat) (js:List (Nat × Nat × Nat)) (O:Rd) (hM:∀ x w,Kp wb w0 G (B' x++restI ks s.B) (many (l' x++restI cs l0)) w→RdOk P w O)
    (k:∀ x,Ok P Q n wb w0 G (many (l' x++restI cs l0)) (nxE P s js (v x) (B' x++restI ks s.B))) (hk:headI ks s.B=some B1:=by kernel_rfl) (hc:headI cs l0=some l1:=by kernel_rfl) (h:hdT P n s=some T:=by kernel_rfl) (hS2:∀ x,need1 P s js (B' x++restI ks s.B)=need2 P s:=by intro x;kernel_rfl) (hO:needO P s=O:=by kernel_rfl):Ok P Q n wb w0 G (many l0) s :=
  en_opM T s.B (fun w HK=>by
    have HK':=HK.perm (headI_perm hk) (headI_perm hc);obtain ⟨x,w',r,h1,h2,h3⟩:=hS wb w HK'.hp.left;exact ⟨x,w',r,h1,h2,HK'.frame h3⟩) js O hM k h rfl hS2 hO
theorem en_specM {f:FuncId} {args:Array Value} {B1:List Bx} {l0 l1:List Chk} {α:Type} {v:α→Value} {B':α→List Bx} {l':α→List Chk} (hS:Spec P wb f args B1 l1 v B' l') (ks cs:List Nat) (js:List (Nat × Nat × Nat)) (O:Rd) (hM:∀ x w,Kp wb w0 G (B' x++restI ks s.B) (many (l' x++restI cs l0)) w→RdOk P w O)
    (k:∀ x,Ok P Q n wb w0 G (many (l' x++restI cs l0)) (nxE P s js (v x) (B' x++restI ks s.B))) (hk:headI ks s.B=some B1:=by kernel_rfl) (hc:headI cs l0=some l1:=by kernel_rfl) (h:hdC P n s=some (f,args):=by kernel_rfl) (hS2:∀ x,need1 P s js (B' x++restI ks s.B)=need2 P s:=by intro x;kernel_rfl) (hO:needO P s=O:=by kernel_rfl):Ok P Q n wb w0 G (many l0) s :=
  en_doM f args s.B (fun w HK=>by
    have HK':=HK.perm (headI_perm hk) (headI_perm hc);refine Calls.mono (hS w HK'.hp.left) ?_;rintro e w' ⟨x,he,hx⟩;exact ⟨x,he,HK'.frame hx⟩) js O hM k h rfl hS2 hO
theorem en_rets {fn:Func} {α:Type} {v:α→Value} {B':α→List Bx} {l':α→List Chk} {l0:List Chk} (x:α) (ks cs js:List Nat) (hk:headI ks s.B=some (B' x):=by kernel_rfl) (hc:headI cs l0=some (l' x):=by kernel_rfl) (h:ret1 P fn js s=ret2 P fn js s (v x):=by kernel_rfl):Ok P (bodyPost P fn fun e w'=>∃ x,e=.returned (v x)∧Kp wb w0 G (B' x) (many (l' x)) w') n wb w0 G (many l0) s :=
  en_retK (v x) js (fun _ HK=>⟨x,rfl,HK.part hk hc⟩) h
theorem en_perm (cs:List Nat) {l l1:List Chk} (k:Ok P Q n wb w0 G (many (l1++restI cs l)) s) (h:headI cs l=some l1:=by kernel_rfl):Ok P Q n wb w0 G (many l) s:=fun a w F HK=>k a w F (HK.perm (List.Perm.refl _) (headI_perm h))
theorem en_stopI {J:Act→World→Prop} {L:List (Nat × Value)} {B0:List Bx} {I I0:Chk} (k:∀ a w,FrL n L a→Kp wb w0 G B0 I0 w→J a w) (h:stopJ (ctl s.L 300 s.cfg)=some J:=by kernel_rfl) (hL:picks s.L (L.map (·.1))=some L:=by kernel_rfl) (hB:s.B=B0:=by kernel_rfl) (hI:I=I0:=by kernel_rfl):Ok P Q n wb w0 G I s:=by
  subst hI;exact en_stop k h hL hB
theorem en_word (c:Nat) (J J':Chk) (e:J=J') {l:List Chk} (k:Ok P Q n wb w0 G (many (J'::restI [c] l)) s) (h:headI [c] l=some [J]:=by kernel_rfl):Ok P Q n wb w0 G (many l) s:=by
  subst e;exact en_perm [c] (l1:=[J]) k h
theorem en_open (c:Nat) (x:Bx) {l:List Chk} (k:Ok P Q n wb w0 G (many (restI [c] l)) ⟨s.cfg,s.L,s.B++[x]⟩) (h:headI [c] l=some [boxC x]:=by kernel_rfl):Ok P Q n wb w0 G (many l) s:=fun a w F HK=>k a w F ((HK.perm (List.Perm.refl _) (headI_perm h)).open x)
theorem en_shut (c:Nat) (x:Bx) {l:List Chk} (k:Ok P Q n wb w0 G (many (boxC x::l)) ⟨s.cfg,s.L,restI [c] s.B⟩) (h:headI [c] s.B=some [x]:=by kernel_rfl):Ok P Q n wb w0 G (many l) s:=fun a w F HK=>k a w F (by
  have:=HK.perm ((headI_perm h).trans List.perm_append_comm) (List.Perm.refl _);exact this.shut x)
theorem en_unpack (c:Nat) (J:Chk) (l1:List Chk) {l:List Chk} (k:Ok P Q n wb w0 G (many (l1++restI [c] l)) s) (hJ:J=many l1:=by rfl) (h:headI [c] l=some [J]:=by kernel_rfl):Ok P Q n wb w0 G (many l) s:=fun a w F HK=>k a w F (by
  subst hJ;exact (HK.perm (List.Perm.refl _) (headI_perm h)).flat _)
theorem en_pack (cs:List Nat) (J:Chk) (l1:List Chk) {l:List Chk} (k:Ok P Q n wb w0 G (many (J::restI cs l)) s) (hJ:J=many l1:=by rfl) (h:headI cs l=some l1:=by kernel_rfl):Ok P Q n wb w0 G (many l) s:=fun a w F HK=>k a w F (by
  subst hJ;exact (HK.perm (List.Perm.refl _) (headI_perm h)).deep _)
theorem Kp.new0 {B:List Bx} {l:List Chk} (h:Kp wb w0 G B (many l) w) (c:Chk) (hc:c.is w) (hf:∀ j,¬ c.fp j):Kp wb w0 G B (many (c::l)) w:=h.imp ⟨fun d hd=>(by rcases List.mem_cons.1 hd with rfl | hd;exact hc;exact h.hp.is.1 d hd),List.pairwise_cons.2 ⟨fun d _ j hj=>(hf j hj).elim,h.hp.is.2⟩⟩ (fun j ⟨d,hd,hj⟩=>(by rcases List.mem_cons.1 hd with rfl | hd;exact (hf j hj).elim;exact ⟨d,hd,hj⟩))
theorem en_new0 (c:Chk) {l:List Chk} (k:Ok P Q n wb w0 G (many (c::l)) s) (hc:∀ w,c.is w) (hf:∀ j,¬ c.fp j):Ok P Q n wb w0 G (many l) s:=fun a w F HK=>k a w F (HK.new0 c (hc w) hf)
theorem en_row0 (e:TypeId) (size:Nat) {l:List Chk} (k:Ok P Q n wb w0 G (many (rowC 0 e size (.slice none 0 0) 0 []::l)) s):Ok P Q n wb w0 G (many l) s:=en_new0 _ k (fun w=>World.ownsRow_nil w 0 e size) (fun j h=>by cases h)
theorem en_drop (ks cs:List Nat) {l:List Chk} (k:Ok P Q n wb w0 G (many ((headI cs l).getD [])) ⟨s.cfg,s.L,(headI ks s.B).getD []⟩) (hk:(headI ks s.B).isSome=true:=by kernel_rfl) (hc:(headI cs l).isSome=true:=by kernel_rfl):Ok P Q n wb w0 G (many l) s:=fun a w F HK=>by
  obtain ⟨B1,h1⟩:=Option.isSome_iff_exists.1 hk;obtain ⟨l1,h2⟩:=Option.isSome_iff_exists.1 hc;rw [h1,h2] at k;exact k a w F (HK.part h1 h2)
theorem many_one {L R:List Chk} {c:Chk} (h:L.Perm (c::R)) {l:List Chk} {B:List Bx} (HK:Kp wb w0 G B (many (many L::l)) w):Kp wb w0 G B (many (c::many R::l)) w:=by
  have h1:=HK.flat l;have h2:=h1.perm (List.Perm.refl _) (h.append_right l);have h3:Kp wb w0 G B (many (R++(c::l))) w:=h2.perm (List.Perm.refl _) (List.perm_middle.symm);exact (h3.deep (c::l)).perm (List.Perm.refl _) (List.Perm.swap _ _ _)
theorem many_in {L R:List Chk} {c:Chk} (h:(c::R).Perm L) {l:List Chk} {B:List Bx} (HK:Kp wb w0 G B (many (c::many R::l)) w):Kp wb w0 G B (many (many L::l)) w:=by
  have h3:=(HK.perm (List.Perm.refl _) (List.Perm.swap _ _ _)).flat (c::l);have h2:Kp wb w0 G B (many ((c::R)++l)) w:=h3.perm (List.Perm.refl _) List.perm_middle;exact (h2.perm (List.Perm.refl _) (h.append_right l)).deep l
theorem en_out (c:Nat) (J x:Chk) (L R:List Chk) (h:L.Perm (x::R)) {l:List Chk} (k:Ok P Q n wb w0 G (many (x::many R::restI [c] l)) s) (hJ:J=many L:=by rfl) (hc:headI [c] l=some [J]:=by kernel_rfl):Ok P Q n wb w0 G (many l) s:=fun a w F HK=>k a w F (by
  subst hJ;exact many_one h (HK.perm (List.Perm.refl _) (headI_perm hc)))
theorem en_in (cs:List Nat) (J x:Chk) (L R:List Chk) (h:(x::R).Perm L) {l:List Chk} (k:Ok P Q n wb w0 G (many (J::restI cs l)) s) (hJ:J=many L:=by rfl) (hc:headI cs l=some [x,many R]:=by kernel_rfl):Ok P Q n wb w0 G (many l) s:=fun a w F HK=>k a w F (by
  subst hJ;exact many_in h (HK.perm (List.Perm.refl _) (headI_perm hc)))
theorem en_factK {I:Chk} {p:Prop} (h:∀ w,Kp wb w0 G s.B I w→p) (k:p→Ok P Q n wb w0 G I s):Ok P Q n wb w0 G I s:=fun a w F HK=>k (h w HK) a w F HK
theorem en_fact {I:Chk} {p:Prop} (h:∀ w,I.is w→p) (k:p→Ok P Q n wb w0 G I s):Ok P Q n wb w0 G I s:=fun a w F HK=>k (h w HK.hp.is) a w F HK
theorem is_at {l:List Chk} (h:(many l).is w) (k:Nat) {c:Chk} (hk:l[k]? = some c:=by kernel_rfl):c.is w:=h.1 c (List.mem_of_getElem? hk)
def Pur (P:Program) (f:FuncId) (args:Array Value) (v:Value):Prop:=∀ w,Env w→Calls P f args w fun e w'=>e=.returned v∧Below w.heap.size w w'
theorem fp_none {j:Nat}:¬ Fp [] (many []) j:=by
  rintro (⟨x,hx,_⟩ | ⟨c,hc,_⟩)
  · cases hx
  · cases hc
theorem Hp.start (hE:Env w):Hp w [] (many []) w:=⟨hE,Below.refl _ _,(fun x hx=>(by cases hx)),List.nodup_nil,(fun j hj=>(fp_none hj).elim),⟨(fun c hc=>(by cases hc)),List.Pairwise.nil⟩,(fun x hx=>(by cases hx))⟩
theorem below_none' (h:Only (Fp [] (many [])) w w'):Below w.heap.size w w':=h.below (Nat.le_refl _) (fun k hk=>(fp_none hk).elim)
theorem Kp.bx {I:Chk} {B:List Bx} (HK:Kp wb w0 G B I w) {ks:List Nat} {bx:List Bx} (hb:ks.map (B[·]?)=bx.map some) {x:Bx} (hx:x ∈ bx):BoxAt w x.blk x.cells.toArray x.ty:=by
  have h1:some x ∈ bx.map some:=List.mem_map_of_mem hx;rw [← hb] at h1;obtain ⟨k,_,e⟩:=List.mem_map.1 h1;exact HK.hp.at k e
theorem rdc_of {f:FuncId} {args:Array Value} {v:Value} (hE:Env w) (h:Spec P w f args [] [] (fun _:Unit=>v) (fun _=>[]) (fun _=>[])):Calls P f args w fun e w'=>e=.returned v∧Below w.heap.size w w':=Calls.mono (h w (Hp.start hE)) (by
  rintro e w' ⟨_,he,hk⟩;exact ⟨he,below_none' hk.only⟩)
theorem Pur.cs {f:FuncId} {args:Array Value} {v:Value} (h:Pur P f args v) {I:Chk}:Cs.ok P wb w0 G I ⟨f,args,v,[],[]⟩:=fun _ w HK _=>h w HK.hp.env
end
end Go.Proofs.YtehpihmgjbmoaaaGreatDoor
namespace Go.Proofs.YtehpihmgjbmoaaaGreatDoor
open Go.RowKit
section
variable {P:Program} {wb w0 w w':World} {G:Nat→Prop} {B:List Bx} {l:List Chk}
theorem Kp.newC (h:Kp wb w0 G B (many l) w) (k:Below w.heap.size w w') (c:Chk) (hc:c.is w') (hf:∀ j,c.fp j→w.heap.size≤j):Kp wb w0 G B (many (c::l)) w':=by
  have h2:=h.below k;have hlt:∀ j,Fp B (many l) j→j < w.heap.size:=fun j hj=>h.hp.lt hj
  refine ⟨⟨h2.hp.env0,h2.hp.low,h2.hp.box,h2.hp.nod,?_,⟨?_,List.pairwise_cons.2 ⟨?_,h2.hp.is.2⟩⟩,?_⟩,h2.only,?_⟩
  · rintro j (hj | ⟨d,hd,hj⟩)
    · exact h2.hp.up j (Or.inl hj)
    · rcases List.mem_cons.1 hd with rfl | hd
      · exact Nat.le_trans h.hp.low.size (hf j hj)
      · exact h2.hp.up j (Or.inr ⟨d,hd,hj⟩)
  · intro d hd
    rcases List.mem_cons.1 hd with rfl | hd
    · exact hc
    · exact h2.hp.is.1 d hd
  · intro d hd j hj hk
    have h3:=hlt j (Or.inr ⟨d,hd,hk⟩);have h4:=hf j hj;omega
  · rintro x hx ⟨d,hd,hj⟩
    rcases List.mem_cons.1 hd with rfl | hd
    · have h3:=hlt _ (Or.inl ⟨x,hx,rfl⟩)
      have h4:=hf _ hj;omega
    · exact h2.hp.far x hx ⟨d,hd,hj⟩
  · rintro j (hj | ⟨d,hd,hj⟩)
    · exact h2.new j (Or.inl hj)
    · rcases List.mem_cons.1 hd with rfl | hd
      · exact Or.inr (Nat.le_trans h.only.size (hf j hj))
      · exact h2.new j (Or.inr ⟨d,hd,hj⟩)
theorem Kp.turn {c c':Chk} (h:Kp wb w0 G B (many (c::l)) w) (o:Only c.fp w w') (hc:c'.is w') (hf:∀ j,c'.fp j→c.fp j∨w.heap.size≤j):Kp wb w0 G B (many (c'::l)) w':=by
  have hfp:∀ j,c.fp j→Fp B (many (c::l)) j:=fun j hj=>Or.inr ⟨c,List.mem_cons_self ..,hj⟩
  have hp:=List.pairwise_cons.1 h.hp.is.2;have hlt:∀ j,Fp B (many (c::l)) j→j < w.heap.size:=fun j hj=>h.hp.lt hj
  have hs:=h.only.size;have hold:∀ j,(∃ x ∈ B,x.blk=j)∨(many l).fp j→¬ c.fp j∧j < w.heap.size:=by
    rintro j (⟨x,hx,rfl⟩ | ⟨d,hd,hj⟩)
    · exact ⟨fun hc=>h.hp.far x hx ⟨c,List.mem_cons_self ..,hc⟩,hlt _ (Or.inl ⟨x,hx,rfl⟩)⟩
    · exact ⟨fun hc=>hp.1 d hd j hc hj,hlt _ (Or.inr ⟨d,List.mem_cons_of_mem _ hd,hj⟩)⟩
  have hnew:∀ j,(∃ x ∈ B,x.blk=j)∨(many l).fp j→¬ c'.fp j:=fun j hj hc=>by
    obtain ⟨h1,h2⟩:=hold j hj;rcases hf j hc with h3 | h3
    · exact h1 h3
    · omega
  refine ⟨⟨h.hp.env0,h.hp.low.trans (o.below h.hp.low.size (fun j hj=>h.hp.up j (hfp j hj))),fun x hx=>(h.hp.box x hx).only o (hold _ (Or.inl ⟨x,hx,rfl⟩)).1,h.hp.nod,?_,⟨?_,List.pairwise_cons.2 ⟨?_,hp.2⟩⟩,?_⟩,h.only.trans o (fun j hj hc=>?_),?_⟩
  · rintro j (hj | ⟨d,hd,hj⟩)
    · exact h.hp.up j (Or.inl hj)
    · rcases List.mem_cons.1 hd with rfl | hd
      · rcases hf j hj with h3 | h3
        · exact h.hp.up j (hfp j h3)
        · exact Nat.le_trans h.hp.low.size h3
      · exact h.hp.up j (Or.inr ⟨d,List.mem_cons_of_mem _ hd,hj⟩)
  · intro d hd
    rcases List.mem_cons.1 hd with rfl | hd
    · exact hc
    · exact d.st w w' _ (h.hp.is.1 d (List.mem_cons_of_mem _ hd)) o (fun j hj=>(hold j (Or.inr ⟨d,hd,hj⟩)).1)
  · intro d hd j hj hk
    exact hnew j (Or.inr ⟨d,hd,hk⟩) hj
  · rintro x hx ⟨d,hd,hj⟩
    rcases List.mem_cons.1 hd with rfl | hd
    · exact hnew _ (Or.inl ⟨x,hx,rfl⟩) hj
    · exact h.hp.far x hx ⟨d,List.mem_cons_of_mem _ hd,hj⟩
  · rcases h.new j (hfp j hc) with h1 | h1
    · exact h1
    · omega
  · rintro j (hj | ⟨d,hd,hj⟩)
    · exact h.new j (Or.inl hj)
    · rcases List.mem_cons.1 hd with rfl | hd
      · rcases hf j hj with h3 | h3
        · exact h.new j (hfp j h3)
        · exact Or.inr (Nat.le_trans hs h3)
      · exact h.new j (Or.inr ⟨d,List.mem_cons_of_mem _ hd,hj⟩)
end
abbrev rowO (e:TypeId) (size:Nat) (v:Value) (n:Nat) (xs:List Value):Chk:=rowC 0 e size v n xs
def opT (vs : List Value) (op : Op) (ty : TypeId) : Sem Next := execOp (known (numL 0 vs)) ⟨none, op, ty, "", #[], none⟩
def apT (t ty:TypeId) (v x:Value):Sem Next:=opT [v,x] (.call { callee:=.builtin .append,args:=#[.tmp 0,.tmp 1],argTypes:=#[t,t] }) ty
def apsT (t u ty:TypeId) (v x:Value):Sem Next:=opT [v,x] (.call { callee:=.builtin .append,args:=#[.tmp 0,.tmp 1],argTypes:=#[t,u] }) ty
def lkT (T:TypeId) (m k:Value) (ty:TypeId):Sem Next:=opT [m,k] (.lookup T (.tmp 0) (.tmp 1) false) ty
def upT (T:TypeId) (m k v:Value) (ty:TypeId):Sem Next:=opT [m,k,v] (.mapUpdate T (.tmp 0) (.tmp 1) (.tmp 2)) ty
def bsT (t:TypeId) (x:Value) (ty:TypeId):Sem Next:=opT [x] (.buildSlice t 1 #[(0,.tmp 0)]) ty
section
variable {P:Program}
theorem grown_fp {w w':World} {v:Value} (k:w.grownBy w' v.ownBlock):Only (fun j=>v.ownBlock=some j) w w':=⟨k.os,k.tape,k.output,k.size,fun i hi hF=>k.block i hi (fun e=>hF e.symm)⟩
theorem run_append_blk {w:World} (t ty e:TypeId) (i:TypeInfo) (z:Value) (ht:P.underlying t=some (.slice e)) (hi:P.info? e=some i) (hz:i.zero=some z) (hzs:z.cells.size=i.size) (hsz:0 < i.size)
    (v:Value) (n:Nat) (xs:List Value) (hown:w.ownsRow 0 e i.size v n xs) (A:Option Addr) (m c:Nat) (hAc:A=none→c=0) (news:List Value) (hl:news.length=m * i.size) (hnews:CellsA w A news) (h1:∀ u ∈ news,u.oneCell'=true)
    (h63:n+m≤maxLen) (hbytes:(n+m) * i.bytes≤140737488355328) :
    ∃ v' w',(Builtin.append_ #[t,t] ty #[v,.slice A m c]).run P w=.ok v' w'∧w'.ownsRow 0 e i.size v' (n+m) (xs++news)∧w.grownBy w' v.ownBlock∧(∀ j,v'.ownBlock=some j→v.ownBlock=some j∨w.heap.size≤j):=by
  have hsmall:n+m≤9223372036854775807:=by simp only [maxLen] at h63;omega
  have hlen:(xs++news).length=(n+m) * i.size:=by rw [List.length_append,hown.1,hl,Nat.add_mul]
  cases A with
  | none =>
    obtain ⟨v',w',hr,h2,h3⟩:=run_append_cells (P:=P) w 0 t ty e i z i.size i.bytes ht hi hz rfl rfl hzs hsz v n xs hown none m c hAc news hl hnews h1 h63 hbytes (Nat.zero_le _);have hn0:news=[]:=by
      cases news with
      | nil=>rfl
      | cons x r =>
        obtain ⟨b,o,hb,_⟩:=hnews 0 x rfl;cases hb
    subst hn0;have hm:m=0:=by
      rcases Nat.eq_zero_or_pos m with h | h
      · exact h
      · have:=Nat.mul_pos h hsz
        simp at hl;omega
    subst hm;obtain rfl:=hAc rfl;exact ⟨v,w,run_append_owned_none (P:=P) (w:=w) 0 t ty e i i.size ht hi v n xs hown,by simpa using hown,World.grownBy.refl w _,fun j hj=>Or.inl hj⟩
  | some a =>
    have hnews:∀ j u,news[j]? = some u→w.cell? (a.add j)=some u:=fun j u hu=>by
      obtain ⟨b,o,hb,hc⟩:=hnews j u hu;injection hb with hb
      subst hb;rw [Addr.add_lit];exact hc
    have grown:∀ (old:Nat),old < n+m→∀ (row:Option Nat),
        (w.drew.alloc (.cells (xs.toArray++news.toArray++Builtin.zeroCells z.cells (grownCap w (n+m) old e - (n+m))) e)).ownsRow 0 e i.size
          (.slice (some ⟨w.heap.size,0,none⟩) (n+m) (grownCap w (n+m) old e)) (n+m) (xs++news) ∧
        w.grownBy (w.drew.alloc (.cells (xs.toArray++news.toArray++Builtin.zeroCells z.cells (grownCap w (n+m) old e - (n+m))) e)) row:=by
      intro old ho row;have hge:=grownCap_ge w (n+m) old e;have hcm:grownCap w (n+m) old e≤maxLen:=grownCap_le_maxLen w (n+m) old e h63;refine ⟨⟨hlen,.inr ⟨w.heap.size,_,_,rfl,Nat.zero_le _,heap_alloc_new w.drew _,hge,hcm,?_,?_⟩⟩,⟨rfl,rfl,rfl,by simp,fun k hk _=>(Below.heap_alloc w.drew _ k hk:_)⟩⟩
      · simp only [Array.size_append,List.size_toArray,size_zeroCells,hzs,hown.1,hl,← Nat.add_mul]
        congr 1;omega
      · simp only [Array.toList_append,List.append_assoc]
        rw [← List.append_assoc,← hlen];exact List.take_left
    have hown2:=hown.2;rcases hown2 with ⟨rfl,rfl⟩ | ⟨g,cap,cur,rfl,hbg,hg,hnc,hcm,hcs,htake⟩
    · have hx:xs=[]:=List.eq_nil_of_length_eq_zero (by simpa using hown.1)
      subst hx;by_cases hm:m=0
      · subst hm
        have hn:news=[]:=List.eq_nil_of_length_eq_zero (by simpa using hl);subst hn;refine ⟨.slice none 0 0,w,?_,World.ownsRow_nil w 0 e i.size,⟨rfl,rfl,rfl,Nat.le_refl _,fun _ _ _=>rfl⟩,fun j hj=>Or.inl hj⟩;simp [Builtin.append_,run_underlying ht,sizeOf,typeInfo,hi,Builtin.lenOf,Builtin.firstCells,loadCells,loadCellsFrom]
      · have hr:=run_append_nil (P:=P) w t ty e i z ht hi hz a m c news hl hnews (by omega) (by omega) (by have hb:=hbytes;simp only [Nat.zero_add] at hb;omega)
        have hgr:=grown 0 (by omega) (Value.ownBlock (.slice none 0 0));simp only [Nat.zero_add,List.nil_append,Array.empty_append] at hgr ⊢;exact ⟨_,_,hr,hgr.1,hgr.2,fun j hj=>Or.inr (by simp [Value.ownBlock] at hj;omega)⟩
    · by_cases hroom:n+m≤cap
      · have hfit:n * i.size+news.length≤cur.size:=by rw [hl,hcs,← Nat.add_mul];exact Nat.mul_le_mul_right _ hroom
        have hr:=run_append_room (P:=P) w t ty e i ht hi g n cap cur hg a m c news hl hnews h1 hroom hfit;refine ⟨_,_,hr,⟨hlen,.inr ⟨g,cap,_,rfl,hbg,setRow_heap w g cur _ e _ hg,hroom,hcm,?_,?_⟩⟩,⟨rfl,rfl,rfl,by simp,fun k _ hk=>setRow_other w g k _ (fun e=>hk (by simp [Value.ownBlock,e]))⟩,fun j hj=>Or.inl hj⟩
        · simp only [List.size_toArray,List.length_append,List.length_take,List.length_drop,Array.length_toList]
          omega
        · rw [htake,← hlen]
          exact List.take_left
      · have holds:∀ j u,xs[j]? = some u→w.cell? ((⟨g,0,none⟩:Addr).add j)=some u:=hown.cells (g:=g) rfl
        have hr:=run_append_grow (P:=P) w t ty e i z ht hi hz ⟨g,0,none⟩ n cap xs hown.1 holds a m c news hl hnews (by omega) (by omega) (growslice_fits (by omega) hbytes);have hgr:=grown cap (by omega) (Value.ownBlock (.slice (some ⟨g,0,none⟩) n cap));exact ⟨_,_,hr,hgr.1,hgr.2,fun j hj=>Or.inr (by simp [Value.ownBlock] at hj;omega)⟩
theorem apT_run {w w':World} {t ty:TypeId} {v x v':Value} (h:(Builtin.append_ #[t,t] ty #[v,x]).run P w=.ok v' w'):(apT t ty v x).run P w=.ok (.value v') w':=by
  unfold apT opT execOp;simp only [resolve,invoke,builtin,Sem.run_bind,Sem.run_pure,Result.andThen_ok,List.map_toArray,List.map_cons,List.map_nil];show ((Builtin.append_ #[t,t] ty #[v,x]).run P w).andThen _=_;rw [h];rfl
theorem ops_app (t ty e:TypeId) (i:TypeInfo) (z:Value) (ht:P.underlying t=some (.slice e)) (hi:P.info? e=some i) (hz:i.zero=some z) (hzs:z.cells.size=i.size) (hsz:0 < i.size) {size:Nat} (hs:size=i.size)
    {v x:Value} {n m:Nat} {xs news:List Value} (h1:∀ u ∈ news,u.oneCell'=true) (h63:n+m≤maxLen) (hbytes:(n+m) * i.bytes≤140737488355328) :
    OpS P (apT t ty v x) [] [rowO e size v n xs,rowO e size x m news] (fun v'=>v') (fun _=>[]) (fun v'=>[rowO e size v' (n+m) (xs++news),rowO e size x m news]):=by
  intro wb w H;subst hs;have hv:w.ownsRow 0 e i.size v n xs:=is_at H.is 0 (c:=rowO e i.size v n xs) rfl;have hx:w.ownsRow 0 e i.size x m news:=is_at H.is 1 (c:=rowO e i.size x m news) rfl;obtain ⟨A,c,rfl,hmc,hcells⟩:=own_form hx;obtain ⟨v',w',hr,h2,h3,h4⟩:=run_append_blk (P:=P) t ty e i z ht hi hz hzs hsz v n xs hv A m c (fun hA=>by
    rcases hx.2 with ⟨h,_⟩ | ⟨g,cap,cur,h,_⟩
    · injection h with _ _ h
    · injection h with h;rw [hA] at h;cases h) news hx.1 hcells h1 h63 hbytes
  exact ⟨v',w',_,apT_run hr,Or.inl rfl,(Kp.begin H).turn (grown_fp h3) h2 h4⟩
theorem run_append_str {w:World} (t u ty e:TypeId) (i:TypeInfo) (ht:P.underlying t=some (.slice e)) (hu:P.underlying u=some .string) (hi:P.info? e=some i) (hz:i.zero=some (.int .u8 0)) (hsize:i.size=1) (hby:i.bytes=1)
    (v:Value) (n:Nat) (xs:List Value) (hown:w.ownsRow 0 e 1 v n xs) (s:ByteArray) (h63:n+s.size≤maxLen) (hbytes:n+s.size≤140737488355328) :
    ∃ v' w',(Builtin.append_ #[t,u] ty #[v,.string s]).run P w=.ok v' w'∧w'.ownsRow 0 e 1 v' (n+s.size) (xs++Lib.strCells s)∧w.grownBy w' v.ownBlock∧(∀ j,v'.ownBlock=some j→v.ownBlock=some j∨w.heap.size≤j):=by
  obtain ⟨v',w',hr,h2,h3,_⟩:=Lib.run_append_own_string (P:=P) (w:=w) 0 t u ty e i ht hu hi hz hsize hby v n xs hown s h63 hbytes (Nat.zero_le _);refine ⟨v',w',hr,h2,h3,?_⟩;have hsmall:n+s.size≤9223372036854775807:=by simp only [maxLen] at h63;omega
  have hxl:xs.length=n:=by simpa using hown.1
  rcases hown.2 with ⟨rfl,rfl⟩ | ⟨g,cap,cur,rfl,hbg,hg,hnc,hcm,hcs,htake⟩
  · have hown2:w.ownsRow w.heap.size e 1 (.slice none 0 0) 0 xs:=⟨hown.1,Or.inl ⟨rfl,rfl⟩⟩
    obtain ⟨v2,w2,hr2,k2,_,_⟩:=Lib.run_append_own_string (P:=P) (w:=w) w.heap.size t u ty e i ht hu hi hz hsize hby (.slice none 0 0) 0 xs hown2 s h63 hbytes (Nat.le_refl _);rw [hr] at hr2;injection hr2 with e1 _
    subst e1;exact fun j hj=>Or.inr (own_lt k2 hj).2
  · by_cases hroom:n+s.size≤cap
    · have hcs':cur.size=cap:=by simpa using hcs
      have hr2:=Lib.run_append_room_string (P:=P) w t u ty e i ht hu hi hsize g n cap cur hg s hroom (by omega);rw [hr] at hr2;injection hr2 with e1 _
      subst e1;exact fun j hj=>Or.inl hj
    · have holds:∀ j u,xs[j]? = some u→w.cell? ((⟨g,0,none⟩:Addr).add j)=some u:=hown.cells (g:=g) rfl
      have hr2:=Lib.run_append_grow_string (P:=P) w t u ty e i (.int .u8 0) ht hu hi hz ⟨g,0,none⟩ n cap xs (by rw [hsize];simpa using hxl) holds s (by omega) (by omega) (by rw [hby];exact growslice_fits (by omega) (by omega));rw [hr] at hr2;injection hr2 with e1 _
      subst e1;exact fun j hj=>Or.inr (by simp [Value.ownBlock] at hj;omega)
theorem apsT_run {w w':World} {t u ty:TypeId} {v x v':Value} (h:(Builtin.append_ #[t,u] ty #[v,x]).run P w=.ok v' w'):(apsT t u ty v x).run P w=.ok (.value v') w':=by
  unfold apsT opT execOp;simp only [resolve,invoke,builtin,Sem.run_bind,Sem.run_pure,Result.andThen_ok,List.map_toArray,List.map_cons,List.map_nil];show ((Builtin.append_ #[t,u] ty #[v,x]).run P w).andThen _=_;rw [h];rfl
theorem ops_aps (t u ty e:TypeId) (i:TypeInfo) (ht:P.underlying t=some (.slice e)) (hu:P.underlying u=some .string) (hi:P.info? e=some i) (hz:i.zero=some (.int .u8 0)) (hsize:i.size=1) (hby:i.bytes=1)
    {v:Value} {n:Nat} {xs:List Value} (s:ByteArray) (h63:n+s.size≤maxLen) (hbytes:n+s.size≤140737488355328) :
    OpS P (apsT t u ty v (.string s)) [] [rowO e 1 v n xs] (fun v'=>v') (fun _=>[]) (fun v'=>[rowO e 1 v' (n+s.size) (xs++Lib.strCells s)]):=by
  intro wb w H;obtain ⟨v',w',hr,h2,h3,h4⟩:=run_append_str (P:=P) t u ty e i ht hu hi hz hsize hby v n xs (is_at H.is 0 (c:=rowO e 1 v n xs) rfl) s h63 hbytes;exact ⟨v',w',_,apsT_run hr,Or.inl rfl,(Kp.begin H).turn (grown_fp h3) h2 h4⟩
theorem ops_sub (t ty e:TypeId) (i:TypeInfo) (z:Value) (ht:P.underlying t=some (.slice e)) (hi:P.info? e=some i) (hz:i.zero=some z) (hzs:z.cells.size=i.size) (hsz:0 < i.size) {size:Nat} (hs:size=i.size)
    {v:Value} {n:Nat} {xs:List Value} {A:Option Addr} {m c:Nat} {news:List Value} (hAc:A=none→c=0) (hl:news.length=m * size) (hn:∀ w:World,w.ownsRow 0 e size v n xs→CellsA w A news) (h1:∀ u ∈ news,u.oneCell'=true) (h63:m≤maxLen) (hbytes:m * i.bytes≤140737488355328) :
    OpS P (apT t ty (.slice none 0 0) (.slice A m c)) [] [rowO e size v n xs] (fun v'=>v') (fun _=>[]) (fun v'=>[rowO e size v' m news,rowO e size v n xs]):=by
  intro wb w H;subst hs;have hx:w.ownsRow 0 e i.size v n xs:=is_at H.is 0 (c:=rowO e i.size v n xs) rfl;obtain ⟨v',w',hr,h2,h3,h4⟩:=run_append_blk (P:=P) t ty e i z ht hi hz hzs hsz (.slice none 0 0) 0 [] (World.ownsRow_nil _ _ _ _) A m c hAc news hl (hn w hx) h1 (by omega) (by rw [Nat.zero_add];exact hbytes);rw [Nat.zero_add,List.nil_append] at h2;refine ⟨v',w',_,apT_run hr,Or.inl rfl,(Kp.begin H).newC (below_none h3) _ h2 (fun j hj=>(h4 j hj).resolve_left (by simp [Value.ownBlock]))⟩
theorem ops_one (t e ty:TypeId) (x:Value) (cells:Array Value) (hx:x=.agg cells) (ie:TypeInfo) (zz:Value) {size:Nat} (hsz:size=ie.size) (hu:P.underlying t=some (.slice e)) (hie:P.info? e=some ie) (hz:ie.zero=some zz) (hsmall:¬ 1 * ie.size > 2 ^ 24) (hpos:¬ 1 * ie.size=0)
    (h:Instr.fill (fun i=>some (i * ie.size,ie.size)) ((Array.range (1 * ie.size)).map (zz.cells[· % zz.cells.size]!)) [(0,.agg cells)]=some cells) (hs:cells.size=1 * ie.size) :
    OpS P (bsT t x ty) [] [] (fun b=>.slice (some ⟨b,0,none⟩) 1 1) (fun _=>[]) (fun b=>[rowO e size (.slice (some ⟨b,0,none⟩) 1 1) 1 cells.toList]):=by
  intro wb w H;subst hx hsz;have hb:Below w.heap.size w (w.alloc (.cells cells e)):=(Below.refl _ _).alloc (Nat.le_refl _) _;refine ⟨w.heap.size,w.alloc (.cells cells e),_,(by unfold bsT opT;exact run_slice1 t e (.tmp 0) rfl cells rfl ie zz hu hie hz hsmall hpos h),Or.inl rfl,(Kp.begin H).newC hb _ ?_ ?_⟩
  · refine own_mk (xs:=cells.toList) ?_ (by simpa using hs) (by decide) (Nat.zero_le _)
    simpa using heap_alloc_new w (.cells cells e)
  · intro j hj
    have hj:(Value.slice (some ⟨w.heap.size,0,none⟩) 1 1).ownBlock=some j:=hj;simp [Value.ownBlock] at hj
    omega
theorem ops_emp (t e ty:TypeId) (ie:TypeInfo) (hu:P.underlying t=some (.slice e)) (hie:P.info? e=some ie) (size:Nat) :
    OpS P (opT [] (.buildSlice t 0 #[]) ty) [] [] (fun b=>.slice (some ⟨b,0,none⟩) 0 0) (fun _=>[]) (fun b=>[rowO e size (.slice (some ⟨b,0,none⟩) 0 0) 0 []]):=by
  intro wb w H;have hb:Below w.heap.size w (w.alloc (.cells #[] e)):=(Below.refl _ _).alloc (Nat.le_refl _) _;refine ⟨w.heap.size,w.alloc (.cells #[] e),_,?_,Or.inl rfl,(Kp.begin H).newC hb _ ?_ ?_⟩
  · unfold opT execOp
    simp [Instr.buildSlice,run_underlying hu,sizeOf,typeInfo,hie,newRow,Instr.fill]
    congr 2;exact Array.eq_empty_of_size_eq_zero (by simp)
  · exact own_mk (xs:=[]) (heap_alloc_new w (.cells #[] e)) (by simp) (by decide) (Nat.zero_le _)
  · intro j hj
    have hj:(Value.slice (some ⟨w.heap.size,0,none⟩) 0 0).ownBlock=some j:=hj;simp [Value.ownBlock] at hj
    omega
theorem ops_map {α:Type} (f:α→Value) (T ty:TypeId) (hr:∀ w:World,(opT [] (.makeMap T none) ty).run P w=.ok (.value (.map (some w.heap.size))) (w.alloc (.map #[] 0))) :
    OpS P (opT [] (.makeMap T none) ty) [] [] (fun b=>.map (some b)) (fun _=>[]) (fun b=>[mapC b f []]):=by
  intro wb w H;have hb:Below w.heap.size w (w.alloc (.map #[] 0)):=(Below.refl _ _).alloc (Nat.le_refl _) _;refine ⟨w.heap.size,_,_,hr w,Or.inl rfl,(Kp.begin H).newC hb _ ⟨#[],0,heap_alloc_new w _,rfl⟩ ?_⟩;intro j hj;have hj:j=w.heap.size:=hj;omega
variable {α:Type} [DecidableEq α] {f:α→Value} {kt:TypeId} {d:TypeDesc}
theorem ops_update (K:KeyF P kt f d) {T et:TypeId} (hT:P.underlying T=some (.map kt et)) (ty:TypeId) {b:Nat} {es:List (α × Value)} (k:α) (v:Value) :
    OpS P (upT T (.map (some b)) (f k) v ty) [] [mapC b f es] (fun _:Unit=>undef) (fun _=>[]) (fun _=>[mapC b f (putE es k v)]):=by
  intro wb w H;obtain ⟨w',h1,h2,h3⟩:=op_update K hT (is_at H.is 0 (c:=mapC b f es) rfl) k v;exact ⟨(),w',_,(by unfold upT opT;exact h3 (Or.inl rfl) rfl rfl rfl),Or.inr ⟨rfl,rfl⟩,(Kp.begin H).turn h2 h1 (fun j hj=>Or.inl hj)⟩
theorem rd_lookup (K:KeyF P kt f d) {T et:TypeId} (hT:P.underlying T=some (.map kt et)) {w:World} {b:Nat} {es:List (α × Value)} (h:MapAt w b f es) (k:α) {zv:Value} (hz:(zeroValue et).run P w=.ok zv w) (ty:TypeId):(lkT T (.map (some b)) (f k) ty).run P w=.ok (.value ((getE es k).getD zv)) w :=
  by unfold lkT opT;exact op_lookup K hT h k hz rfl rfl rfl
end
end Go.Proofs.YtehpihmgjbmoaaaGreatDoor
namespace Go.Proofs.YtehpihmgjbmoaaaGreatDoor
open Go.RowKit
def wkC:List Nat→Code→List (Act→World→Prop)→List It→Option (Code × List It)
  | [],c,_,st=>some (c,st)
  | i::p,c,Js,st=>match c with
    | .seq x y=>match i with
      | 0=>wkC p x Js (.code y::st)
      | 1=>wkC p y Js st
      | _=>match Js with
        | J::Js=>wkC p x Js (.stop J::st)
        | []=>none
    | .block id c=>wkC p c Js (.blk id::st)
    | .cond _ x y=>match i with
      | 0=>wkC p x Js st
      | _=>wkC p y Js st
    | .loop c=>match Js with
      | J::Js=>wkC p c Js (.stop J::st)
      | []=>none
    | _=>none
def cfgP (c:Code) (p:List Nat) (Js:List (Act→World→Prop)):Cfg:=match wkC p c Js [] with
  | some (x,st)=>.code x st
  | none=>.out .normal []
def runP (c:Code) (p:List Nat) (Js:List (Act→World→Prop)) (i:Nat):Cfg:=match wkC p c Js [] with
  | some (.region _ ops _,st)=>.run ops (ops.toList.drop i) st
  | _=>.out .normal []
def stP (c:Code) (p:List Nat) (Js:List (Act→World→Prop)):List It:=match wkC p c Js [] with
  | some (_,st)=>st
  | none=>[]
def inLoop (J:Act→World→Prop):Cfg→Option Cfg
  | .code (.loop c) st=>some (.code c (.stop J::st))
  | _=>none
section
variable {P:Program} {Q:Exit→Act→World→Prop} {n:Nat} {wb w0 w:World} {G:Nat→Prop} {I:Chk} {B:List Bx} {s:Sg}
theorem en_norm (c':Cfg) (L':List (Nat × Value)) (B':List Bx) (k:Ok P Q n wb w0 G I ⟨c',L',B'⟩) (hc:ctl s.L 300 s.cfg=c':=by kernel_rfl) (hL:picks s.L (L'.map (·.1))=some L':=by kernel_rfl) (hB:s.B=B':=by kernel_rfl):Ok P Q n wb w0 G I s:=by
  intro a w F HK;refine ctl_ok F 300 s.cfg ?_;rw [hc];exact k a w (F.cut _ hL) (hB ▸ HK)
theorem en_loopP {α:Type} (b:Code) (p p':List Nat) (Js:List (Act→World→Prop)) (m:α→Nat) (Lx:α→List (Nat × Value)) (Bx':α→List Bx) (Ix:α→Chk) (x0:α) (hI:I=Ix x0)
    (k:∀ x (J:Act→World→Prop),(∀ y a w,m y < m x→FrL n (Lx y) a→Kp wb w0 G (Bx' y) (Ix y) w→J a w)→Ok P Q n wb w0 G (Ix x) ⟨cfgP b p' (Js++[J]),Lx x,Bx' x⟩)
    (hc:ctl s.L 300 s.cfg=cfgP b p Js:=by kernel_rfl) (hn:∀ J,inLoop J (cfgP b p Js)=some (cfgP b p' (Js++[J])):=by intro J;kernel_rfl) (hL:picks s.L ((Lx x0).map (·.1))=some (Lx x0):=by kernel_rfl) (hB:s.B=Bx' x0:=by kernel_rfl):Ok P Q n wb w0 G I s:=by
  intro a w F HK;subst hI;refine ctl_ok F 300 s.cfg ?_;rw [hc];have h0:=hn (fun _ _=>False);rcases hs:cfgP b p Js with ⟨c,st⟩ | _ | _ | _
  · rw [hs] at hn h0
    cases c with
    | loop c =>
      refine loop_ix m (fun x a w=>FrL n (Lx x) a∧Kp wb w0 G (Bx' x) (Ix x) w) (fun x a w hx=>?_) x0 ⟨F.cut _ hL,hB ▸ HK⟩;have h1:=hn (fun a' w'=>∃ y,m y < m x∧FrL n (Lx y) a'∧Kp wb w0 G (Bx' y) (Ix y) w');have h2:=k x (fun a' w'=>∃ y,m y < m x∧FrL n (Lx y) a'∧Kp wb w0 G (Bx' y) (Ix y) w') (fun y a w h1 h2 h3=>⟨y,h1,h2,h3⟩);rw [← Option.some.inj h1] at h2;exact h2 a w hx.1 hx.2
    | _=>cases h0
  · rw [hs] at h0;cases h0
  · rw [hs] at h0;cases h0
  · rw [hs] at h0;cases h0
theorem en_meetP {α:Type} (b:Code) (p:List Nat) (Js:List (Act→World→Prop)) (d:Nat) (Lx:α→List (Nat × Value)) (Bx':α→List Bx) (Ix:α→Chk)
    (k1:∀ J:Act→World→Prop,(∀ x a w,FrL n (Lx x) a→Kp wb w0 G (Bx' x) (Ix x) w→J a w)→Ok P Q n wb w0 G I (meetS s d J))
    (k2:∀ x,Ok P Q n wb w0 G (Ix x) ⟨.out .normal (stP b p Js),Lx x,Bx' x⟩) (h:(putS (fun _ _=>False) d (stk (ctl s.L 300 s.cfg))).isSome=true:=by kernel_rfl) (hs:meetN s d=.out .normal (stP b p Js):=by kernel_rfl):Ok P Q n wb w0 G I s :=
  en_meet d Lx Bx' Ix k1 (fun x=>by rw [hs];exact k2 x) h
end
end Go.Proofs.YtehpihmgjbmoaaaGreatDoor
namespace Go.Proofs.YtehpihmgjbmoaaaGreatDoor
open Go.RowKit
section
variable {P:Program} {Q:Exit→Act→World→Prop} {n:Nat} {wb w0:World} {G:Nat→Prop} {I:Chk} {s:Sg}
def hdI (P:Program) (i:Nat) (s:Sg):Option (Sem Next × Option Nat × (List (Nat × Nat × Nat)→Cfg) × Option (List Ob × Rd)):=match ctl s.L 300 s.cfg with
  | .any ops listed (m+1) _ bs ob z st=>match ops[i]? with
    | some o=>match wantsT ops s.L o with
      | some true=>if noSel o.op && o.op.operands.toList.all (inDom s.L) then some (execOp (known s.L) o,o.dst,fun ks=>.any ops (listed.setIfInBounds i true) m ks bs ob z st,if Nat.beq i z then none else some (bs,ob)) else none
      | _=>none
    | none=>none
  | _=>none
def nxI (P:Program) (i:Nat) (s:Sg) (ks:List (Nat × Nat × Nat)) (v:Value) (B:List Bx):Sg:=match hdI P i s with
  | some (_,d,c,_)=>⟨c ks,addL s.L d v,B⟩
  | none=>⟨.out .normal [],[],[]⟩
def hdTI (P:Program) (n i:Nat) (s:Sg):Option (Sem Next):=match hdI P i s with
  | some (T,some d,_)=>if Nat.blt d n then some T else none
  | some (T,none,_)=>some T
  | none=>none
def hdCI (P:Program) (n i:Nat) (s:Sg):Option (FuncId × Array Value):=match hdTI P n i s with
  | some T=>match alone P T with
    | some (.enter f args)=>some (f,args)
    | _=>none
  | none=>none
def hdNI (P:Program) (i:Nat) (s:Sg):Option (List Ob × Rd):=match hdI P i s with
  | some (_,_,_,N)=>N
  | none=>none
def goalI (P:Program) (Q:Exit→Act→World→Prop) (i:Nat):Cfg→Act→World→Prop
  | .any ops listed (m+1) _ bs ob z st,a,w=>closedA ops listed→i ∈ Region.ready .any ops listed→∀ o,ops[i]? = some o→∀ K:Act→World→Prop,Shut (∀ b u,(i≠z→SB P bs ob u)→((i≠z→SB P bs ob u)→AnyT P .any ops (NoPanic (after P Q st)) (SB P bs ob) z m (listed.setIfInBounds i true) b u)→K b u)→if Region.wanted o (yielded ops a.tmps)=true then Oper.wp P o a w K (NoPanic (after P Q st)) else K (a.put o.dst undef) w
  | _,_,_=>False
def OkI (P:Program) (Q:Exit→Act→World→Prop) (n i:Nat) (wb w0:World) (G:Nat→Prop) (I:Chk) (s:Sg):Prop:=∀ a w,FrL n s.L a→Kp wb w0 G s.B I w→goalI P Q i (ctl s.L 300 s.cfg) a w
def twoC:Cfg→Option (List Nat)
  | .any ops listed (_+1) _ _ _ _ _=>if (Region.ready .any ops listed).all fun i=>ops[i]?.isSome then some (Region.ready .any ops listed) else none
  | _=>none
theorem en_two (i j:Nat) (k1:OkI P Q n i wb w0 G I s) (k2:OkI P Q n j wb w0 G I s) (h:twoC (ctl s.L 300 s.cfg)=some [i,j]:=by kernel_rfl):Ok P Q n wb w0 G I s:=by
  intro a w F HK;refine ctl_ok F 300 s.cfg ?_;have g1:=k1 a w F HK;have g2:=k2 a w F HK;unfold twoC at h;split at h
  · rename_i ops listed m ks bs ob z st hc
    split at h
    · rename_i hall
      injection h with h
      rw [hc] at g1 g2 ⊢;intro hcl;rw [h] at hall;simp only [List.all_cons,Bool.and_eq_true] at hall;obtain ⟨o1,ho1⟩:=Option.isSome_iff_exists.1 hall.1;obtain ⟨o2,ho2⟩:=Option.isSome_iff_exists.1 hall.2.1;exact AnyT.step2 h ho1 ho2 (g1 hcl (by rw [h];exact List.mem_cons_self) o1 ho1) (g2 hcl (by rw [h];exact List.mem_cons_of_mem _ (List.mem_singleton.2 rfl)) o2 ho2)
    · cases h
  · cases h
theorem hdI_ok {i:Nat} {T:Sem Next} (h:hdTI P n i s=some T) {a:Act} {w:World} (F:FrL n s.L a) (k:∀ (o:Oper) (K:Act→World→Prop) (Q':Exit→Act→World→Prop),o.dst.all (fun d=>Nat.blt d n)=true→execOp a.eval o=T→(∀ ks v B' w' I',Kp wb w0 G B' I' w'→nd1 (hdNI P i s) ks B'=nd2 (hdNI P i s)→RdOk P w' (ndO (hdNI P i s))→(nxI P i s ks v B').L=addL s.L o.dst v→((nxI P i s ks v B').cfg.goal P Q (a.put o.dst v) w')→K (a.put o.dst v) w')→(∀ ks v B',(nxI P i s ks v B').L=addL s.L o.dst v∧(nxI P i s ks v B').B=B')→o.wp P a w K Q'):goalI P Q i (ctl s.L 300 s.cfg) a w:=by
  cases hh:hdI P i s with
  | none=>simp only [hdTI,hh] at h;cases h
  | some r =>
    obtain ⟨T',d,c,N⟩:=r;have hn:∀ ks v B',nxI P i s ks v B'=⟨c ks,addL s.L d v,B'⟩:=fun ks v B'=>by
      unfold nxI;rw [hh]
    have hT:T'=T∧d.all (fun d=>Nat.blt d n)=true:=by
      cases d with
      | none=>simp only [hdTI,hh] at h;injection h with h;exact ⟨h,rfl⟩
      | some d =>
        simp only [hdTI,hh] at h;split at h
        · rename_i hd
          injection h with h;exact ⟨h,hd⟩
        · cases h
    have hN:hdNI P i s=N:=by unfold hdNI;rw [hh]
    unfold hdI at hh;split at hh
    · rename_i ops listed m ks0 bs ob z st hc
      split at hh
      · rename_i o ho
        split at hh
        · rename_i hw
          split at hh
          · rename_i hd
            injection hh with hh
            injection hh with h1 hh
            injection hh with h2 hh
            injection hh with h3 h4
            subst h2 h3;rw [hc];rw [Bool.and_eq_true] at hd;intro hcl hr o' ho' K hK;rw [ho] at ho';injection ho' with ho'
            subst ho';rw [if_pos (wantsT_spec F hw)];refine k o K _ hT.2 (by rw [← hT.1,← h1];exact execOp_congr o (fun cs b e=>by have h3:=hd.1;rw [e] at h3;cases h3) (fun x hx=>known_ev F (List.all_eq_true.1 hd.2 x (by simpa using hx)))) (fun ks v B' w' I' HK' e1 e2 _ hg=>?_) (fun ks v B'=>by rw [hn];exact ⟨rfl,rfl⟩);rw [hn] at hg;refine hK.out _ _ (fun hz=>?_) (fun _=>hg (closed_set hcl hr));rw [if_neg (fun e=>hz (Nat.eq_of_beq_eq_true e))] at h4;subst h4;rw [hN] at e1 e2;exact sb_of e1 HK' e2
          · cases hh
        · cases hh
      · cases hh
    · cases hh
theorem en_specI (i:Nat) {f:FuncId} {args:Array Value} {B1:List Bx} {l0 l1:List Chk} {α:Type} {v:α→Value} {B':α→List Bx} {l':α→List Chk} (hS:Spec P wb f args B1 l1 v B' l') (ks cs:List Nat) (js:List (Nat × Nat × Nat))
    (k:∀ x,Ok P Q n wb w0 G (many (l' x++restI cs l0)) (nxI P i s js (v x) (B' x++restI ks s.B))) (hk:headI ks s.B=some B1:=by kernel_rfl) (hc:headI cs l0=some l1:=by kernel_rfl) (h:hdCI P n i s=some (f,args):=by kernel_rfl) (hS2:∀ x,nd1 (hdNI P i s) js (B' x++restI ks s.B)=nd2 (hdNI P i s):=by intro x;kernel_rfl) (hO:ndO (hdNI P i s)=r0:=by kernel_rfl):OkI P Q n i wb w0 G (many l0) s:=by
  intro a w F HK;unfold hdCI at h;split at h
  · rename_i T hT
    split at h
    · rename_i f' args' hA
      injection h with h
      injection h with h1 h2
      subst h1 h2;refine hdI_ok (wb:=wb) (w0:=w0) (G:=G) hT F (fun o K Q' hd he hnext hl=>?_);unfold Oper.wp;rw [he,alone_run _ _ hA w];have HK':=HK.perm (headI_perm hk) (headI_perm hc);refine Calls.mono (hS w HK'.hp.left) ?_;rintro e w' ⟨x,rfl,hx⟩;have H2:=HK'.frame hx;have hk2:=k x _ w' (by rw [(hl js (v x) (B' x++restI ks s.B)).1];exact put_ok F hd (v x)) (by rw [(hl js (v x) (B' x++restI ks s.B)).2];exact H2);exact hnext js (v x) _ w' _ H2 (hS2 x) (by rw [hO];exact rd0) (hl _ _ _).1 hk2
    · cases h
  · cases h
theorem en_opsI (i:Nat) {T:Sem Next} {B1:List Bx} {l0 l1:List Chk} {α:Type} {v:α→Value} {B':α→List Bx} {l':α→List Chk} (hS:OpS P T B1 l1 v B' l') (ks cs:List Nat) (js:List (Nat × Nat × Nat))
    (k:∀ x,Ok P Q n wb w0 G (many (l' x++restI cs l0)) (nxI P i s js (v x) (B' x++restI ks s.B))) (hk:headI ks s.B=some B1:=by kernel_rfl) (hc:headI cs l0=some l1:=by kernel_rfl) (h:hdTI P n i s=some T:=by kernel_rfl) (hS2:∀ x,nd1 (hdNI P i s) js (B' x++restI ks s.B)=nd2 (hdNI P i s):=by intro x;kernel_rfl) (hO:ndO (hdNI P i s)=r0:=by kernel_rfl):OkI P Q n i wb w0 G (many l0) s:=by
  intro a w F HK;refine hdI_ok (wb:=wb) (w0:=w0) (G:=G) h F (fun o K Q' hd he hnext hl=>?_);have HK':=HK.perm (headI_perm hk) (headI_perm hc);obtain ⟨x,w',r,h1,h2,h3⟩:=hS wb w HK'.hp.left;have H2:=HK'.frame h3;have hk2:=k x _ w' (by rw [(hl js (v x) (B' x++restI ks s.B)).1];exact put_ok F hd (v x)) (by rw [(hl js (v x) (B' x++restI ks s.B)).2];exact H2);have hK:=hnext js (v x) _ w' _ H2 (hS2 x) (by rw [hO];exact rd0) (hl _ _ _).1 hk2;unfold Oper.wp;rw [he,h1];rcases h2 with rfl | ⟨rfl,e⟩
  · exact hK
  · show K (a.put o.dst undef) w'
    rw [← e];exact hK
end
end Go.Proofs.YtehpihmgjbmoaaaGreatDoor
