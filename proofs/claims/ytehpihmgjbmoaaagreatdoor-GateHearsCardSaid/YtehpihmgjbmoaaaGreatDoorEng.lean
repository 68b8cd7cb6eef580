import Derived.Test.YtehpihmgjbmoaaaGreatDoorJoinC
namespace Go.Proofs.YtehpihmgjbmoaaaGreatDoor
open Go.RowKit
structure Bx where
  blk:Nat
  cells:List Value
  ty:TypeId
structure Chk where
  is:World→Prop
  fp:Nat→Prop
  lt:∀ w j,is w→fp j→j < w.heap.size
  st:∀ w w' (G:Nat→Prop),is w→Only G w w'→(∀ j,fp j→¬ G j)→is w'
def Chk.and (A B:Chk):Chk:=⟨fun w=>A.is w∧B.is w∧∀ j,A.fp j→¬ B.fp j,fun j=>A.fp j∨B.fp j,
  fun w j h hj=>hj.elim (A.lt w j h.1) (B.lt w j h.2.1),
  fun w w' G h k hG=>⟨A.st w w' G h.1 k (fun j hj=>hG j (Or.inl hj)),B.st w w' G h.2.1 k (fun j hj=>hG j (Or.inr hj)),h.2.2⟩⟩
def Fp (B:List Bx) (I:Chk) (j:Nat):Prop:=(∃ x ∈ B,x.blk=j)∨I.fp j
structure Hp (wb:World) (B:List Bx) (I:Chk) (w:World):Prop where
  env0:Env wb
  low:Below wb.heap.size wb w
  box:∀ x ∈ B,BoxAt w x.blk x.cells.toArray x.ty
  nod:(B.map (·.blk)).Nodup
  up:∀ j,Fp B I j→wb.heap.size≤j
  is:I.is w
  far:∀ x ∈ B,¬ I.fp x.blk
structure Kp (wb w0:World) (G:Nat→Prop) (B:List Bx) (I:Chk) (w:World):Prop where
  hp:Hp wb B I w
  only:Only G w0 w
  new:∀ j,Fp B I j→G j∨w0.heap.size≤j
section
variable {wb w0 w w':World} {G:Nat→Prop} {B:List Bx} {I:Chk}
theorem Hp.env (h:Hp wb B I w):Env w:=h.env0.below h.low
theorem Hp.lt (h:Hp wb B I w) {j:Nat} (hj:Fp B I j):j < w.heap.size:=by
  rcases hj with ⟨x,hx,rfl⟩ | hj
  · exact (h.box x hx).lt
  · exact I.lt w j h.is hj
theorem Hp.at (h:Hp wb B I w) (k:Nat) {x:Bx} (hk:B[k]? = some x):BoxAt w x.blk x.cells.toArray x.ty:=h.box x (List.mem_of_getElem? hk)
theorem Hp.only {F:Nat→Prop} (h:Hp wb B I w) (k:Only F w w') (hF:∀ j,Fp B I j→¬ F j) (hb:∀ j,F j→wb.heap.size≤j):Hp wb B I w' :=
  ⟨h.env0,h.low.trans (k.below h.low.size hb),fun x hx=>(h.box x hx).only k (hF _ (Or.inl ⟨x,hx,rfl⟩)),h.nod,h.up,I.st w w' F h.is k (fun j hj=>hF j (Or.inr hj)),h.far⟩
theorem Hp.below (h:Hp wb B I w) (k:Below w.heap.size w w'):Hp wb B I w':=h.only (Only.of_below k (fun _=>False)) (fun _ _ h=>h) (fun _ h=>h.elim)
theorem Kp.below (h:Kp wb w0 G B I w) (k:Below w.heap.size w w'):Kp wb w0 G B I w':=⟨h.hp.below k,h.only.then k,h.new⟩
theorem Kp.drew (h:Kp wb w0 G B I w):Kp wb w0 G B I w.drew:=h.below (below_draws (n:=1) rfl)
theorem Hp.put (h:Hp wb B I w) {k:Nat} {x:Bx} (hk:B[k]? = some x) (o:Only (fun j=>j=x.blk) w w') {cs:List Value} (hc:BoxAt w' x.blk cs.toArray x.ty):Hp wb (B.set k ⟨x.blk,cs,x.ty⟩) I w':=by
  have hm:=List.mem_of_getElem? hk;have hlen:=(List.getElem?_eq_some_iff.1 hk).1;have hmap:(B.set k ⟨x.blk,cs,x.ty⟩).map (·.blk)=B.map (·.blk):=by
    rw [List.map_set];have h1:(B.map (·.blk))[k]? = some x.blk:=by rw [List.getElem?_map,hk];rfl
    obtain ⟨hlt,h3⟩:=List.getElem?_eq_some_iff.1 h1;show (B.map (·.blk)).set k x.blk=_;conv=>lhs;rw [← h3]
    exact List.set_getElem_self hlt
  have hup:∀ j,Fp (B.set k ⟨x.blk,cs,x.ty⟩) I j→Fp B I j:=by
    rintro j (⟨y,hy,rfl⟩ | hj)
    · have:y.blk ∈ (B.set k ⟨x.blk,cs,x.ty⟩).map (·.blk):=List.mem_map_of_mem hy
      rw [hmap] at this;obtain ⟨z,hz,e⟩:=List.mem_map.1 this;exact Or.inl ⟨z,hz,e⟩
    · exact Or.inr hj
  refine ⟨h.env0,h.low.trans (o.below h.low.size (fun j e=>e ▸ h.up _ (Or.inl ⟨x,hm,rfl⟩))),?_,by rw [hmap];exact h.nod,fun j hj=>h.up j (hup j hj),I.st w w' _ h.is o (fun j hj e=>h.far x hm (e ▸ hj)),?_⟩
  · intro y hy
    obtain ⟨j,hj⟩:=List.getElem?_of_mem hy;rw [List.getElem?_set] at hj;split at hj
    · injection hj with hj;subst hj;exact hc
    · rename_i hne
      have hy':=h.box y (List.mem_of_getElem? hj);refine hy'.only o (fun e=>hne ?_);have h1:(B.map (·.blk))[k]? = some x.blk:=by rw [List.getElem?_map,hk];rfl
      have h2:(B.map (·.blk))[j]? = some x.blk:=by rw [List.getElem?_map,hj];exact congrArg some e
      exact (List.getElem?_inj (List.getElem?_eq_some_iff.1 h1).1 h.nod).1 (h1.trans h2.symm)
  · intro y hy hf
    have:y.blk ∈ (B.set k ⟨x.blk,cs,x.ty⟩).map (·.blk):=List.mem_map_of_mem hy;rw [hmap] at this;obtain ⟨z,hz,e⟩:=List.mem_map.1 this;exact h.far z hz (e ▸ hf)
theorem Kp.put (h:Kp wb w0 G B I w) {k:Nat} {x:Bx} (hk:B[k]? = some x) (o:Only (fun j=>j=x.blk) w w') {cs:List Value} (hc:BoxAt w' x.blk cs.toArray x.ty):Kp wb w0 G (B.set k ⟨x.blk,cs,x.ty⟩) I w':=by
  have hm:=List.mem_of_getElem? hk;have hx:=h.new _ (Or.inl ⟨x,hm,rfl⟩);refine ⟨h.hp.put hk o hc,h.only.trans o (fun j hj e=>?_),?_⟩
  · subst e
    rcases hx with hx | hx
    · exact hx
    · omega
  · rintro j (⟨y,hy,rfl⟩ | hj)
    · rcases List.mem_or_eq_of_mem_set hy with hy | rfl
      · exact h.new _ (Or.inl ⟨y,hy,rfl⟩)
      · exact hx
    · exact h.new _ (Or.inr hj)
theorem Hp.alloc (h:Hp wb B I w) (cs:Array Value) (T:TypeId):Hp wb (B++[⟨w.heap.size,cs.toList,T⟩]) I (w.alloc (.cells cs T)):=by
  have k:Below w.heap.size w (w.alloc (.cells cs T)):=(Below.refl _ _).alloc (Nat.le_refl _) _;have h2:=h.below k;refine ⟨h.env0,h2.low,?_,?_,?_,h2.is,?_⟩
  · intro x hx
    rcases List.mem_append.1 hx with hx | hx
    · exact h2.box x hx
    · rw [List.mem_singleton.1 hx];exact BoxAt.new w cs T
  · rw [List.map_append,List.nodup_append]
    refine ⟨h.nod,(by simp),?_⟩;intro a ha b hb;obtain ⟨x,hx,rfl⟩:=List.mem_map.1 ha;simp only [List.map_cons,List.map_nil,List.mem_singleton] at hb;have:=h.lt (Or.inl ⟨x,hx,rfl⟩);omega
  · rintro j (⟨x,hx,rfl⟩ | hj)
    · rcases List.mem_append.1 hx with hx | hx
      · exact h.up _ (Or.inl ⟨x,hx,rfl⟩)
      · rw [List.mem_singleton.1 hx];exact h.low.size
    · exact h.up _ (Or.inr hj)
  · intro x hx hf
    rcases List.mem_append.1 hx with hx | hx
    · exact h.far x hx hf
    · rw [List.mem_singleton.1 hx] at hf
      have:=I.lt w _ h.is hf;simp only at this
      omega
theorem Kp.alloc (h:Kp wb w0 G B I w) (cs:Array Value) (T:TypeId):Kp wb w0 G (B++[⟨w.heap.size,cs.toList,T⟩]) I (w.alloc (.cells cs T)):=by
  refine ⟨h.hp.alloc cs T,h.only.alloc _,?_⟩;rintro j (⟨x,hx,rfl⟩ | hj)
  · rcases List.mem_append.1 hx with hx | hx
    · exact h.new _ (Or.inl ⟨x,hx,rfl⟩)
    · rw [List.mem_singleton.1 hx];exact Or.inr h.only.size
  · exact h.new _ (Or.inr hj)
end
def putV:List Value→Nat→List Value→List Value
  | [],_,_=>[]
  | x::r,0,vs=>match vs with
    | []=>x::r
    | v::vs=>v::putV r 0 vs
  | x::r,k+1,vs=>x::putV r k vs
theorem putV_nil:∀ (l:List Value) (k:Nat),putV l k []=l
  | [],_=>rfl
  | _::_,0=>rfl
  | x::r,k+1=>congrArg (x::·) (putV_nil r k)
theorem putV_cons:∀ (l:List Value) (k:Nat) (v:Value) (vs:List Value),putV l k (v::vs)=putV (l.set k v) (k+1) vs
  | [],_,_,_=>rfl
  | _::_,0,_,_=>rfl
  | x::r,k+1,v,vs=>congrArg (x::·) (putV_cons r k v vs)
theorem setMany_putV:∀ (vs l:List Value) (k:Nat),setMany l.toArray k vs=(putV l k vs).toArray
  | [],l,k=>by rw [putV_nil];rfl
  | v::vs,l,k=>by
    show setMany (l.toArray.setIfInBounds k v) (k+1) vs=_;rw [putV_cons,List.setIfInBounds_toArray];exact setMany_putV vs _ _
inductive It where
  | code (c:Code)
  | blk (id:Nat)
  | stop (J:Act→World→Prop)
def after (P:Program) (Q:Exit→Act→World→Prop):List It→Exit→Act→World→Prop
  | []=>Q
  | .code y::r=>Exit.then (y.wp P (after P Q r)) (after P Q r)
  | .blk id::r=>Exit.inBlock id (after P Q r)
  | .stop J::r=>Exit.then J (after P Q r)
structure Rd where
  ob:List Ob
  rd:List (Sem Next × Value)
def r0:Rd:=⟨[],[]⟩
def Rd.none (R:Rd):Bool:=R.ob.isEmpty && R.rd.isEmpty
theorem rd_none {R:Rd} (h:R.none=true):R=r0:=by
  obtain ⟨a,b⟩:=R;cases a <;> cases b <;> first | rfl | cases h
def RunOk (P:Program) (w:World):List (Sem Next × Value)→Prop
  | []=>True
  | x::r=>x.1.run P w=.ok (.value x.2) w∧RunOk P w r
theorem RunOk.get {P:Program} {w:World}:∀ {l:List (Sem Next × Value)} {j:Nat} {x:Sem Next × Value},RunOk P w l→l[j]? = some x→x.1.run P w=.ok (.value x.2) w
  | [],_,_,_,h=>by simp at h
  | y::r,0,x,h,e=>by
    simp only [List.getElem?_cons_zero,Option.some.injEq] at e;subst e;exact h.1
  | y::r,j+1,x,h,e=>RunOk.get h.2 (by simpa using e)
def RdOk (P:Program) (w:World) (R:Rd):Prop:=MemOk w R.ob∧RunOk P w R.rd
theorem rd0 {P:Program} {w:World}:RdOk P w r0:=⟨trivial,trivial⟩
def closedA (ops:Array Oper) (li:Array Bool):Prop:=∀ (i:Nat) (o:Oper),ops[i]? = some o→li.getD i false=true→∀ e ∈ o.after,Region.binds .any e=true→li.getD e.on false=true
def isData (e:Edge):Bool:=match e.ground with
  | .data=>true
  | _=>false
def waitT (ops:Array Oper):Nat→Nat→Nat→Bool
  | 0,_,_=>false
  | f+1,x,i=>match ops[x]? with
    | some o=>(o.after.any fun e=>e.on == i && Region.binds .any e) || (o.after.any fun e=>isData e && waitT ops f e.on i)
    | none=>false
def waitsC (ops:Array Oper) (z i:Nat):Bool:=match ops[z]? with
  | some _=>waitT ops 6 z i
  | none=>true
section
variable {P:Program} {ops:Array Oper} {Q:Exit→Act→World→Prop} {S:World→Prop} {z:Nat}
theorem data_binds {e:Edge} (h:isData e=true):Region.binds .any e=true:=by
  unfold isData at h;unfold Region.binds;split at h
  · rename_i hg;rw [hg]
  · cases h
theorem lis_of_wait {li:Array Bool} (hc:closedA ops li):∀ (f x i:Nat),(∀ o,ops[x]? = some o→∀ e ∈ o.after,Region.binds .any e=true→li.getD e.on false=true)→waitT ops f x i=true→li.getD i false=true
  | 0,_,_,_,h=>by cases h
  | f+1,x,i,hx,h=>by
    simp only [waitT] at h;split at h
    · rename_i o ho
      rw [Bool.or_eq_true] at h;rcases h with h | h
      · obtain ⟨e,he,hb⟩:=Array.any_eq_true'.1 h
        rw [Bool.and_eq_true,beq_iff_eq] at hb;rw [← hb.1];exact hx o ho e he hb.2
      · obtain ⟨e,he,hb⟩:=Array.any_eq_true'.1 h
        rw [Bool.and_eq_true] at hb;exact lis_of_wait hc f e.on i (fun o2 ho2=>hc e.on o2 ho2 (hx o ho e he (data_binds hb.1))) hb.2
    · cases h
theorem getD_ft {li:Array Bool} {i:Nat} (h:li.getD i true=false):li.getD i false=false:=by
  rcases Nat.lt_or_ge i li.size with hl | hl
  · simpa [hl] using h
  · simp [Array.getElem?_eq_none hl] at h
theorem not_readyC {i:Nat} {li:Array Bool} (hc:closedA ops li) (hz:waitsC ops z i=true) (hi:i ∈ Region.ready .any ops li):z ∉ Region.ready .any ops li:=by
  intro hr;obtain ⟨_,oz,ho,hall⟩:=mem_ready.1 hr;unfold waitsC at hz;rw [ho] at hz;have h1:=lis_of_wait hc 6 z i (fun o ho2=>by rw [ho] at ho2;injection ho2 with ho2;subst ho2;exact hall) hz;have h0:=getD_ft (mem_ready.1 hi).1;rw [h0] at h1;cases h1
theorem closed_set {i:Nat} {li:Array Bool} (hc:closedA ops li) (hi:i ∈ Region.ready .any ops li):closedA ops (li.setIfInBounds i true):=by
  intro j o ho hj e he hb;by_cases hji:i=j
  · subst hji
    obtain ⟨_,o2,ho2,hall⟩:=mem_ready.1 hi;rw [ho] at ho2;injection ho2 with ho2
    subst ho2;exact getD_set_true (hall e he hb)
  · rw [getD_set_ne false hji] at hj
    exact getD_set_true (hc j o ho hj e he hb)
theorem closed0 (n:Nat):closedA ops (Array.replicate n false):=by
  intro i o _ h;rcases Nat.lt_or_ge i n with hl | hl
  · simp [hl] at h
  · simp [hl] at h
theorem anyT_first {i:Nat} {oi:Oper} {v:Value} (hi:ops[i]? = some oi) (hsel:∀ (j:Nat) (o:Oper) cs b,ops[j]? = some o→o.op≠.select cs b) (hz:waitsC ops z i=true)
    (hQ:∀ c a w,Q (.panic c) (a.put oi.dst v) w→Q (.panic c) a w):∀ (n:Nat) (listed:Array Bool) (a:Act) (w:World),closedA ops listed →
      (∀ j oj,ops[j]? = some oj→j≠i→listed.getD j true=false→(∀ e ∈ oj.after,Region.binds .any e=true→e.on≠i)→oi.apart ops oj=true) →
      i ∈ Region.ready .any ops listed→YieldsIf P ops S oi v a→S w→AnyT P .any ops Q S z n (listed.setIfInBounds i true) (a.put oi.dst v) w→AnyT P .any ops Q S z (n+1) listed a w:=by
  intro n;induction n with
  | zero =>
    intro listed a w _ _ hr hy hS H;refine ⟨fun h=>(by rw [h] at hr;cases hr),fun j hj=>?_⟩;by_cases hji:j=i
    · subst hji;exact hy.wpOp hi hS ⟨fun _=>hS,H⟩
    · have h:=ready_mono hj hji
      rw [H.1] at h;cases h
  | succ n ih =>
    intro listed a w hcl hfree hr hy hS H;refine ⟨fun h=>(by rw [h] at hr;cases hr),fun j hj=>?_⟩;by_cases hji:j=i
    · subst hji;exact hy.wpOp hi hS ⟨fun _=>hS,H⟩
    · have hjz:j≠z:=fun e=>not_readyC hcl hz hr (e ▸ hj)
      have h1:=H.2 j (ready_mono hj hji);obtain ⟨hun,oj,hoj,hall⟩:=mem_ready.1 hj;have hnot:∀ e ∈ oj.after,Region.binds .any e=true→e.on≠i:=fun e he hb heq=>by
        have k1:=hall e he hb;have k0:=getD_ft (mem_ready.1 hr).1;rw [heq,k0] at k1;cases k1
      have h2:=wpOp_putIf hoj (hfree j oj hoj hji hun hnot) (fun cs b=>hsel i oi cs b hi) (fun cs b=>hsel j oj cs b hoj) hQ hy h1;have hfree':∀ k ok,ops[k]? = some ok→k≠i→(listed.setIfInBounds j true).getD k true=false →
          (∀ e ∈ ok.after,Region.binds .any e=true→e.on≠i)→oi.apart ops ok=true:=fun k ok hk hki hu hno=>by
        refine hfree k ok hk hki ?_ hno;by_cases hjk:j=k
        · subst hjk;exact hun
        · rw [getD_set_ne true hjk] at hu;exact hu
      refine wpOp_mono (fun b u h3=>⟨h3.2.1,ih (listed.setIfInBounds j true) b u (closed_set hcl hj) hfree' (ready_mono hr (Ne.symm hji)) h3.1 (h3.2.1 hjz) ?_⟩) h2;rw [Array.setIfInBounds_comm _ _ hji];exact h3.2.2
theorem anyT_take {i:Nat} {oi:Oper} {v:Value} {n:Nat} {listed:Array Bool} {a:Act} {w:World} (hc:closedA ops listed) (hi:ops[i]? = some oi) (hs:Region.noSelect ops=true) (hf:Region.free .any ops listed i=true)
    (hr:(Region.ready .any ops listed).contains i=true) (hz:waitsC ops z i=true) (hQ:∀ c a w,Q (.panic c) (a.put oi.dst v) w→Q (.panic c) a w) (hy:YieldsIf P ops S oi v a) (hS:S w)
    (h:AnyT P .any ops Q S z n (listed.setIfInBounds i true) (a.put oi.dst v) w):AnyT P .any ops Q S z (n+1) listed a w :=
  anyT_first hi (Region.noSelect_spec hs) hz hQ n listed a w hc (Region.free_spec hi hf) (by simpa using hr) hy hS h
end
inductive Cfg where
  | code (c:Code) (st:List It)
  | run (ops:Array Oper) (os:List Oper) (st:List It)
  | any (ops:Array Oper) (listed:Array Bool) (m:Nat) (ks:List (Nat × Nat × Nat)) (bs:List Ob) (ob:Rd) (z:Nat) (st:List It)
  | out (e:Exit) (st:List It)
def SB (P:Program) (bs:List Ob) (ob:Rd) (w:World):Prop:=MemOk w bs∧RdOk P w ob
def pickO (B:List Bx) (k:Nat × Nat × Nat):Option Ob:=match B[k.1]? with
  | some x=>some ⟨x.blk,k.2.1,(x.cells.drop k.2.1).take k.2.2⟩
  | none=>none
def Cfg.goal (P:Program) (Q:Exit→Act→World→Prop):Cfg→Act→World→Prop
  | .code c st,a,w=>c.wp P (after P Q st) a w
  | .run ops os st,a,w=>wpList P ops (after P Q st) os a w
  | .any ops listed m _ bs ob z st,a,w=>closedA ops listed→AnyT P .any ops (NoPanic (after P Q st)) (SB P bs ob) z m listed a w
  | .out e st,a,w=>after P Q st e a w
def ctl1 (L:List (Nat × Value)):Cfg→Option Cfg
  | .code c st=>match c with
    | .seq x y=>some (.code x (.code y::st))
    | .skip=>some (.out .normal st)
    | .label _=>some (.out .normal st)
    | .block id c=>some (.code c (.blk id::st))
    | .exit id=>some (.out (.exit id) st)
    | .ret=>some (.out .ret st)
    | .region _ ops false=>some (.run ops ops.toList st)
    | .cond c x y=>if inDom L c then match known L c with
        | .bool true=>some (.code x st)
        | .bool false=>some (.code y st)
        | _=>none
      else none
    | _=>none
  | .run _ [] st=>some (.out .normal st)
  | .run _ (_::_) _=>none
  | .any ops listed _ _ _ _ _ st=>if (Region.ready .any ops listed).isEmpty then some (.out .normal st) else none
  | .out .normal (.code y::r)=>some (.code y r)
  | .out .normal (.blk _::r)=>some (.out .normal r)
  | .out (.exit id) (.code _::r)=>some (.out (.exit id) r)
  | .out (.exit id) (.stop _::r)=>some (.out (.exit id) r)
  | .out (.exit id) (.blk j::r)=>if Nat.beq id j then some (.out .normal r) else some (.out (.exit id) r)
  | .out .ret (_::r)=>some (.out .ret r)
  | _=>none
def ctl (L:List (Nat × Value)):Nat→Cfg→Cfg
  | 0,c=>c
  | n+1,c=>match ctl1 L c with
    | none=>c
    | some c'=>ctl L n c'
section
variable {P:Program} {Q:Exit→Act→World→Prop} {n:Nat} {L:List (Nat × Value)}
theorem ctl1_ok {c c':Cfg} (h:ctl1 L c=some c') {a:Act} {w:World} (F:FrL n L a) (k:c'.goal P Q a w):c.goal P Q a w:=by
  unfold ctl1 at h;split at h
  · split at h
    · injection h with h;subst h;exact wp_seq k
    · injection h with h;subst h;exact wp_skip k
    · injection h with h;subst h;exact wp_label k
    · injection h with h;subst h;exact wp_block k
    · injection h with h;subst h;exact wp_exit k
    · injection h with h;subst h;exact wp_ret k
    · injection h with h;subst h;exact wp_region_list k
    · split at h
      · rename_i hd
        split at h
        · rename_i hv
          injection h with h;subst h
          exact wp_cond_true ((known_ev F hd).trans hv) k
        · rename_i hv
          injection h with h;subst h
          exact wp_cond_false ((known_ev F hd).trans hv) k
        · cases h
      · cases h
    · cases h
  · injection h with h;subst h;exact k
  · cases h
  · split at h
    · rename_i hr
      injection h with h;subst h
      exact fun _=>AnyT.done (by simpa using hr) (NoPanic.normal k) _
    · cases h
  · injection h with h;subst h;exact k
  · injection h with h;subst h;exact k
  · injection h with h;subst h;exact k
  · injection h with h;subst h;exact k
  · split at h
    · rename_i he
      injection h with h;subst h
      have he:=Nat.eq_of_beq_eq_true he;subst he;show Exit.inBlock _ _ (.exit _) a w;simp only [Exit.inBlock,if_true];exact k
    · rename_i he
      injection h with h;subst h
      show Exit.inBlock _ _ (.exit _) a w;simp only [Exit.inBlock];rw [if_neg (fun e=>he (by rw [e];exact Nat.beq_refl _))];exact k
  · rename_i x r
    injection h with h;subst h
    cases x <;> exact k
  · cases h
theorem ctl_ok {a:Act} {w:World} (F:FrL n L a):∀ (m:Nat) (c:Cfg),(ctl L m c).goal P Q a w→c.goal P Q a w
  | 0,_,k=>k
  | m+1,c,k=>by
    unfold ctl at k;split at k
    · exact k
    · rename_i c' h
      exact ctl1_ok h F (ctl_ok F m c' k)
end
inductive En where
  | c
  | l (k off:Nat)
  | b (k off:Nat)
  | f (j:Nat)
  | i (j:Nat)
  | r (j:Nat)
  | s (k off:Nat)
  | n
  | x
  | k (j:Nat)
  | g (ks:List (Nat × Nat × Nat)) (z:Nat) (o:Bool)
  | d (hs:List (Nat × En))
def eC:Nat→List En→List En
  | 0,l=>l
  | n+1,l=>.c::eC n l
def eN:Nat→List En→List (Nat × En)
  | _,[]=>[]
  | i,h::r=>(i,h)::eN (i+1) r
structure Cs where
  f:FuncId
  args:Array Value
  v:Value
  ks:List Nat
  bx:List Bx
inductive Cm where
  | v (x:Value)
  | n (x:Nat)
  | a (x:Array Value)
  | b (x:List (Option Bx))
  | o (x:Rd)
  | p (x:List (Option Ob))
  | t (x:Sem Next)
def Cs.ok (P:Program) (wb w0:World) (G:Nat→Prop) (I:Chk) (c:Cs):Prop:=∀ B w,Kp wb w0 G B I w→c.ks.map (B[·]?)=c.bx.map some→Calls P c.f c.args w fun e w'=>e=.returned c.v∧Below w.heap.size w w'
def AllCs (P:Program) (wb w0:World) (G:Nat→Prop) (I:Chk):List Cs→Prop
  | []=>True
  | c::r=>c.ok P wb w0 G I∧AllCs P wb w0 G I r
theorem AllCs.get {P:Program} {wb w0:World} {G:Nat→Prop} {I:Chk}:∀ {l:List Cs} {j:Nat} {c:Cs},AllCs P wb w0 G I l→l[j]? = some c→c.ok P wb w0 G I
  | [],_,_,_,h=>by simp at h
  | y::r,0,x,h,e=>by
    simp only [List.getElem?_cons_zero,Option.some.injEq] at e;subst e;exact h.1
  | y::r,j+1,x,h,e=>AllCs.get h.2 (by simpa using e)
structure Ev (P:Program) (wb w0:World) (G:Nat→Prop) (I:Chk) where
  obs:Rd
  fs:List (Value × Value)
  ix:List Ix
  cs:List Cs
  hM:∀ B w,Kp wb w0 G B I w→RdOk P w obs
  hF:AllEq fs
  hI:AllIx ix
  hC:AllCs P wb w0 G I cs
def E0 {P:Program} {wb w0:World} {G:Nat→Prop} {I:Chk}:Ev P wb w0 G I:=⟨r0,[],[],[],fun _ _ _=>rd0,trivial,trivial,trivial⟩
def EF {P:Program} {wb w0:World} {G:Nat→Prop} {I:Chk} (fs:List (Value × Value)) (h:AllEq fs):Ev P wb w0 G I:=⟨r0,fs,[],[],fun _ _ _=>rd0,h,trivial,trivial⟩
def EK {P:Program} {wb w0:World} {G:Nat→Prop} {I:Chk} (fs:List (Value × Value)) (h:AllEq fs) (cs:List Cs) (hc:AllCs P wb w0 G I cs):Ev P wb w0 G I:=⟨r0,fs,[],cs,fun _ _ _=>rd0,h,trivial,hc⟩
def EO {P:Program} {wb w0:World} {G:Nat→Prop} {I:Chk} (obs:List Ob) (hM:∀ B w,Kp wb w0 G B I w→MemOk w obs) (fs:List (Value × Value)) (h:AllEq fs):Ev P wb w0 G I:=⟨⟨obs,[]⟩,fs,[],[],fun B w h=>⟨hM B w h,trivial⟩,h,trivial,trivial⟩
def pureE (P:Program) (obs:Rd) (fs:List (Value × Value)) (ix:List Ix) (L:List (Nat × Value)) (B:List Bx) (o:Oper):En→Option (Value × List (Cm × Cm))
  | .c=>if noSel o.op && o.op.operands.toList.all (inDom L) then
      match alone P (execOp (known L) o) with
      | some (.value v)=>some (v,[])
      | _=>none
    else none
  | .l k off=>match o.op with
    | .load ty (.tmp t)=>match L.lookup t,obs.ob[k]? with
      | some p,some ob=>match ldv P ty ob off with
        | some v=>some (v,[(.v p,.v (.pointer (some ⟨ob.blk,ob.base+off,none⟩)))])
        | none=>none
      | _,_=>none
    | _=>none
  | .b k off=>match o.op with
    | .load ty (.tmp t)=>match L.lookup t,B[k]? with
      | some p,some x=>match ldv P ty ⟨x.blk,0,x.cells⟩ off with
        | some v=>some (v,[(.v p,.v (.pointer (some ⟨x.blk,off,none⟩)))])
        | none=>none
      | _,_=>none
    | _=>none
  | .f j=>match fs[j]? with
    | some x=>if noSel o.op && o.op.operands.toList.all (inDom L) then
        match alone P (execOp (known L) o) with
        | some (.value v)=>some (x.2,[(.v v,.v x.1)])
        | _=>none
      else none
    | none=>none
  | .i j=>match ix[j]? with
    | some x=>match o.op with
      | .indexAddr t (.tmp u) y=>match L.lookup u,inDom L y,P.underlying t with
        | some p,true,some (.slice e)=>match P.info? e with
          | some q=>if Nat.beq q.size x.m then some (.pointer (some x.res),[(.v p,.v (.slice x.a x.len x.cap)),(.v (known L y),.v (.int x.k x.i))]) else none
          | none=>none
        | _,_,_=>none
      | _=>none
    | none=>none
  | .r j=>match obs.rd[j]? with
    | some x=>if noSel o.op && o.op.operands.toList.all (inDom L) then some (x.2,[(.t (execOp (known L) o),.t x.1)]) else none
    | none=>none
  | _=>none
theorem zero_off (b off:Nat):(⟨b,0+off,none⟩:Addr)=⟨b,off,none⟩:=by rw [Nat.zero_add]
theorem pureE_ok {P:Program} {n:Nat} {L:List (Nat × Value)} {B:List Bx} {obs:Rd} {fs:List (Value × Value)} {ix:List Ix} (hF:AllEq fs) (hI:AllIx ix) {o:Oper} {h:En} {v:Value} {C:List (Cm × Cm)} (he:pureE P obs fs ix L B o h=some (v,C)) (hC:C.map (·.1)=C.map (·.2))
    {w:World} (hM:RdOk P w obs) (hB:∀ k off,h=.b k off→∀ x,B[k]? = some x→BoxAt w x.blk x.cells.toArray x.ty) {a':Act} (F':FrL n L a'):(execOp a'.eval o).run P w=.ok (.value v) w:=by
  cases h with
  | c =>
    simp only [pureE] at he;split at he
    · rename_i hc
      split at he
      · rename_i v' hv
        injection he with he
        injection he with h1 h2
        subst h1;rw [Bool.and_eq_true] at hc;rw [execOp_congr o (fun cs b e=>by have h3:=hc.1;rw [e] at h3;cases h3) (fun x hx=>known_ev F' (List.all_eq_true.1 hc.2 x (by simpa using hx)))];exact alone_run _ _ hv w
      · cases he
    · cases he
  | l k off =>
    simp only [pureE] at he;split at he
    · rename_i ty t hop
      split at he
      · rename_i p ob hp hob
        split at he
        · rename_i v' hv
          injection he with he
          injection he with h1 h2
          subst h1 h2;simp only [List.map_cons,List.map_nil,List.cons.injEq,Cm.v.injEq,and_true] at hC;subst hC;unfold execOp;have hx:a'.eval (.tmp t)=.pointer (some ⟨ob.blk,ob.base+off,none⟩):=F'.ev t hp;simp only [hop,hx,ldv_run (hM.1.get hob) hv,Sem.run_bind,Sem.run_pure,Result.andThen_ok]
        · cases he
      · cases he
    · cases he
  | b k off =>
    simp only [pureE] at he;split at he
    · rename_i ty t hop
      split at he
      · rename_i p x hp hx0
        split at he
        · rename_i v' hv
          injection he with he
          injection he with h1 h2
          subst h1 h2;simp only [List.map_cons,List.map_nil,List.cons.injEq,Cm.v.injEq,and_true] at hC;subst hC;unfold execOp;have hx:a'.eval (.tmp t)=.pointer (some ⟨x.blk,off,none⟩):=F'.ev t hp;have hr:w.rangeAt x.blk 0 x.cells:=by have:=(hB k off rfl x hx0).range;simpa using this
          have hl:=ldv_run (P:=P) (ob:=⟨x.blk,0,x.cells⟩) hr hv;rw [zero_off] at hl;simp only [hop,hx,hl,Sem.run_bind,Sem.run_pure,Result.andThen_ok]
        · cases he
      · cases he
    · cases he
  | f j =>
    simp only [pureE] at he;split at he
    · rename_i x hx
      split at he
      · rename_i hc
        split at he
        · rename_i v' hv
          injection he with he
          injection he with h1 h2
          subst h1 h2;simp only [List.map_cons,List.map_nil,List.cons.injEq,Cm.v.injEq,and_true] at hC;subst hC;rw [Bool.and_eq_true] at hc;rw [execOp_congr o (fun cs b e=>by have h3:=hc.1;rw [e] at h3;cases h3) (fun x hx=>known_ev F' (List.all_eq_true.1 hc.2 x (by simpa using hx))),← hF.get hx];exact alone_run _ _ hv w
        · cases he
      · cases he
    · cases he
  | i j =>
    simp only [pureE] at he;split at he
    · rename_i x hx
      split at he
      · rename_i t u y hop
        split at he
        · rename_i p e hp hy hu
          split at he
          · rename_i q hq
            split at he
            · rename_i hsz
              injection he with he
              injection he with h1 h2
              subst h1 h2;simp only [List.map_cons,List.map_nil,List.cons.injEq,Cm.v.injEq,and_true] at hC;obtain ⟨hA1,hA2⟩:=hC;subst hA1;unfold execOp;have hx1:a'.eval (.tmp u)=.slice x.a x.len x.cap:=F'.ev u hp;have hx2:a'.eval y=.int x.k x.i:=by rw [known_ev F' hy,hA2]
              simp only [hop,hx1,hx2,idx_run (hI.get hx) hu hq (Nat.eq_of_beq_eq_true hsz),Sem.run_bind,Sem.run_pure,Result.andThen_ok]
            · cases he
          · cases he
        · cases he
      · cases he
    · cases he
  | r j =>
    simp only [pureE] at he;split at he
    · rename_i x hx
      split at he
      · rename_i hc
        injection he with he
        injection he with h1 h2
        subst h1 h2;simp only [List.map_cons,List.map_nil,List.cons.injEq,Cm.t.injEq,and_true] at hC;rw [Bool.and_eq_true] at hc;rw [execOp_congr o (fun cs b e=>by have h3:=hc.1;rw [e] at h3;cases h3) (fun x hx=>known_ev F' (List.all_eq_true.1 hc.2 x (by simpa using hx))),hC];exact hM.2.get hx
      · cases he
    · cases he
  | _=>cases he
def workE (P:Program) (cs:List Cs) (L:List (Nat × Value)) (B:List Bx) (X:Nat) (o:Oper):En→Option (Value × List Bx × List (Cm × Cm))
  | .s k off=>match o.op,o.dst with
    | .store ty x y,none=>match B[k]?,P.info? ty with
      | some b,some i=>if inDom L x && inDom L y && Nat.beq i.size (known L y).cells.size && Nat.ble (off+(known L y).cells.size) b.cells.length && (known L y).cells.all (·.oneCell') then
          some (undef,B.set k ⟨b.blk,putV b.cells off (known L y).cells.toList,b.ty⟩,[(.v (known L x),.v (.pointer (some ⟨b.blk,off,none⟩)))])
        else none
      | _,_=>none
    | _,_=>none
  | .n=>match o.op with
    | .alloc ty=>match P.info? ty with
      | some i=>match i.zero with
        | some z=>some (.pointer (some ⟨X,0,none⟩),B++[⟨X,z.cells.toList,ty⟩],[])
        | none=>none
      | none=>none
    | _=>none
  | .x=>match o.op with
    | .box ty y=>if inDom L y then some (.pointer (some ⟨X,0,none⟩),B++[⟨X,(known L y).cells.toList,ty⟩],[]) else none
    | _=>none
  | .k j=>match cs[j]? with
    | some c=>if noSel o.op && o.op.operands.toList.all (inDom L) then
        match alone P (execOp (known L) o) with
        | some (.enter f args)=>some (c.v,B,[(.n f,.n c.f),(.a args,.a c.args),(.b (c.ks.map (B[·]?)),.b (c.bx.map some))])
        | _=>none
      else none
    | none=>none
  | _=>none
def En.news:En→Bool
  | .n=>true
  | .x=>true
  | _=>false
section
variable {P:Program} {n:Nat} {wb w0:World} {G:Nat→Prop} {I:Chk}
theorem workE_ok {cs:List Cs} (hcs:AllCs P wb w0 G I cs) {L:List (Nat × Value)} {B:List Bx} {o:Oper} {h:En} {a:Act} (F:FrL n L a) {w:World} (HK:Kp wb w0 G B I w) {X:Nat} (hX:h.news=true→X=w.heap.size) {v:Value} {B':List Bx} {C:List (Cm × Cm)}
    (he:workE P cs L B X o h=some (v,B',C)) (hC:C.map (·.1)=C.map (·.2)) {K:Act→World→Prop} {Q:Exit→Act→World→Prop} (k:∀ w',Kp wb w0 G B' I w'→K (a.put o.dst v) w'):o.wp P a w K Q:=by
  cases h with
  | s m off =>
    simp only [workE] at he;split at he
    · rename_i ty x y hop hd
      split at he
      · rename_i b i hb hi
        split at he
        · rename_i hc
          injection he with he
          injection he with h1 he
          injection he with h2 h3
          subst h1 h2 h3;simp only [Bool.and_eq_true] at hc;obtain ⟨⟨⟨⟨hx,hy⟩,hsz⟩,hfit⟩,hone⟩:=hc;simp only [List.map_cons,List.map_nil,List.cons.injEq,Cm.v.injEq,and_true] at hC;have hx1:a.eval x=.pointer (some ⟨b.blk,off,none⟩):=(known_ev F hx).trans hC;have hy1:a.eval y=known L y:=known_ev F hy;have hbx:=HK.hp.at m hb;have hfit':off+(known L y).cells.size≤b.cells.toArray.size:=by simpa using Nat.le_of_ble_eq_true hfit
          have hz:(P.info? ty).map (·.size)=some (known L y).cells.size:=by rw [hi];exact congrArg some (Nat.eq_of_beq_eq_true hsz)
          have hall:∀ (vs:List Value) (j:Nat) (old:Array Value) (w:World),BoxAt w b.blk old b.ty→BoxAt (w.setCells b.blk j vs) b.blk (setMany old j vs) b.ty:=by
            intro vs;induction vs with
            | nil=>intro j old w h;exact h
            | cons u r ih=>intro j old w h;exact ih (j+1) _ _ (h.set j u)
          unfold Oper.wp execOp;simp only [hop,hx1,hy1,Instr.storeAt,Instr.sureAddr,Sem.run_bind,Sem.run_pure,Result.andThen_ok,run_put w b.blk off ty (known L y) (box_there hbx off _ hfit') hz hone];refine k _ (HK.put hb (only_setCells _ _ _ _ (Only.refl _ _)) ?_);rw [← setMany_putV];exact hall _ _ _ _ hbx
        · cases he
      · cases he
    · cases he
  | n =>
    simp only [workE] at he;split at he
    · rename_i ty hop
      split at he
      · rename_i i hi
        split at he
        · rename_i z hz
          injection he with he
          injection he with h1 he
          injection he with h2 h3
          subst h1 h2 h3;have hX:=hX rfl;subst hX;unfold Oper.wp;have hr:(execOp a.eval o).run P w=.ok (.value (.pointer (some ⟨w.heap.size,0,none⟩))) (w.alloc (.cells z.cells ty)):=by
            unfold execOp;simp [hop,Instr.alloc,zeroValue,typeInfo,hi,hz,newVar,newRow]
          rw [hr];exact k _ (HK.alloc _ _)
        · cases he
      · cases he
    · cases he
  | x =>
    simp only [workE] at he;split at he
    · rename_i ty y hop
      split at he
      · rename_i hy
        injection he with he
        injection he with h1 he
        injection he with h2 h3
        subst h1 h2 h3;have hX:=hX rfl;subst hX;unfold Oper.wp execOp;simp only [hop,Sem.run_bind,Instr.box,newVar,newRow,run_newObj_alloc,Sem.run_pure,Result.andThen_ok,known_ev F hy];exact k _ (HK.alloc _ _)
      · cases he
    · cases he
  | k j =>
    simp only [workE] at he;split at he
    · rename_i c hc
      split at he
      · rename_i hd
        split at he
        · rename_i f args hv
          injection he with he
          injection he with h1 he
          injection he with h2 h3
          subst h1 h2 h3;simp only [List.map_cons,List.map_nil,List.cons.injEq,Cm.n.injEq,Cm.a.injEq,Cm.b.injEq,and_true] at hC;obtain ⟨e1,e2,e3⟩:=hC;subst e1 e2;rw [Bool.and_eq_true] at hd;unfold Oper.wp;rw [execOp_congr o (fun cs b e=>by have h3:=hd.1;rw [e] at h3;cases h3) (fun x hx=>known_ev F (List.all_eq_true.1 hd.2 x (by simpa using hx))),alone_run _ _ hv w];refine Calls.mono (hcs.get hc B w HK e3) ?_;rintro e w' ⟨rfl,hb⟩;exact k w' (HK.below hb)
        · cases he
      · cases he
    · cases he
  | _=>cases he
end
def putF (n:Nat) (L:List (Nat × Value)) (d:Option Nat) (v:Value):Option (List (Nat × Value)):=match d with
  | none=>some L
  | some s=>if Nat.blt s n then some ((s,v)::L) else none
theorem putF_ok {n:Nat} {L L':List (Nat × Value)} {d:Option Nat} {v:Value} (h:putF n L d v=some L') {a:Act} (F:FrL n L a):FrL n L' (a.put d v):=by
  unfold putF at h;split at h
  · injection h with h;subst h;exact F
  · split at h
    · rename_i hs
      injection h with h;subst h;exact F.put _ v (Nat.le_of_ble_eq_true hs)
    · cases h
def stpE (P:Program) (n:Nat) (ops:Array Oper) (obs:Rd) (fs:List (Value × Value)) (ix:List Ix) (cs:List Cs) (L:List (Nat × Value)) (B:List Bx) (X:Nat) (o:Oper) (h:En):Option (List (Nat × Value) × List Bx × List (Cm × Cm)) :=
  match wantsT ops L o with
  | some false=>match h with
    | .c=>match putF n L o.dst undef with
      | some L'=>some (L',B,[])
      | none=>none
    | _=>none
  | some true=>match pureE P obs fs ix L B o h with
    | some (v,C)=>match o.dst with
      | some s=>if Nat.blt s n then some ((s,v)::L,B,C) else none
      | none=>none
    | none=>match workE P cs L B X o h with
      | some (v,B',C)=>match putF n L o.dst v with
        | some L'=>some (L',B',C)
        | none=>none
      | none=>none
  | none=>none
section
variable {P:Program} {n:Nat} {wb w0:World} {G:Nat→Prop} {I:Chk}
theorem stpE_ok (E:Ev P wb w0 G I) {ops:Array Oper} {rest:List Oper} {Q:Exit→Act→World→Prop} {L L':List (Nat × Value)} {B B':List Bx} {o:Oper} {h:En} {a:Act} (F:FrL n L a) {w:World} (HK:Kp wb w0 G B I w) {X:Nat} (hX:h.news=true→X=w.heap.size) {C:List (Cm × Cm)}
    (he:stpE P n ops E.obs E.fs E.ix E.cs L B X o h=some (L',B',C)) (hC:C.map (·.1)=C.map (·.2)) (k:∀ a' w',FrL n L' a'→Kp wb w0 G B' I w'→wpList P ops Q rest a' w'):wpList P ops Q (o::rest) a w:=by
  unfold stpE at he;split at he
  · rename_i hw
    split at he
    · split at he
      · rename_i L2 hp
        injection he with he
        injection he with h1 he
        injection he with h2 h3
        subst h1 h2 h3;exact wpList_left (wantsT_spec F hw) (k _ _ (putF_ok hp F) HK)
      · cases he
    · cases he
  · rename_i hw
    split at he
    · rename_i v C2 hp
      split at he
      · rename_i s hd
        split at he
        · rename_i hs
          injection he with he
          injection he with h1 he
          injection he with h2 h3
          subst h1 h2 h3;exact fr_do F (wantsT_spec F hw) s hd (Nat.le_of_ble_eq_true hs) v (fun a' F'=>pureE_ok E.hF E.hI hp hC (E.hM B w HK) (fun j off _ x hx=>HK.hp.at j hx) F') (fun a' F'=>k a' w F' HK)
        · cases he
      · cases he
    · split at he
      · rename_i v B2 C2 hp
        split at he
        · rename_i L2 hL
          injection he with he
          injection he with h1 he
          injection he with h2 h3
          subst h1 h2 h3;refine wpList_step fun K hK=>?_
          rw [if_pos (wantsT_spec F hw)];exact workE_ok E.hC F HK hX hp hC (fun w' HK'=>hK _ _ (k _ _ (putF_ok hL F) HK'))
        · cases he
      · cases he
  · cases he
end
def chD (P:Program) (n:Nat) (ops:Array Oper) (ob:Rd) (fs:List (Value × Value)) (ix:List Ix) (z:Nat):List (Nat × En)→Nat→Array Bool→List (Nat × Value)→Option (Nat × Array Bool × List (Nat × Value) × List (Cm × Cm))
  | [],m,listed,L=>some (m,listed,L,[])
  | _::_,0,_,_=>none
  | (i,h)::r,m+1,listed,L=>match ops[i]? with
    | none=>none
    | some o=>match o.dst with
      | none=>none
      | some s=>if Nat.blt s n && Region.free .any ops listed i && (Region.ready .any ops listed).contains i && waitsC ops z i then
          match wantsT ops L o with
          | none=>none
          | some false=>match h with
            | .c=>chD P n ops ob fs ix z r m (listed.setIfInBounds i true) ((s,undef)::L)
            | _=>none
          | some true=>match pureE P ob fs ix L [] o h with
            | some (v,C)=>match chD P n ops ob fs ix z r m (listed.setIfInBounds i true) ((s,v)::L) with
              | some (m2,l2,L2,C2)=>some (m2,l2,L2,C++C2)
              | none=>none
            | none=>none
        else none
theorem map_app {C D:List (Cm × Cm)} (h:(C++D).map (·.1)=(C++D).map (·.2)):C.map (·.1)=C.map (·.2)∧D.map (·.1)=D.map (·.2):=by
  rw [List.map_append,List.map_append] at h;exact List.append_inj h (by simp)
section
variable {P:Program} {n:Nat} {wb w0:World} {G:Nat→Prop} {I:Chk}
theorem memOk_of {w:World}:∀ {bs:List Ob},(∀ x ∈ bs,w.rangeAt x.blk x.base x.cells)→MemOk w bs
  | [],_=>trivial
  | x::_,h=>⟨h x (List.mem_cons_self ..),memOk_of (fun y hy=>h y (List.mem_cons_of_mem _ hy))⟩
theorem memOk_app {w:World}:∀ {a b:List Ob},MemOk w a→MemOk w b→MemOk w (a++b)
  | [],_,_,h=>h
  | _::_,_,h,k=>⟨h.1,memOk_app h.2 k⟩
theorem sb_of {ks:List (Nat × Nat × Nat)} {B:List Bx} {bs:List Ob} (hk:ks.map (pickO B)=bs.map some) {w:World} (HK:Kp wb w0 G B I w) {ob:Rd} (hM:RdOk P w ob):SB P bs ob w:=by
  refine ⟨memOk_of fun x hx=>?_,hM⟩;have h1:some x ∈ bs.map some:=List.mem_map_of_mem hx;rw [← hk] at h1;obtain ⟨k,_,e⟩:=List.mem_map.1 h1;unfold pickO at e;split at e
  · rename_i y hy
    injection e with e
    subst e;have hr:w.rangeAt y.blk 0 y.cells:=by have:=(HK.hp.at k.1 hy).range;simpa using this
    intro j v hv;rw [List.getElem?_take] at hv;split at hv
    · rw [List.getElem?_drop] at hv
      have:=hr _ v hv;rw [Nat.zero_add] at this;exact this
    · cases hv
  · cases e
theorem chD_ok {fs:List (Value × Value)} {ix:List Ix} (hF:AllEq fs) (hI:AllIx ix) {ops:Array Oper} {Q:Exit→Act→World→Prop} (hns:Region.noSelect ops=true) {z:Nat} {bs:List Ob} {ob:Rd} {w:World} (hS:SB P bs ob w):∀ (hs:List (Nat × En)) (m:Nat) (listed:Array Bool) (L:List (Nat × Value)) (m':Nat) (listed':Array Bool) (L':List (Nat × Value)) (C:List (Cm × Cm)) (a:Act),
    closedA ops listed→FrL n L a→chD P n ops ⟨bs++ob.ob,ob.rd⟩ fs ix z hs m listed L=some (m',listed',L',C)→C.map (·.1)=C.map (·.2)→(∀ a',FrL n L' a'→closedA ops listed'→AnyT P .any ops (NoPanic Q) (SB P bs ob) z m' listed' a' w)→AnyT P .any ops (NoPanic Q) (SB P bs ob) z m listed a w
  | [],m,listed,L,m',listed',L',C,a,hcl,F,he,_,k=>by
    simp only [chD] at he;injection he with he
    injection he with h1 he
    injection he with h2 he
    injection he with h3 _
    subst h1 h2 h3;exact k a F hcl
  | _::_,0,_,_,_,_,_,_,_,_,_,he,_,_=>by simp only [chD] at he;cases he
  | (i,h)::r,m+1,listed,L,m',listed',L',C,a,hcl,F,he,hC,k=>by
    have hQ:∀ (o:Oper) (v:Value) c a w,NoPanic Q (.panic c) (a.put o.dst v) w→NoPanic Q (.panic c) a w:=fun _ _ _ _ _ h=>h
    simp only [chD] at he;split at he
    · cases he
    · rename_i o ho
      split at he
      · cases he
      · rename_i s hd
        split at he
        · rename_i hc
          simp only [Bool.and_eq_true] at hc;obtain ⟨⟨⟨hs,hf⟩,hr⟩,hz⟩:=hc;split at he
          · cases he
          · rename_i hw
            split at he
            · refine anyT_take hcl ho hns hf hr hz (hQ o undef) (Or.inr ⟨wantsT_spec F hw,rfl⟩) hS ?_
              rw [hd];exact chD_ok hF hI hns hS r m _ _ _ _ _ C _ (closed_set hcl (by simpa using hr)) (F.put s undef (Nat.le_of_ble_eq_true hs)) he hC k
            · cases he
          · rename_i hw
            split at he
            · rename_i v C1 hp
              split at he
              · rename_i m2 l2 L2 C2 hr2
                injection he with he
                injection he with h1 he
                injection he with h2 he
                injection he with h3 h4
                subst h1 h2 h3 h4;obtain ⟨hC1,hC2⟩:=map_app hC;refine anyT_take hcl ho hns hf hr hz (hQ o v) (Or.inl ⟨wantsT_spec F hw,?_⟩) hS ?_
                · rintro w' ⟨hb,hm⟩
                  exact pureE_ok hF hI hp hC1 ⟨memOk_app hb hm.1,hm.2⟩ (fun j off _ x hx=>by simp at hx) F
                · rw [hd]
                  exact chD_ok hF hI hns hS r m _ _ _ _ _ C2 _ (closed_set hcl (by simpa using hr)) (F.put s v (Nat.le_of_ble_eq_true hs)) hr2 hC2 k
              · cases he
            · cases he
        · cases he
def stpA (P:Program) (n:Nat) (ops:Array Oper) (listed:Array Bool) (ks:List (Nat × Nat × Nat)) (bs:List Ob) (ob obs:Rd) (z:Nat) (cs:List Cs) (L:List (Nat × Value)) (B:List Bx) (X:Nat) (h:En):Option (Nat × List (Nat × Value) × List Bx × List (Cm × Cm)) :=
  match Region.ready .any ops listed with
  | [i]=>match ops[i]? with
    | some o=>match wantsT ops L o with
      | some true=>match workE P cs L B X o h with
        | some (v,B',C)=>match putF n L o.dst v with
          | some L'=>some (i,L',B',if Nat.beq i z then C else ((.p (ks.map (pickO B')),.p (bs.map some))::(if ob.none then C else (.o ob,.o obs)::C)))
          | none=>none
        | none=>none
      | _=>none
    | none=>none
  | _=>none
theorem stpA_ok (E:Ev P wb w0 G I) {ops:Array Oper} {Q:Exit→Act→World→Prop} {listed:Array Bool} {ks:List (Nat × Nat × Nat)} {bs:List Ob} {ob:Rd} {z m:Nat} {L L':List (Nat × Value)} {B B':List Bx} {h:En} {a:Act} (F:FrL n L a) {w:World} (HK:Kp wb w0 G B I w) {X:Nat} (hX:h.news=true→X=w.heap.size) {i:Nat} {C:List (Cm × Cm)}
    (he:stpA P n ops listed ks bs ob E.obs z E.cs L B X h=some (i,L',B',C)) (hC:C.map (·.1)=C.map (·.2)) (hcl:closedA ops listed) (k:∀ a' w',FrL n L' a'→Kp wb w0 G B' I w'→closedA ops (listed.setIfInBounds i true)→AnyT P .any ops (NoPanic Q) (SB P bs ob) z m (listed.setIfInBounds i true) a' w'):AnyT P .any ops (NoPanic Q) (SB P bs ob) z (m+1) listed a w:=by
  unfold stpA at he;split at he
  · rename_i i0 hr
    split at he
    · rename_i o ho
      split at he
      · rename_i hw
        split at he
        · rename_i v B1 C1 hp
          split at he
          · rename_i L1 hL
            injection he with he
            injection he with h1 he
            injection he with h2 he
            injection he with h3 h4
            subst h1 h2 h3;have hS:C1.map (·.1)=C1.map (·.2)∧(∀ w',Kp wb w0 G B1 I w'→i0≠z→SB P bs ob w'):=by
              split at h4
              · rename_i hz
                subst h4;exact ⟨hC,fun _ _ h=>absurd (Nat.eq_of_beq_eq_true hz) h⟩
              · split at h4
                · rename_i hob
                  subst h4;simp only [List.map_cons,List.cons.injEq,Cm.p.injEq] at hC;refine ⟨hC.2,fun w' HK' _=>sb_of hC.1 HK' ?_⟩;rw [rd_none hob];exact rd0
                · subst h4
                  simp only [List.map_cons,List.cons.injEq,Cm.p.injEq,Cm.o.injEq] at hC;exact ⟨hC.2.2,fun w' HK' _=>sb_of hC.1 HK' (by rw [hC.2.1];exact E.hM _ w' HK')⟩
            refine AnyT.step hr ho (fun K hK=>?_);rw [if_pos (wantsT_spec F hw)];exact workE_ok E.hC F HK hX hp hS.1 (fun w' HK'=>hK.out _ _ (hS.2 w' HK') (fun _=>k _ _ (putF_ok hL F) HK' (closed_set hcl (by rw [hr];exact List.mem_singleton.2 rfl))))
          · cases he
        · cases he
      · cases he
    · cases he
  · cases he
end
structure Sg where
  cfg:Cfg
  L:List (Nat × Value)
  B:List Bx
def takeX {β:Type} (m:Nat) (Xs:List Nat) (k:Nat→Nat→List Nat→Option β):Option β:=match m,Xs with
  | m+1,X::Ys=>k m X Ys
  | _,_=>none
def exE (P:Program) (n:Nat) (obs:Rd) (fs:List (Value × Value)) (ix:List Ix) (cs:List Cs):List En→List Nat→Sg→Option (Sg × List (Cm × Cm))
  | [],_,s=>some (⟨ctl s.L 300 s.cfg,s.L,s.B⟩,[])
  | h::r,Xs,s=>match ctl s.L 300 s.cfg with
    | .run ops (o::os) st=>match (if h.news then Xs else 0::Xs) with
      | X::Ys=>match stpE P n ops obs fs ix cs s.L s.B X o h with
        | some (L,B,C)=>match exE P n obs fs ix cs r Ys ⟨.run ops os st,L,B⟩ with
          | some (s',C')=>some (s',C++C')
          | none=>none
        | none=>none
      | []=>none
    | .any ops listed m ks bs ob z st=>match h with
      | .d hs=>if Region.noSelect ops then
          match chD P n ops ⟨bs++ob.ob,ob.rd⟩ fs ix z hs m listed s.L with
          | some (m',listed',L,C)=>match exE P n obs fs ix cs r Xs ⟨.any ops listed' m' ks bs ob z st,L,s.B⟩ with
            | some (s',C')=>some (s',(.p (ks.map (pickO s.B)),.p (bs.map some))::((if ob.none then [] else [(.o ob,.o obs)])++(C++C')))
            | none=>none
          | none=>none
        else none
      | h=>takeX m (if h.news then Xs else 0::Xs) fun m X Ys=>match stpA P n ops listed ks bs ob obs z cs s.L s.B X h with
          | some (i,L,B,C)=>match exE P n obs fs ix cs r Ys ⟨.any ops (listed.setIfInBounds i true) m ks bs ob z st,L,B⟩ with
            | some (s',C')=>some (s',C++C')
            | none=>none
          | none=>none
    | .code (.region _ ops true) st=>match h with
      | .g ks z o=>match exE P n obs fs ix cs r Xs ⟨.any ops (Array.replicate ops.size false) ops.size ks (ks.filterMap (pickO s.B)) (if o then obs else r0) z st,s.L,s.B⟩ with
        | some (s',C')=>some (s',(.p (ks.map (pickO s.B)),.p ((ks.filterMap (pickO s.B)).map some))::C')
        | none=>none
      | _=>none
    | _=>none
def Ok (P:Program) (Q:Exit→Act→World→Prop) (n:Nat) (wb w0:World) (G:Nat→Prop) (I:Chk) (s:Sg):Prop:=∀ a w,FrL n s.L a→Kp wb w0 G s.B I w→s.cfg.goal P Q a w
def fin1 (e:Option (Sg × List (Cm × Cm))):Option (List Cm):=match e with
  | some (_,C)=>some (C.map (·.1))
  | none=>none
def fin2 (e:Option (Sg × List (Cm × Cm))):Option (List Cm):=match e with
  | some (_,C)=>some (C.map (·.2))
  | none=>some []
def nx (e:Option (Sg × List (Cm × Cm))):Sg:=match e with
  | some (s,_)=>s
  | none=>⟨.out .normal [],[],[]⟩
section
variable {P:Program} {Q:Exit→Act→World→Prop} {n:Nat} {wb w0:World} {G:Nat→Prop} {I:Chk}
theorem memIf {w:World} {B:List Bx} (E:Ev P wb w0 G I) (HK:Kp wb w0 G B I w) (o:Bool):RdOk P w (if o then E.obs else r0):=by
  cases o
  · exact rd0
  · exact E.hM B w HK
theorem exE_ok (hm:P.follows .mixedOrders=true) (E:Ev P wb w0 G I):∀ (hs:List En) (m:Nat) (s:Sg),(∀ Xs:List Nat,Xs.length=m→∃ s' C,exE P n E.obs E.fs E.ix E.cs hs Xs s=some (s',C)∧C.map (·.1)=C.map (·.2)∧Ok P Q n wb w0 G I s')→Ok P Q n wb w0 G I s
  | [],m,s,H=>by
    obtain ⟨s',C,h1,h2,h3⟩:=H (List.replicate m 0) (by simp);intro a w F HK;simp only [exE] at h1;injection h1 with h1
    injection h1 with h1 _
    subst h1;exact ctl_ok F 300 s.cfg (h3 a w F HK)
  | h::r,m,s,H=>by
    intro a w F HK;refine ctl_ok F 300 s.cfg ?_;cases hcfg:ctl s.L 300 s.cfg with
    | out e st=>obtain ⟨s',C,h1,_⟩:=H (List.replicate m 0) (by simp);simp only [exE,hcfg] at h1;cases h1
    | run ops os st =>
      cases os with
      | nil=>obtain ⟨s',C,h1,_⟩:=H (List.replicate m 0) (by simp);simp only [exE,hcfg] at h1;cases h1
      | cons o os =>
        have key:∀ (X:Nat) (m':Nat),(∀ Ys:List Nat,Ys.length=m'→∃ Xs:List Nat,Xs.length=m∧(if h.news then Xs else 0::Xs)=X::Ys)→(h.news=true→X=w.heap.size)→(Cfg.run ops (o::os) st).goal P Q a w:=by
          intro X m' hYs hX;have H':∀ Ys:List Nat,Ys.length=m'→∃ L B C s' C',stpE P n ops E.obs E.fs E.ix E.cs s.L s.B X o h=some (L,B,C)∧exE P n E.obs E.fs E.ix E.cs r Ys ⟨.run ops os st,L,B⟩=some (s',C')∧C.map (·.1)=C.map (·.2)∧C'.map (·.1)=C'.map (·.2)∧Ok P Q n wb w0 G I s':=by
            intro Ys hl;obtain ⟨Xs,hXs,e⟩:=hYs Ys hl;obtain ⟨s',C,h1,h2,h3⟩:=H Xs hXs;simp only [exE,hcfg,e] at h1;split at h1
            · rename_i L B C1 hst
              split at h1
              · rename_i s2 C2 hex
                injection h1 with h1
                injection h1 with h4 h5
                subst h4 h5;obtain ⟨hc1,hc2⟩:=map_app h2;exact ⟨L,B,C1,s2,C2,hst,hex,hc1,hc2,h3⟩
              · cases h1
            · cases h1
          obtain ⟨L,B,C,_,_,hst,_,hc,_,_⟩:=H' (List.replicate m' 0) (by simp);refine stpE_ok E F HK hX hst hc (fun a' w' F' HK'=>?_);refine exE_ok hm E r m' ⟨.run ops os st,L,B⟩ (fun Ys hl=>?_) a' w' F' HK';obtain ⟨L2,B2,C2,s',C',h1,h2,_,h3,h4⟩:=H' Ys hl;rw [hst] at h1;injection h1 with h1
          injection h1 with e1 h1
          injection h1 with e2 _
          subst e1 e2;exact ⟨s',C',h2,h3,h4⟩
        by_cases hn:h.news=true
        · cases m with
          | zero=>obtain ⟨s',C,h1,_⟩:=H [] rfl;simp only [exE,hcfg,hn,if_true] at h1;cases h1
          | succ m'=>exact key w.heap.size m' (fun Ys hl=>⟨w.heap.size::Ys,by simp [hl],by rw [if_pos hn]⟩) (fun _=>rfl)
        · exact key 0 m (fun Ys hl=>⟨Ys,hl,by rw [if_neg hn]⟩) (fun h=>absurd h hn)
    | any ops listed mm ks bs ob z st =>
      by_cases hd:∃ hs,h=.d hs
      · obtain ⟨hs,rfl⟩:=hd
        have H':∀ Xs:List Nat,Xs.length=m→∃ m' listed' L C s' C',Region.noSelect ops=true∧chD P n ops ⟨bs++ob.ob,ob.rd⟩ E.fs E.ix z hs mm listed s.L=some (m',listed',L,C)∧exE P n E.obs E.fs E.ix E.cs r Xs ⟨.any ops listed' m' ks bs ob z st,L,s.B⟩=some (s',C')∧ks.map (pickO s.B)=bs.map some∧(ob=r0∨ob=E.obs)∧C.map (·.1)=C.map (·.2)∧C'.map (·.1)=C'.map (·.2)∧Ok P Q n wb w0 G I s':=by
          intro Xs hl;obtain ⟨s',C,h1,h2,h3⟩:=H Xs hl;simp only [exE,hcfg] at h1;split at h1
          · rename_i hns
            split at h1
            · rename_i m' listed' L C1 hst
              split at h1
              · rename_i s2 C2 hex
                injection h1 with h1
                injection h1 with h4 h5
                subst h4 h5;simp only [List.map_cons,List.cons.injEq,Cm.p.injEq] at h2;obtain ⟨ha,hb⟩:=map_app h2.2;obtain ⟨hc1,hc2⟩:=map_app hb;refine ⟨m',listed',L,C1,s2,C2,hns,hst,hex,h2.1,?_,hc1,hc2,h3⟩;split at ha
                · rename_i hob
                  exact Or.inl (rd_none hob)
                · simp only [List.map_cons,List.map_nil,List.cons.injEq,Cm.o.injEq,and_true] at ha
                  exact Or.inr ha
              · cases h1
            · cases h1
          · cases h1
        obtain ⟨m',listed',L,C1,_,_,hns,hst,_,hk,hob,hc,_,_⟩:=H' (List.replicate m 0) (by simp);have hS:SB P bs ob w:=sb_of hk HK (by rcases hob with rfl | rfl;exact rd0;exact E.hM _ w HK);intro hcl;refine chD_ok E.hF E.hI hns hS hs mm listed s.L m' listed' L C1 a hcl F hst hc (fun a' F' hcl'=>?_);refine exE_ok hm E r m ⟨.any ops listed' m' ks bs ob z st,L,s.B⟩ (fun Xs hl=>?_) a' w F' HK hcl';obtain ⟨m2,l2,L2,C2,s',C',_,h1,h2,_,_,_,h3,h4⟩:=H' Xs hl;rw [hst] at h1;injection h1 with h1
        injection h1 with e1 h1
        injection h1 with e2 h1
        injection h1 with e3 _
        subst e1 e2 e3;exact ⟨s',C',h2,h3,h4⟩
      · have hh:∀ Xs,exE P n E.obs E.fs E.ix E.cs (h::r) Xs s=takeX mm (if h.news then Xs else 0::Xs) fun m X Ys=>match stpA P n ops listed ks bs ob E.obs z E.cs s.L s.B X h with
              | some (i,L,B,C)=>match exE P n E.obs E.fs E.ix E.cs r Ys ⟨.any ops (listed.setIfInBounds i true) m ks bs ob z st,L,B⟩ with
                | some (s',C')=>some (s',C++C')
                | none=>none
              | none=>none:=by
          intro Xs;cases h with
          | d hs=>exact absurd ⟨hs,rfl⟩ hd
          | _=>simp only [exE,hcfg]
        cases mm with
        | zero=>obtain ⟨s',C,h1,_⟩:=H (List.replicate m 0) (by simp);rw [hh] at h1;simp only [takeX] at h1;cases h1
        | succ mm =>
          have key:∀ (X:Nat) (m':Nat),(∀ Ys:List Nat,Ys.length=m'→∃ Xs:List Nat,Xs.length=m∧(if h.news then Xs else 0::Xs)=X::Ys)→(h.news=true→X=w.heap.size)→(Cfg.any ops listed (mm+1) ks bs ob z st).goal P Q a w:=by
            intro X m' hYs hX;have H':∀ Ys:List Nat,Ys.length=m'→∃ i L B C s' C',stpA P n ops listed ks bs ob E.obs z E.cs s.L s.B X h=some (i,L,B,C)∧exE P n E.obs E.fs E.ix E.cs r Ys ⟨.any ops (listed.setIfInBounds i true) mm ks bs ob z st,L,B⟩=some (s',C')∧C.map (·.1)=C.map (·.2)∧C'.map (·.1)=C'.map (·.2)∧Ok P Q n wb w0 G I s':=by
              intro Ys hl;obtain ⟨Xs,hXs,e⟩:=hYs Ys hl;obtain ⟨s',C,h1,h2,h3⟩:=H Xs hXs;rw [hh,e] at h1;simp only [takeX] at h1;split at h1
              · rename_i i L B C1 hst
                split at h1
                · rename_i s2 C2 hex
                  injection h1 with h1
                  injection h1 with h4 h5
                  subst h4 h5;obtain ⟨hc1,hc2⟩:=map_app h2;exact ⟨i,L,B,C1,s2,C2,hst,hex,hc1,hc2,h3⟩
                · cases h1
              · cases h1
            obtain ⟨i,L,B,C,_,_,hst,_,hc,_,_⟩:=H' (List.replicate m' 0) (by simp);intro hcl;refine stpA_ok E F HK hX hst hc hcl (fun a' w' F' HK' hcl'=>?_);refine exE_ok hm E r m' ⟨.any ops (listed.setIfInBounds i true) mm ks bs ob z st,L,B⟩ (fun Ys hl=>?_) a' w' F' HK' hcl';obtain ⟨i2,L2,B2,C2,s',C',h1,h2,_,h3,h4⟩:=H' Ys hl;rw [hst] at h1;injection h1 with h1
            injection h1 with E0 h1
            injection h1 with e1 h1
            injection h1 with e2 _
            subst E0 e1 e2;exact ⟨s',C',h2,h3,h4⟩
          by_cases hn:h.news=true
          · cases m with
            | zero=>obtain ⟨s',C,h1,_⟩:=H [] rfl;rw [hh] at h1;simp only [hn,if_true,takeX] at h1;cases h1
            | succ m'=>exact key w.heap.size m' (fun Ys hl=>⟨w.heap.size::Ys,by simp [hl],by rw [if_pos hn]⟩) (fun _=>rfl)
          · exact key 0 m (fun Ys hl=>⟨Ys,hl,by rw [if_neg hn]⟩) (fun h=>absurd h hn)
    | code c st =>
      obtain ⟨s',C,h1,h2,h3⟩:=H (List.replicate m 0) (by simp);cases c with
      | region id ops b =>
        cases b with
        | false=>simp only [exE,hcfg] at h1;cases h1
        | true =>
          cases h with
          | g ks z o =>
            have H':∀ Xs:List Nat,Xs.length=m→∃ s' C',exE P n E.obs E.fs E.ix E.cs r Xs ⟨.any ops (Array.replicate ops.size false) ops.size ks (ks.filterMap (pickO s.B)) (if o then E.obs else r0) z st,s.L,s.B⟩=some (s',C')∧ks.map (pickO s.B)=(ks.filterMap (pickO s.B)).map some∧C'.map (·.1)=C'.map (·.2)∧Ok P Q n wb w0 G I s':=by
              intro Xs hl;obtain ⟨s',C,h1,h2,h3⟩:=H Xs hl;simp only [exE,hcfg] at h1;split at h1
              · rename_i s2 C2 hex
                injection h1 with h1
                injection h1 with h4 h5
                subst h4 h5;simp only [List.map_cons,List.cons.injEq,Cm.p.injEq] at h2;exact ⟨s2,C2,hex,h2.1,h2.2,h3⟩
              · cases h1
            obtain ⟨_,_,_,hk,_,_⟩:=H' (List.replicate m 0) (by simp);have HK1:=HK.drew;refine wp_region_noPanic (AnyT.begin (S:=SB P (ks.filterMap (pickO s.B)) (if o then E.obs else r0)) (z:=z) hm (sb_of hk HK1 (memIf E HK1 o)) (fun _=>?_));exact exE_ok hm E r m ⟨.any ops (Array.replicate ops.size false) ops.size ks (ks.filterMap (pickO s.B)) (if o then E.obs else r0) z st,s.L,s.B⟩ (fun Xs hl=>by obtain ⟨s',C',h1,_,h2,h3⟩:=H' Xs hl;exact ⟨s',C',h1,h2,h3⟩) a w.drew F HK1 (closed0 _)
          | _=>simp only [exE,hcfg] at h1;cases h1
      | _=>simp only [exE,hcfg] at h1;cases h1
theorem fin_ok {e:Option (Sg × List (Cm × Cm))} (h:fin1 e=fin2 e):∃ C,e=some (nx e,C)∧C.map (·.1)=C.map (·.2):=by
  unfold fin1 fin2 at h;split at h
  · rename_i s C
    injection h with h
    exact ⟨C,rfl,h⟩
  · cases h
theorem en (E:Ev P wb w0 G I) (hs:List En) {s:Sg} (k:Ok P Q n wb w0 G I (nx (exE P n E.obs E.fs E.ix E.cs hs [] s))) (h:fin1 (exE P n E.obs E.fs E.ix E.cs hs [] s)=fin2 (exE P n E.obs E.fs E.ix E.cs hs [] s):=by kernel_rfl) (hm:P.follows .mixedOrders=true:=by kernel_rfl):Ok P Q n wb w0 G I s :=
  exE_ok hm E hs 0 s (fun Xs hl=>by
    rw [List.eq_nil_of_length_eq_zero hl];obtain ⟨C,h1,h2⟩:=fin_ok h;exact ⟨_,C,h1,h2,k⟩)
theorem en1 (E:Ev P wb w0 G I) (hs:List En) {s:Sg} (k:∀ X,Ok P Q n wb w0 G I (nx (exE P n E.obs E.fs E.ix E.cs hs [X] s))) (h:∀ X,fin1 (exE P n E.obs E.fs E.ix E.cs hs [X] s)=fin2 (exE P n E.obs E.fs E.ix E.cs hs [X] s):=by intro X;kernel_rfl) (hm:P.follows .mixedOrders=true:=by kernel_rfl):Ok P Q n wb w0 G I s :=
  exE_ok hm E hs 1 s (fun Xs hl=>by
    match Xs,hl with
    | [X],_ =>
      obtain ⟨C,h1,h2⟩:=fin_ok (h X);exact ⟨_,C,h1,h2,k X⟩)
theorem en2 (E:Ev P wb w0 G I) (hs:List En) {s:Sg} (k:∀ X Y,Ok P Q n wb w0 G I (nx (exE P n E.obs E.fs E.ix E.cs hs [X,Y] s))) (h:∀ X Y,fin1 (exE P n E.obs E.fs E.ix E.cs hs [X,Y] s)=fin2 (exE P n E.obs E.fs E.ix E.cs hs [X,Y] s):=by intro X Y;kernel_rfl) (hm:P.follows .mixedOrders=true:=by kernel_rfl):Ok P Q n wb w0 G I s :=
  exE_ok hm E hs 2 s (fun Xs hl=>by
    match Xs,hl with
    | [X,Y],_ =>
      obtain ⟨C,h1,h2⟩:=fin_ok (h X Y);exact ⟨_,C,h1,h2,k X Y⟩)
end
end Go.Proofs.YtehpihmgjbmoaaaGreatDoor
