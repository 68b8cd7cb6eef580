import Derived.Test.YtehpihmgjbmoaaaGreatDoorJoinH
import Derived.Test.YtehpihmgjbmoaaaGreatDoorJoinC
namespace Go.Proofs.YtehpihmgjbmoaaaGreatDoor
open Go.RowKit
structure Ms where
  topic:ByteArray
  payload:ByteArray
  qos:Nat
  ret:Bool
deriving DecidableEq
def Ms.zero:Ms:=⟨e0,e0,0,false⟩
structure Nt where
  kind:Nat
  op:Int
  conn:Int
  client:ByteArray
  p:Pk
  msg:Ms
  codes:ByteArray
  present:Bool
  qos:Nat
deriving DecidableEq
def Nt.zero:Nt:=⟨0,0,0,e0,Pk.zero,Ms.zero,e0,false,0⟩
def ntV (n:Nt) (a:Option Addr) (c:Nat):Array Value :=
  #[.int .u8 (n.kind:Int),.int .i64 n.op,.int .i64 n.conn,.string n.client,.int .u8 (n.p.ty:Int),.bool n.p.dup,.int .u8 (n.p.qos:Int),.bool n.p.ret,.int .u16 (n.p.id:Int),.string n.p.topic,.string n.p.payload,.int .u8 (n.p.level:Int),.bool n.p.clean,.int .u16 (n.p.keep:Int),.string n.p.client,.bool n.p.hasWill,.string n.p.wtopic,.string n.p.wpayload,.int .u8 (n.p.wqos:Int),.bool n.p.wret,.bool n.p.hasUser,.bool n.p.hasPass,.string n.p.user,.string n.p.pass,.bool n.p.present,.int .u8 (n.p.code:Int),.slice a n.p.subs.length c,.string n.p.codes,
    .string n.msg.topic,.string n.msg.payload,.int .u8 (n.msg.qos:Int),.bool n.msg.ret,.string n.codes,.bool n.present,.int .u8 (n.qos:Int)]
end Go.Proofs.YtehpihmgjbmoaaaGreatDoor
namespace Go.Proofs.YtehpihmgjbmoaaaGreatDoor
open Go.RowKit
structure KeyF (P:Program) (kt:TypeId) {α:Type} [DecidableEq α] (f:α→Value) (d:TypeDesc):Prop where
  und:P.underlying kt=some d
  same:∀ a b,Instr.sameNow d (f a) (f b)=some (decide (a=b))
  flat:(match d with | .interface _ | .array _ _ | .struct _=>false | _=>true)=true
  bits:∀ a,Instr.sameBits 10000 (f a) (f a)=true
section
variable {P:Program} {α:Type} {f:α→Value} {kt:TypeId} {d:TypeDesc}
def kvE (e:MapEntry):Value × Value:=(e.key,e.val)
def fkE (f:α→Value) (x:α × Value):Value × Value:=(f x.1,x.2)
def MapAt (w:World) (b:Nat) (f:α→Value) (es:List (α × Value)):Prop:=∃ (arr:Array MapEntry) (c:Nat),w.heap[b]? = some (.map arr c)∧arr.toList.map kvE=es.map (fkE f)
theorem MapAt.lt {w:World} {b:Nat} {es:List (α × Value)} (h:MapAt w b f es):b < w.heap.size:=by
  obtain ⟨arr,c,h1,_⟩:=h;exact (Array.getElem?_eq_some_iff.1 h1).1
theorem MapAt.only {F:Nat→Prop} {w w':World} {b:Nat} {es:List (α × Value)} (h:MapAt w b f es) (k:Only F w w') (hF:¬ F b):MapAt w' b f es:=by
  have hlt:=h.lt;obtain ⟨arr,c,h1,h2⟩:=h;exact ⟨arr,c,by rw [k.block b hlt hF];exact h1,h2⟩
theorem MapAt.below {w w':World} {b:Nat} {es:List (α × Value)} (h:MapAt w b f es) (k:Below w.heap.size w w'):MapAt w' b f es:=h.only (Only.of_below k (fun _=>False)) (fun h=>h)
theorem run_getMap {w:World} {b:Nat} {arr:Array MapEntry} {c:Nat} (h:w.heap[b]? = some (.map arr c)):(getObj b).run P w=.ok (.map arr c) w:=by
  unfold getObj;simp [Sem.run,h]
theorem run_setMap {w:World} {b:Nat} {arr:Array MapEntry} {c:Nat} (h:w.heap[b]? = some (.map arr c)) (o:Obj):(setObj b o).run P w=.ok () { w with heap:=w.heap.setIfInBounds b o }:=by
  unfold setObj;simp [Sem.run,h]
theorem only_setObj (w:World) (b:Nat) (o:Obj):Only (fun j=>j=b) w { w with heap:=w.heap.setIfInBounds b o } :=
  ⟨rfl,rfl,rfl,by simp,fun k _ hk=>by
    show (w.heap.setIfInBounds b o)[k]? = _;rw [Array.getElem?_setIfInBounds];rw [if_neg (fun e=>hk e.symm)]⟩
variable [DecidableEq α]
def findE:List (α × Value)→α→Nat→Option (Nat × Value)
  | [],_,_=>none
  | (k,v)::r,a,i=>if a=k then some (i,v) else findE r a (i+1)
def getE:List (α × Value)→α→Option Value
  | [],_=>none
  | (k,v)::r,a=>if a=k then some v else getE r a
def putE:List (α × Value)→α→Value→List (α × Value)
  | [],a,v=>[(a,v)]
  | (k,u)::r,a,v=>if a=k then (a,v)::r else (k,u)::putE r a v
theorem findE_get:∀ (es:List (α × Value)) (a:α) (i:Nat),(findE es a i).map (·.2)=getE es a
  | [],_,_=>rfl
  | (k,v)::r,a,i=>by
    simp only [findE,getE];split
    · rfl
    · exact findE_get r a (i+1)
theorem findNow_E (K:KeyF P kt f d):∀ (l:List MapEntry) (es:List (α × Value)) (a:α) (i:Nat),l.map kvE=es.map (fkE f)→Instr.findNow d (f a) l i=some (findE es a i)
  | [],[],_,_,_=>rfl
  | [],_::_,_,_,h=>by cases h
  | _::_,[],_,_,h=>by cases h
  | e::l,(k,v)::r,a,i,h=>by
    simp only [List.map_cons,List.cons.injEq,kvE,fkE,Prod.mk.injEq] at h;obtain ⟨⟨h1,h2⟩,h3⟩:=h;simp only [Instr.findNow,findE,h1,K.same];by_cases e:a=k
    · rw [if_pos e,decide_eq_true e,h2]
    · rw [if_neg e,decide_eq_false e]
      exact findNow_E K l r a (i+1) h3
theorem put_E (v:Value):∀ (l:List MapEntry) (es:List (α × Value)) (a:α) (i0 i:Nat) (u:Value),l.map kvE=es.map (fkE f)→findE es a i0=some (i,u)→i0≤i∧(l[i - i0]?).map (·.key)=some (f a)∧(l.modify (i - i0) fun e=>{ e with key:=f a,val:=v }).map kvE=(putE es a v).map (fkE f)
  | [],[],_,_,_,_,_,h2=>by cases h2
  | [],_::_,_,_,_,_,h,_=>by cases h
  | _::_,[],_,_,_,_,h,_=>by cases h
  | e::l,(k,w)::r,a,i0,i,u,h,h2=>by
    simp only [List.map_cons,List.cons.injEq] at h;obtain ⟨h1,h3⟩:=h;simp only [findE] at h2;split at h2
    · rename_i hak
      injection h2 with h2
      injection h2 with h4 h5
      subst h4;refine ⟨Nat.le_refl _,?_,?_⟩
      · rw [Nat.sub_self]
        simp only [kvE,fkE,Prod.mk.injEq] at h1;simp [h1.1,hak]
      · rw [Nat.sub_self]
        simp only [putE,if_pos hak,List.modify_zero_cons,List.map_cons,h3];rfl
    · rename_i hak
      obtain ⟨h4,h5,h6⟩:=put_E v l r a (i0+1) i u h3 h2;have e1:i - i0=(i - (i0+1))+1:=by omega
      refine ⟨by omega,?_,?_⟩
      · rw [e1,List.getElem?_cons_succ];exact h5
      · rw [e1]
        simp only [putE,if_neg hak,List.modify_succ_cons,List.map_cons,h6,h1]
theorem push_E (v:Value) (c:Nat):∀ (l:List MapEntry) (es:List (α × Value)) (a:α) (i0:Nat),l.map kvE=es.map (fkE f)→findE es a i0=none→(l++[({ key:=f a,val:=v,born:=c }:MapEntry)]).map kvE=(putE es a v).map (fkE f)
  | [],[],_,_,_,_=>rfl
  | [],_::_,_,_,h,_=>by cases h
  | _::_,[],_,_,h,_=>by cases h
  | e::l,(k,w)::r,a,i0,h,h2=>by
    simp only [List.map_cons,List.cons.injEq] at h;obtain ⟨h1,h3⟩:=h;simp only [findE] at h2;split at h2
    · cases h2
    · rename_i hak
      simp only [List.cons_append,List.map_cons,putE,if_neg hak,h1];rw [push_E v c l r a (i0+1) h3 h2]
theorem run_checkK (K:KeyF P kt f d) (em:Bool) (a:α) (w:World):(Instr.checkKey em 10000 kt (f a)).run P w=.ok () w:=by
  have hu:=K.und;have hfl:=K.flat;show (Instr.checkKey em (9999+1) kt (f a)).run P w=_;unfold Instr.checkKey;simp only [Sem.run_bind,run_underlying hu,Result.andThen_ok];cases d <;> first | rfl | cases hfl
theorem run_findK (K:KeyF P kt f d) {l:List MapEntry} {es:List (α × Value)} (h:l.map kvE=es.map (fkE f)) (a:α) (w:World):(Instr.findKey kt (f a) l).run P w=.ok (findE es a 0) w:=by
  unfold Instr.findKey;simp only [Sem.run_bind,run_underlying K.und,Result.andThen_ok,findNow_E K l es a 0 h,Sem.run_pure]
theorem run_lookupE (K:KeyF P kt f d) {T et:TypeId} (hT:P.underlying T=some (.map kt et)) {w:World} {b:Nat} {es:List (α × Value)} (h:MapAt w b f es) (a:α) {z:Value} (hz:(zeroValue et).run P w=.ok z w) :
    (Instr.lookup T (.map (some b)) (f a) false).run P w=.ok ((getE es a).getD z) w:=by
  obtain ⟨arr,c,h1,h2⟩:=h;have hg:=findE_get es a 0;unfold Instr.lookup;simp only [Sem.run_bind,run_underlying hT,Result.andThen_ok,run_getMap h1,Sem.run_pure,run_checkK K,run_findK K h2];cases hf:findE es a 0 with
  | none =>
    rw [hf] at hg;simp only [Sem.run_bind,hz,Result.andThen_ok,Sem.run_pure,← hg];rfl
  | some x =>
    obtain ⟨i,v⟩:=x;rw [hf] at hg;simp only [← hg];rfl
theorem run_mapUpdateE (K:KeyF P kt f d) {T et:TypeId} (hT:P.underlying T=some (.map kt et)) {w:World} {b:Nat} {es:List (α × Value)} (h:MapAt w b f es) (a:α) (v:Value) :
    ∃ w',(Instr.mapUpdate T (.map (some b)) (f a) v).run P w=.ok () w'∧MapAt w' b f (putE es a v)∧Only (fun j=>j=b) w w':=by
  have hlt:=h.lt;obtain ⟨arr,c,h1,h2⟩:=h;unfold Instr.mapUpdate;simp only [Sem.run_bind,run_underlying hT,Result.andThen_ok,run_getMap h1,run_checkK K,run_findK K h2];cases hf:findE es a 0 with
  | none =>
    refine ⟨_,run_setMap h1 _,⟨arr.push { key:=f a,val:=v,born:=c },c+1,?_,?_⟩,only_setObj _ _ _⟩
    · show (w.heap.setIfInBounds b _)[b]? = _
      rw [Array.getElem?_setIfInBounds_self_of_lt hlt]
    · rw [Array.toList_push]
      exact push_E v c _ _ a 0 h2 hf
  | some x =>
    obtain ⟨i,u⟩:=x;obtain ⟨_,h3,h4⟩:=put_E v _ _ a 0 i u h2 hf;rw [Nat.sub_zero] at h3 h4;have h5:((arr[i]?).map (·.key)).getD (f a)=f a:=by
      rw [← Array.getElem?_toList,h3];rfl
    have h6:(Instr.keyThatStays (f a) (f a)).run P w=.ok (f a) w:=by
      unfold Instr.keyThatStays;rw [if_pos (K.bits a)];rfl
    simp only [h5,Sem.run_bind,h6,Result.andThen_ok];refine ⟨_,run_setMap h1 _,⟨arr.modify i fun e=>{ e with key:=f a,val:=v },c,?_,?_⟩,only_setObj _ _ _⟩
    · show (w.heap.setIfInBounds b _)[b]? = _
      rw [Array.getElem?_setIfInBounds_self_of_lt hlt]
    · rw [Array.toList_modify]
      exact h4
end
section
variable {P:Program} {ops:Array Oper} {rest:List Oper} {a:Act} {w:World} {Q:Exit→Act→World→Prop} {n:Nat} {L:List (Nat × Value)} {o:Oper} {md:Region.Mode} {S:World→Prop} {z:Nat}
variable {α:Type} [DecidableEq α] {f:α→Value} {kt:TypeId} {d:TypeDesc}
theorem op_lookup (K:KeyF P kt f d) {T et:TypeId} (hT:P.underlying T=some (.map kt et)) {b:Nat} {es:List (α × Value)} (h:MapAt w b f es) (k:α) {zv:Value} (hz:(zeroValue et).run P w=.ok zv w) {ρ:Operand→Value} {x y:Operand} (ho:o.op=.lookup T x y false) (hx:ρ x=.map (some b)) (hy:ρ y=f k) :
    (execOp ρ o).run P w=.ok (.value ((getE es k).getD zv)) w:=by
  unfold execOp;simp only [ho,hx,hy,Sem.run_bind,run_lookupE K hT h k hz,Result.andThen_ok,Sem.run_pure]
theorem op_update (K:KeyF P kt f d) {T et:TypeId} (hT:P.underlying T=some (.map kt et)) {b:Nat} {es:List (α × Value)} (h:MapAt w b f es) (k:α) (v:Value):∃ w',MapAt w' b f (putE es k v)∧Only (fun j=>j=b) w w' ∧
    ∀ {o:Oper} {ρ:Operand→Value} {x y u:Operand},o.op=.mapUpdate T x y u∨o.op=.insert T x y u→ρ x=.map (some b)→ρ y=f k→ρ u=v→(execOp ρ o).run P w=.ok .skip w':=by
  obtain ⟨w',h1,h2,h3⟩:=run_mapUpdateE K hT h k v;refine ⟨w',h2,h3,?_⟩;intro o ρ x y u ho hx hy hu;unfold execOp;rcases ho with ho | ho <;> simp only [ho,hx,hy,hu,Sem.run_bind,h1,Result.andThen_ok,Sem.run_pure]
end
theorem key_int {P:Program} {kt:TypeId} {q:IntKind} (h:P.underlying kt=some (.int q)):KeyF P kt (fun i:Int=>Value.int q i) (.int q):=⟨h,fun a b=>by
  show (if q=q then some (a == b) else none)=some (decide (a=b));rw [if_pos rfl];by_cases e:a=b
  · subst e;simp
  · rw [decide_eq_false e,beq_eq_false_iff_ne.2 e],rfl,fun a=>by
  show (q == q && a == a)=true;rw [beq_self_eq_true a];cases q <;> rfl⟩
end Go.Proofs.YtehpihmgjbmoaaaGreatDoor
