import Derived.Test.YtehpihmgjbmoaaaGreatDoorJoinB
import Derived.Test.YtehpihmgjbmoaaaGreatDoorJoinA
import Derived.DeepKeys
import Derived.Great.Walk
import Derived.Deep.MidRow
import Derived.Lib.AppendStr
import Derived.OrdersHeld
import Derived.Deep.RegionHeld3
import Derived.Great.BuildSlice
namespace Go.Proofs.YtehpihmgjbmoaaaGreatDoor
open Go.RowKit
theorem ba_inj {a b:ByteArray}:a.data.toList=b.data.toList↔a=b:=⟨bl_inj,fun h=>by rw [h]⟩
theorem eq_lits {t:TypeId} {m:Nat} (hm:m≤10000) (hk:Tryz.prog.keyTypeAt m t=true) {xs ys:Array Value} {la lb:List Lit} {D D':Nat} (fx:(Value.agg xs).formed Tryz.prog t=true) (fy:(Value.agg ys).formed Tryz.prog t=true)
    (hx:Tryz.prog.keyLits D t xs.toList=some la) (hy:Tryz.prog.keyLits D' t ys.toList=some lb) (b:Bool) (hb:b=true↔la=lb) (w:World) :
    (binOp .eql t (.agg xs) (.agg ys)).run Tryz.prog w=.ok (.bool b) w∧(binOp .neq t (.agg xs) (.agg ys)).run Tryz.prog w=.ok (.bool (!b)) w:=by
  obtain ⟨r,hr,hiff⟩:=run_equalIn_deep (P:=Tryz.prog) (10000 - m) m t hk w D D' (.agg xs) (.agg ys) la lb fx fy hx hy;rw [show 10000 - m+m=10000 by omega] at hr;have e:r=b:=by
    rw [Bool.eq_iff_iff,hiff,hb]
  subst e;rw [run_eql_struct,run_neq_struct,hr];exact ⟨rfl,rfl⟩
section
variable {D:Nat}
theorem lit_str (s:ByteArray) (h:s.size≤maxLen):Tryz.prog.keyLits (D+1) 9 [.string s]=some [.string s.data.toList]:=by
  unfold Program.keyLits;rw [Tryz.underlying9];simp [h]
theorem lit_bool (b:Bool):Tryz.prog.keyLits (D+1) 4 [.bool b]=some [.bool b]:=by
  unfold Program.keyLits;rw [Tryz.underlying4]
theorem lit_u8 (q:Nat) (h:q < 256):Tryz.prog.keyLits (D+1) 5 [.int .u8 (q:Int)]=some [.int .u8 (q:Int)]:=by
  unfold Program.keyLits;rw [Tryz.underlying5];have:(Lit.int .u8 (q:Int)).wf=true:=by
    simp [Lit.wf];rw [show IntKind.u8.min=0 from rfl,show IntKind.u8.max=255 from rfl];omega
  simp [this]
theorem lit_u16 (q:Nat) (h:q < 65536):Tryz.prog.keyLits (D+1) 28 [.int .u16 (q:Int)]=some [.int .u16 (q:Int)]:=by
  unfold Program.keyLits;rw [Tryz.underlying28];have:(Lit.int .u16 (q:Int)).wf=true:=by
    simp [Lit.wf];rw [show IntKind.u16.min=0 from rfl,show IntKind.u16.max=65535 from rfl];omega
  simp [this]
end
theorem c_str:Tryz.prog.cellsOf 9=1:=by kernel_rfl
theorem c_bool:Tryz.prog.cellsOf 4=1:=by kernel_rfl
theorem c_u8:Tryz.prog.cellsOf 5=1:=by kernel_rfl
theorem c_u16:Tryz.prog.cellsOf 28=1:=by kernel_rfl
theorem c_msg:Tryz.prog.cellsOf 30=4:=by kernel_rfl
def msgV (t p:ByteArray) (q:Nat) (r:Bool):Array Value:=#[.string t,.string p,.int .u8 (q:Int),.bool r]
theorem lit_msg {D:Nat} (t p:ByteArray) (q:Nat) (r:Bool) (h1:t.size≤maxLen) (h2:p.size≤maxLen) (h3:q < 256) :
    Tryz.prog.keyLits (D+2) 30 [.string t,.string p,.int .u8 (q:Int),.bool r]=some [.string t.data.toList,.string p.data.toList,.int .u8 (q:Int),.bool r]:=by
  unfold Program.keyLits;rw [Tryz.underlying30];simp [c_msg,c_str,c_u8,c_bool,List.mapM_cons,lit_str _ h1,lit_str _ h2,lit_u8 _ h3,lit_bool]
set_option maxRecDepth 100000 in
theorem msg_eq (t1 p1 t2 p2:ByteArray) (q1 q2:Nat) (r1 r2:Bool) (h1:q1 < 256) (h2:q2 < 256) (s1:t1.size≤maxLen) (s2:p1.size≤maxLen) (s3:t2.size≤maxLen) (s4:p2.size≤maxLen) (w:World) :
    (binOp .eql 30 (.agg (msgV t1 p1 q1 r1)) (.agg (msgV t2 p2 q2 r2))).run Tryz.prog w=.ok (.bool (decide (t1=t2∧p1=p2∧q1=q2∧r1=r2))) w ∧
    (binOp .neq 30 (.agg (msgV t1 p1 q1 r1)) (.agg (msgV t2 p2 q2 r2))).run Tryz.prog w=.ok (.bool (!decide (t1=t2∧p1=p2∧q1=q2∧r1=r2))) w:=by
  refine eq_lits (m:=3) (by decide) (by kernel_rfl) rfl rfl (lit_msg (D:=3) t1 p1 q1 r1 s1 s2 h1) (lit_msg (D:=3) t2 p2 q2 r2 s3 s4 h2) _ ?_ w;rw [decide_eq_true_eq];simp only [List.cons.injEq,Lit.string.injEq,Lit.int.injEq,Lit.bool.injEq,ba_inj,true_and,and_true,Int.natCast_inj]
def flV (p:Pk):Array Value:=#[.int .u8 (p.ty:Int),.int .u8 (p.qos:Int),.int .u8 (p.level:Int),.int .u8 (p.code:Int),.bool p.dup,.bool p.ret,.bool p.clean,.bool p.hasWill,.bool p.hasUser,.bool p.hasPass,.bool p.present,
  .int .u16 (p.id:Int),.int .u16 (p.keep:Int),.string p.topic,.string p.payload,.string p.client,.string p.user,.string p.pass,.string p.codes,.string p.wtopic,.string p.wpayload,.int .u8 (p.wqos:Int),.bool p.wret]
def litF (p:Pk):List Lit:=[.int .u8 (p.ty:Int),.int .u8 (p.qos:Int),.int .u8 (p.level:Int),.int .u8 (p.code:Int),.bool p.dup,.bool p.ret,.bool p.clean,.bool p.hasWill,.bool p.hasUser,.bool p.hasPass,.bool p.present,
  .int .u16 (p.id:Int),.int .u16 (p.keep:Int),.string p.topic.data.toList,.string p.payload.data.toList,.string p.client.data.toList,.string p.user.data.toList,.string p.pass.data.toList,.string p.codes.data.toList,.string p.wtopic.data.toList,.string p.wpayload.data.toList,.int .u8 (p.wqos:Int),.bool p.wret]
theorem c_flat:Tryz.prog.cellsOf 184=23:=by kernel_rfl
theorem le_max {n:Nat} (h:n≤300000000):n≤maxLen:=by unfold maxLen;omega
set_option maxRecDepth 100000 in
theorem lit_flat {D:Nat} (p:Pk) (h:PkOk p):Tryz.prog.keyLits (D+3) 184 (flV p).toList=some (litF p):=by
  have hm:=lit_msg (D:=D) p.wtopic p.wpayload p.wqos p.wret (le_max h.wtopic) (le_max h.wpayload) h.wqos;unfold Program.keyLits;rw [Tryz.underlying184];simp [flV,litF,c_flat,c_msg,c_str,c_u8,c_u16,c_bool,List.mapM_cons,lit_str _ (le_max h.topic),lit_str _ (le_max h.payload),lit_str _ (le_max h.client),lit_str _ (le_max h.user),lit_str _ (le_max h.pass),lit_str _ (le_max h.codes),lit_u8 _ h.ty,lit_u8 _ h.qos,lit_u8 _ h.level,lit_u8 _ h.code,lit_u16 _ h.id,lit_u16 _ h.keep,lit_bool,hm]
theorem litF_inj (p q:Pk):litF p=litF q↔p.bare=q.bare:=by
  cases p;cases q;simp only [litF,Pk.bare,List.cons.injEq,Lit.string.injEq,Lit.int.injEq,Lit.bool.injEq,ba_inj,true_and,and_true,Int.natCast_inj,Pk.mk.injEq];constructor
  · rintro ⟨h1,h2,h3,h4,h5,h6,h7,h8,h9,h10,h11,h12,h13,h14,h15,h16,h17,h18,h19,h20,h21,h22,h23⟩
    exact ⟨h1,h5,h2,h6,h12,h14,h15,h3,h7,h13,h16,h8,h20,h21,h22,h23,h9,h10,h17,h18,h11,h4,h19⟩
  · rintro ⟨h1,h5,h2,h6,h12,h14,h15,h3,h7,h13,h16,h8,h20,h21,h22,h23,h9,h10,h17,h18,h11,h4,h19⟩
    exact ⟨h1,h2,h3,h4,h5,h6,h7,h8,h9,h10,h11,h12,h13,h14,h15,h16,h17,h18,h19,h20,h21,h22,h23⟩
set_option maxRecDepth 100000 in
theorem flat_eq (p q:Pk) (hp:PkOk p) (hq:PkOk q) (w:World) :
    (binOp .eql 184 (.agg (flV p)) (.agg (flV q))).run Tryz.prog w=.ok (.bool (decide (p.bare=q.bare))) w ∧
    (binOp .neq 184 (.agg (flV p)) (.agg (flV q))).run Tryz.prog w=.ok (.bool (!decide (p.bare=q.bare))) w:=by
  refine eq_lits (m:=4) (by decide) (by kernel_rfl) rfl rfl (lit_flat (D:=3) p hp) (lit_flat (D:=3) q hq) _ ?_ w;rw [decide_eq_true_eq,litF_inj]
end Go.Proofs.YtehpihmgjbmoaaaGreatDoor
namespace Go.Proofs.YtehpihmgjbmoaaaGreatDoor
open Go.RowKit
abbrev Box:=Nat × Array Value × TypeId
abbrev Row:=Option Addr × List Value
structure Keep (w0:World) (L:List Box) (R:List Row) (w:World):Prop where
  env0:Env w0
  low:Below w0.heap.size w0 w
  box:∀ x ∈ L,BoxAt w x.1 x.2.1 x.2.2
  up:∀ x ∈ L,w0.heap.size≤x.1
  nod:(L.map (·.1)).Nodup
  row:∀ r ∈ R,CellsA w r.1 r.2
  apart:∀ r ∈ R,r.2≠[]→∀ x ∈ L,∀ ad,r.1=some ad→ad.block≠x.1
section
variable {w0 w w':World} {L:List Box} {R:List Row}
theorem Keep.env (h:Keep w0 L R w):Env w:=h.env0.below h.low
theorem Keep.size (h:Keep w0 L R w):w0.heap.size≤w.heap.size:=h.low.size
theorem Keep.lt (h:Keep w0 L R w) {x:Box} (hx:x ∈ L):x.1 < w.heap.size:=(h.box x hx).lt
theorem Keep.begin (hE:Env w) (R:List Row) (hR:∀ r ∈ R,CellsA w r.1 r.2):Keep w [] R w :=
  ⟨hE,Below.refl _ _,fun x hx=>(by cases hx),fun x hx=>(by cases hx),List.nodup_nil,hR,fun r _ _ x hx=>(by cases hx)⟩
theorem Keep.below (h:Keep w0 L R w) (k:Below w.heap.size w w'):Keep w0 L R w' :=
  ⟨h.env0,h.low.trans (k.mono h.size),fun x hx=>(h.box x hx).below k,h.up,h.nod,fun r hr=>(h.row r hr).below k,h.apart⟩
theorem Keep.drew (h:Keep w0 L R w):Keep w0 L R w.drew:=h.below (below_draws (n:=1) rfl)
theorem Keep.drewN (h:Keep w0 L R w) (n:Nat):Keep w0 L R (w.drewN n):=h.below (below_draws (n:=n) rfl)
theorem CellsA.lt {w:World} {ad:Addr} {vs:List Value} (h:CellsA w (some ad) vs) (hne:vs≠[]):ad.block < w.heap.size:=by
  cases vs with
  | nil=>exact absurd rfl hne
  | cons v r =>
    obtain ⟨b,o,e,hc⟩:=h 0 v rfl;injection e with e
    subst e;exact World.block_lt_of_cell? _ _ hc
theorem Keep.alloc (h:Keep w0 L R w) (cs:Array Value) (T:TypeId):Keep w0 ((w.heap.size,cs,T)::L) R (w.alloc (.cells cs T)):=by
  have k:Below w.heap.size w (w.alloc (.cells cs T)):=(Below.refl _ _).alloc (Nat.le_refl _) _;have h2:=h.below k;refine ⟨h2.env0,h2.low,?_,?_,?_,h2.row,?_⟩
  · intro x hx
    rcases List.mem_cons.1 hx with rfl | hx
    · exact BoxAt.new w cs T
    · exact h2.box x hx
  · intro x hx
    rcases List.mem_cons.1 hx with rfl | hx
    · exact h.size
    · exact h.up x hx
  · rw [List.map_cons,List.nodup_cons]
    refine ⟨fun hm=>?_,h.nod⟩;obtain ⟨x,hx,e⟩:=List.mem_map.1 hm;have:=h.lt hx;simp only at e
    omega
  · intro r hr hne x hx ad e
    rcases List.mem_cons.1 hx with rfl | hx
    · have:=(e ▸ h.row r hr).lt hne
      simp only
      omega
    · exact h.apart r hr hne x hx ad e
theorem Keep.alloc' (h:Keep w0 L R w) (cs:Array Value) (T:TypeId) (X:Nat) (hX:w.heap.size=X):Keep w0 ((X,cs,T)::L) R (w.alloc (.cells cs T)):=hX ▸ h.alloc cs T
theorem Keep.rowIn (h:Keep w0 L R w) {a:Option Addr} {vs:List Value} (hc:CellsA w a vs) (ha:vs≠[]→∀ x ∈ L,∀ ad,a=some ad→ad.block≠x.1):Keep w0 L ((a,vs)::R) w :=
  ⟨h.env0,h.low,h.box,h.up,h.nod,fun r hr=>by rcases List.mem_cons.1 hr with rfl | hr;exact hc;exact h.row r hr,fun r hr hne x hx ad e=>by
    rcases List.mem_cons.1 hr with rfl | hr
    · exact ha hne x hx ad e
    · exact h.apart r hr hne x hx ad e⟩
theorem Keep.allocRow (h:Keep w0 L R w) (vs:List Value) (T:TypeId):Keep w0 L ((some ⟨w.heap.size,0,none⟩,vs)::R) (w.alloc (.cells vs.toArray T)) :=
  (h.below ((Below.refl _ _).alloc (Nat.le_refl _) _)).rowIn cells_new (fun _ x hx ad e=>by
    injection e with e
    subst e;have:=h.lt hx;simp only
    omega)
theorem Keep.at (h:Keep w0 L R w) (i:Nat) {X:Nat} {cs:Array Value} {T:TypeId} (hi:L[i]? = some (X,cs,T)):BoxAt w X cs T:=h.box _ (List.mem_of_getElem? hi)
theorem Keep.rowAt (h:Keep w0 L R w) (i:Nat) {a:Option Addr} {vs:List Value} (hi:R[i]? = some (a,vs)):CellsA w a vs:=h.row _ (List.mem_of_getElem? hi)
theorem Keep.sub (h:Keep w0 L R w) {L':List Box} {R':List Row} (hL:L'.Sublist L) (hR:∀ r ∈ R',r ∈ R):Keep w0 L' R' w :=
  ⟨h.env0,h.low,fun x hx=>h.box x (hL.subset hx),fun x hx=>h.up x (hL.subset hx),(hL.map _).nodup h.nod,fun r hr=>h.row r (hR r hr),fun r hr hne x hx=>h.apart r (hR r hr) hne x (hL.subset hx)⟩
theorem Keep.only (h:Keep w0 L R w) {i X:Nat} {old cs:Array Value} {T:TypeId} (hi:L[i]? = some (X,old,T)) (k:Only (fun j=>j=X) w w') (hb:BoxAt w' X cs T):Keep w0 (L.set i (X,cs,T)) R w':=by
  have hm:=List.mem_of_getElem? hi;have hne:∀ r ∈ R,r.2≠[]→CellsA w' r.1 r.2:=fun r hr hn j v hv=>by
    obtain ⟨b,o,e,hc⟩:=h.row r hr j v hv;exact ⟨b,o,e,k.cell hc (fun e2=>h.apart r hr hn _ hm _ e e2)⟩
  have hlow:Below w0.heap.size w0 w':=h.low.trans (k.below h.size (fun j e=>by have:=h.up _ hm;simp only at this;omega));refine ⟨h.env0,hlow,?_,?_,?_,?_,?_⟩
  · intro x hx
    obtain ⟨j,hj⟩:=List.getElem?_of_mem hx;rw [List.getElem?_set] at hj;split at hj
    · split at hj
      · injection hj with hj;subst hj;exact hb
      · cases hj
    · rename_i hij
      have hx':=h.box x (List.mem_of_getElem? hj);refine hx'.only k (fun e=>hij ?_);have h1:(L.map (·.1))[i]? = some X:=by rw [List.getElem?_map,hi];rfl
      have h2:(L.map (·.1))[j]? = some X:=by rw [List.getElem?_map,hj];exact congrArg some e
      exact (List.getElem?_inj (List.getElem?_eq_some_iff.1 h1).1 h.nod).1 (h1.trans h2.symm)
  · intro x hx
    rcases List.mem_or_eq_of_mem_set hx with hx | rfl
    · exact h.up x hx
    · exact h.up (X,old,T) hm
  · rw [List.map_set]
    have e:(L.map (·.1)).set i X=L.map (·.1):=by
      have h1:(L.map (·.1))[i]? = some X:=by rw [List.getElem?_map,hi];rfl
      obtain ⟨hlt,h3⟩:=List.getElem?_eq_some_iff.1 h1;rw [← h3,List.set_getElem_self]
    rw [e];exact h.nod
  · intro r hr
    by_cases hn:r.2=[]
    · rw [hn];exact CellsA.nil _ _
    · exact hne r hr hn
  · intro r hr hn x hx ad e
    rcases List.mem_or_eq_of_mem_set hx with hx | rfl
    · exact h.apart r hr hn x hx ad e
    · exact h.apart r hr hn (X,old,T) hm ad e
theorem Keep.grown (h:Keep w0 L R w) {r:Option Nat} (k:w.grownBy w' r) (h1:∀ g,r=some g→w0.heap.size≤g) (h2:∀ g,r=some g→∀ x ∈ L,g≠x.1) (hR:∀ x ∈ R,CellsA w' x.1 x.2):Keep w0 L R w' :=
  ⟨h.env0,Below.grown' h.low k h.size h1,fun x hx=>(h.box x hx).only (only_grown k) (fun e=>h2 _ e x hx rfl),h.up,h.nod,hR,h.apart⟩
theorem Keep.set (h:Keep w0 L R w) {i X:Nat} {old:Array Value} {T:TypeId} (hi:L[i]? = some (X,old,T)) (j:Nat) (v:Value) {cs:Array Value} (hcs:old.setIfInBounds j v=cs):Keep w0 (L.set i (X,cs,T)) R (w.setCell ⟨X,j,none⟩ v):=by
  exact h.only hi (Only.setCell (F:=fun j=>j=X) (Only.refl _ _) (p:=⟨X,j,none⟩) (Or.inl rfl) v) (hcs ▸ (h.at i hi).set j v)
end
theorem own_cells {w:World} {B n m c size:Nat} {e:TypeId} {a:Option Addr} {xs:List Value} (h:w.ownsRow B e size (.slice a n c) m xs):CellsA w a xs:=by
  obtain ⟨a',c',hv,_,hc⟩:=own_form h;injection hv with h1 _ _
  exact h1 ▸ hc
section
variable {P:Program} {ops:Array Oper} {rest:List Oper} {o o2:Oper} {a:Act} {w:World} {Q:Exit→Act→World→Prop}
end
end Go.Proofs.YtehpihmgjbmoaaaGreatDoor
namespace Go.Proofs.YtehpihmgjbmoaaaGreatDoor
open Go.RowKit
section
variable {P:Program} {ops:Array Oper} {rest:List Oper} {o:Oper} {a:Act} {w:World} {Q:Exit→Act→World→Prop}
theorem wpList_left (hw:Region.wanted o (yielded ops a.tmps)=false) (h:wpList P ops Q rest (a.put o.dst undef) w):wpList P ops Q (o::rest) a w:=by
  unfold wpList;rw [if_neg (by rw [hw];decide)];exact h
end
end Go.Proofs.YtehpihmgjbmoaaaGreatDoor
namespace Go.Proofs.YtehpihmgjbmoaaaGreatDoor
open Go.RowKit
section
variable {P:Program} {ops:Array Oper} {rest:List Oper} {a:Act} {w:World} {Q:Exit→Act→World→Prop}
theorem put_at (a:Act) (s i:Nat) (v:Value):(a.put (some s) v).tmps[i]? = if i=s then (if s < a.tmps.size then some v else none) else a.tmps[i]? := by
  show (a.tmps.setIfInBounds s v)[i]? = _;rw [Array.getElem?_setIfInBounds];by_cases h:i=s
  · subst h;simp
  · rw [if_neg h,if_neg (fun e=>h e.symm)]
theorem put_size (a:Act) (s:Nat) (v:Value):(a.put (some s) v).tmps.size=a.tmps.size:=by
  show (a.tmps.setIfInBounds s v).size=_;simp
theorem eval_at {i:Nat} {v:Value} (h:a.tmps[i]? = some v):a.eval (.tmp i)=v:=by
  show a.tmps.getD i undef=v;rw [Array.getD_eq_getD_getElem?,h];rfl
theorem wl_do {o:Oper} (hw:Region.wanted o (yielded ops a.tmps)=true) {v:Value} (h:(execOp a.eval o).run P w=.ok (.value v) w) (k:wpList P ops Q rest (a.put o.dst v) w):wpList P ops Q (o::rest) a w :=
  wpList_step fun K hK=>by
    rw [if_pos hw];unfold Oper.wp;rw [h];exact hK _ _ k
theorem free_want {o:Oper} (h:o.guard=none) {y:Nat→Option Bool}:Region.wanted o y=true:=by unfold Region.wanted;rw [h]
structure Fr (n:Nat) (X Y:Value) (t:Nat) (b:Bool) (a:Act):Prop where
  size:a.tmps.size=n
  defers:a.defers=[]
  two:a.tmps[2]? = some X
  three:a.tmps[3]? = some Y
  run:a.tmps[t]? = some (.bool b)
theorem Fr.lit {n:Nat} {X Y:Value} {t:Nat} {b:Bool} (F:Fr n X Y t b a):∃ x:Nat→Value,a=⟨((List.range n).map x).toArray,[]⟩∧x 2=X∧x 3=Y∧x t=.bool b:=by
  refine ⟨fun i=>a.tmps.getD i undef,?_,eval_at F.two,eval_at F.three,eval_at F.run⟩;have hz:=F.size;have hd:=F.defers;obtain ⟨tm,df⟩:=a;simp only at hz hd
  subst hd;congr 1;apply Array.ext_getElem?
  intro i;subst hz;by_cases h:i < tm.size
  · simp [h]
  · simp [h]
end
end Go.Proofs.YtehpihmgjbmoaaaGreatDoor
namespace Go.Proofs.YtehpihmgjbmoaaaGreatDoor
open Go.RowKit
structure FrL (n:Nat) (L:List (Nat × Value)) (a:Act):Prop where
  size:a.tmps.size=n
  defers:a.defers=[]
  at':∀ i v,L.lookup i=some v→a.tmps[i]? = some v
section
variable {P:Program} {ops:Array Oper} {rest:List Oper} {a:Act} {w:World} {Q:Exit→Act→World→Prop} {n:Nat} {L:List (Nat × Value)} {o:Oper}
theorem FrL.ev (F:FrL n L a) (i:Nat) {v:Value} (h:L.lookup i=some v):a.eval (.tmp i)=v:=eval_at (F.at' i v h)
theorem FrL.put (F:FrL n L a) (s:Nat) (v:Value) (hs:s < n):FrL n ((s,v)::L) (a.put (some s) v):=by
  refine ⟨by rw [put_size];exact F.size,F.defers,fun i u h=>?_⟩;rw [put_at];rw [List.lookup_cons] at h;by_cases e:i=s
  · subst e
    rw [beq_self_eq_true] at h;rw [if_pos rfl,if_pos (by have:=F.size;omega)];exact h
  · rw [beq_eq_false_iff_ne.2 e] at h
    rw [if_neg e];exact F.at' i u h
theorem lookup_filter (f:Nat→Bool):∀ (L:List (Nat × Value)) (i:Nat) (v:Value),(L.filter fun x=>f x.1).lookup i=some v→L.lookup i=some v
  | [],i,v,h=>by simp at h
  | (j,u)::r,i,v,h=>by
    rw [List.lookup_cons];by_cases e:i=j
    · subst e
      rw [beq_self_eq_true];rw [List.filter_cons] at h;split at h
      · rw [List.lookup_cons,beq_self_eq_true] at h;exact h
      · exfalso
        rename_i hf
        have:∀ (M:List (Nat × Value)),(M.filter fun x=>f x.1).lookup i=none:=by
          intro M;induction M with
          | nil=>rfl
          | cons y s ih =>
            rw [List.filter_cons];split
            · rename_i hy
              rw [List.lookup_cons];have hne:(i == y.1)=false:=by
                rw [beq_eq_false_iff_ne];rintro rfl;exact hf hy
              rw [hne];exact ih
            · exact ih
        rw [this] at h;cases h
    · rw [beq_eq_false_iff_ne.2 e]
      rw [List.filter_cons] at h;split at h
      · rw [List.lookup_cons,beq_eq_false_iff_ne.2 e] at h
        exact lookup_filter f r i v h
      · exact lookup_filter f r i v h
theorem FrL.keep (F:FrL n L a) (ks:List Nat):FrL n (L.filter fun x=>ks.contains x.1) a:=⟨F.size,F.defers,fun i v h=>F.at' i v (lookup_filter (fun j=>ks.contains j) L i v h)⟩
theorem wanted_at (F:FrL n L a) {g t:Nat} {b want:Bool} (hg:o.guard=some (g,want)) (hy:(ops[g]?).bind (·.dst)=some t) (hb:L.lookup t=some (.bool b)):Region.wanted o (yielded ops a.tmps)=(b == want):=by
  unfold Region.wanted yielded;rw [hg];simp only [hy,Option.bind_some,F.at' t _ hb];cases b <;> cases want <;> rfl
theorem fr_do (F:FrL n L a) (hw:Region.wanted o (yielded ops a.tmps)=true) (s:Nat) (hd:o.dst=some s) (hs:s < n) (v:Value) (he:∀ a',FrL n L a'→(execOp a'.eval o).run P w=.ok (.value v) w)
    (k:∀ a',FrL n ((s,v)::L) a'→wpList P ops Q rest a' w):wpList P ops Q (o::rest) a w:=by
  refine wl_do hw (he a F) ?_;rw [hd];exact k _ (F.put s v hs)
def setMany (old:Array Value):Nat→List Value→Array Value
  | _,[]=>old
  | j,v::r=>setMany (old.setIfInBounds j v) (j+1) r
theorem run_put {P:Program} (w:World) (b o:Nat) (ty:TypeId) (v:Value) (ht:w.there b o v.cells.size) (hi:(P.info? ty).map (·.size)=some v.cells.size) (h1:v.cells.all (·.oneCell')=true) :
    (storeVar ty ⟨b,o,none⟩ v).run P w=.ok () (w.setCells b o v.cells.toList):=by
  have:=run_storeCells_cells (P:=P) b o v.cells.toList 0 w (fun j hj=>by simpa using (ht j (by simpa using hj)).1) (fun j hj=>by simpa using (ht j (by simpa using hj)).2)
    (fun v hv=>(Array.all_eq_true_iff_forall_mem.1 h1) v (by simpa using hv))
  cases hq:P.info? ty with
  | none=>simp [hq] at hi
  | some i =>
    have hs:v.cells.size=i.size:=by simp [hq] at hi;omega
    simp only [Nat.add_zero] at this;simp [storeVar,sizeOf,typeInfo,hq,hs,this]
theorem box_there {w:World} {X:Nat} {cs:Array Value} {T:TypeId} (h:BoxAt w X cs T) (j m:Nat) (hm:j+m≤cs.size):w.there X j m:=fun i hi=>by
  refine ⟨?_,h.frozen _⟩;rw [h.cells,Array.getElem?_eq_getElem (by omega)];rfl
theorem FrL.nil (h1:a.tmps.size=n) (h2:a.defers=[]):FrL n [] a:=⟨h1,h2,fun i v h=>by simp at h⟩
theorem FrL.add (F:FrL n L a) (i:Nat) (v:Value) (h:a.tmps[i]? = some v):FrL n ((i,v)::L) a:=⟨F.size,F.defers,fun j u hj=>by
  rw [List.lookup_cons] at hj;by_cases e:j=i
  · subst e
    rw [beq_self_eq_true] at hj;injection hj with hj
    subst hj;exact h
  · rw [beq_eq_false_iff_ne.2 e] at hj
    exact F.at' j u hj⟩
end
def alone (P:Program) {α:Type}:Sem α→Option α
  | .pure a=>some a
  | .program k=>alone P (k P)
  | .mark _ k=>alone P k
  | _=>none
theorem alone_run {P:Program} {α:Type} (s:Sem α):∀ (x:α),alone P s=some x→∀ w,s.run P w=.ok x w:=by
  induction s with
  | pure a=>intro x h w;simp only [alone,Option.some.injEq] at h;subst h;rfl
  | program k ih=>intro x h w;exact ih P x h w
  | mark m k ih=>intro x h w;exact ih x h w
  | _=>intro x h w;cases h
def known (L:List (Nat × Value)):Operand→Value
  | .tmp t=>(L.lookup t).getD undef
  | .const v=>v
  | .global g=>.pointer (some ⟨g,0,none⟩)
  | .func f=>.func (.func f) #[] #[]
def inDom (L:List (Nat × Value)):Operand→Bool
  | .tmp t=>(L.lookup t).isSome
  | _=>true
def wants (ops:Array Oper) (L:List (Nat × Value)) (o:Oper):Option Bool :=
  match o.guard with
  | none=>some true
  | some (g,want)=>match (ops[g]?).bind (·.dst) with
    | none=>none
    | some t=>match L.lookup t with
      | some (.bool b)=>some (b == want)
      | _=>none
def noSel (o:Op):Bool:=match o with | .select ..=>false | _=>true
def stp (P:Program) (ops:Array Oper) (n:Nat) (L:List (Nat × Value)) (o:Oper):Option (Nat × Value) :=
  match o.dst with
  | none=>none
  | some s=>if Nat.blt s n then
      match wants ops L o with
      | none=>none
      | some false=>some (s,undef)
      | some true=>if noSel o.op && o.op.operands.toList.all (inDom L) then
          match alone P (execOp (known L) o) with
          | some (.value v)=>some (s,v)
          | _=>none
        else none
    else none
def chn (P:Program) (ops:Array Oper) (n:Nat):Nat→List Oper→List (Nat × Value)→Option (List (Nat × Value))
  | 0,_,L=>some L
  | _+1,[],_=>none
  | k+1,o::r,L=>match stp P ops n L o with
    | none=>none
    | some x=>chn P ops n k r (x::L)
def picks (L:List (Nat × Value)):List Nat→Option (List (Nat × Value))
  | []=>some []
  | i::r=>match L.lookup i with
    | none=>none
    | some v=>match picks L r with
      | none=>none
      | some N=>some ((i,v)::N)
def dsts:Nat→List Oper→List Nat
  | 0,_=>[]
  | _+1,[]=>[]
  | k+1,o::r=>match o.dst with
    | some s=>s::dsts k r
    | none=>dsts k r
def run (P:Program) (ops:Array Oper) (n k:Nat) (os:List Oper) (L:List (Nat × Value)) (ids:List Nat):Option (List (Nat × Value)) :=
  if (dsts k os).all (fun s=>ids.contains s || !(L.lookup s).isSome) then
    match chn P ops n k os L with
    | none=>none
    | some L2=>picks L2 ids
  else none
section
variable {P:Program} {ops:Array Oper} {a:Act} {w:World} {Q:Exit→Act→World→Prop} {n:Nat} {L:List (Nat × Value)}
theorem known_ev (F:FrL n L a) {x:Operand} (h:inDom L x=true):a.eval x=known L x:=by
  cases x with
  | tmp t =>
    have h2:(L.lookup t).isSome=true:=h;obtain ⟨v,hv⟩:=Option.isSome_iff_exists.1 h2;rw [F.ev t hv];show v=(L.lookup t).getD undef;rw [hv];rfl
  | const v=>rfl
  | global g=>rfl
  | func f=>rfl
theorem picks_spec (F:FrL n L a):∀ (ids:List Nat) (N:List (Nat × Value)),picks L ids=some N→(∀ i v,N.lookup i=some v→L.lookup i=some v)∧N.map (·.1)=ids
  | [],N,h=>by
    simp only [picks,Option.some.injEq] at h;subst h;exact ⟨fun i v h=>by simp at h,rfl⟩
  | i::r,N,h=>by
    simp only [picks] at h;split at h
    · cases h
    · rename_i v hv
      split at h
      · cases h
      · rename_i N' hN
        injection h with h
        subst h;obtain ⟨h1,h2⟩:=picks_spec F r N' hN;refine ⟨fun j u hj=>?_,by rw [List.map_cons,h2]⟩;rw [List.lookup_cons] at hj;by_cases e:j=i
        · subst e
          rw [beq_self_eq_true] at hj;injection hj with hj
          subst hj;exact hv
        · rw [beq_eq_false_iff_ne.2 e] at hj
          exact h1 j u hj
theorem FrL.cut (F:FrL n L a) (N:List (Nat × Value)) (h:picks L (N.map (·.1))=some N):FrL n N a:=⟨F.size,F.defers,fun i v hv=>F.at' i v ((picks_spec F _ N h).1 i v hv)⟩
end
end Go.Proofs.YtehpihmgjbmoaaaGreatDoor
namespace Go.Proofs.YtehpihmgjbmoaaaGreatDoor
open Go.RowKit
end Go.Proofs.YtehpihmgjbmoaaaGreatDoor
namespace Go.Proofs.YtehpihmgjbmoaaaGreatDoor
open Go.RowKit
def u8V (L:Bs):List Value:=L.map fun b=>Value.int .u8 (b.toNat:Int)
theorem u8V_append (A B:Bs):u8V (A++B)=u8V A++u8V B:=List.map_append
theorem u8V_one (A:Bs):∀ u ∈ u8V A,u.oneCell'=true:=by
  intro u hu;obtain ⟨n,_,rfl⟩:=List.mem_map.1 hu;rfl
theorem u8V_nat (A:Bs):u8V A=natV (A.map UInt8.toNat):=by unfold u8V natV;rw [List.map_map];rfl
def bB (L:Bs):ByteArray:=⟨L.toArray⟩
theorem bl_bB (L:Bs):bl (bB L)=L:=rfl
theorem bB_size (L:Bs):(bB L).size=L.length:=rfl
theorem strN_u8 (A:Bs):strN (A.map UInt8.toNat)=bB A:=by
  unfold strN bB;rw [List.map_map];have:(UInt8.ofNat ∘ UInt8.toNat)=id:=by funext x;simp
  rw [this,List.map_id]
def Out (w:World) (B:Nat) (v:Value) (L:Bs):Prop:=w.ownsRow B 5 1 v L.length (u8V L)
def OnlyU (B:Nat) (w w':World):Prop:=Only (fun j=>B≤j∧∃ cur fr,w.heap[j]? = some (.cells cur 5 fr)) w w'
theorem OnlyU.refl (B:Nat) (w:World):OnlyU B w w:=Only.refl _ _
theorem OnlyU.trans {B:Nat} {a b c:World} (h:OnlyU B a b) (k:OnlyU B b c):OnlyU B a c :=
  Only.trans h k (fun j hj ⟨h1,cur,fr,h2⟩=>by
    refine ⟨h1,?_⟩;by_cases hF:B≤j∧∃ cur fr,a.heap[j]? = some (.cells cur 5 fr)
    · exact hF.2
    · rw [h.block j hj hF] at h2
      exact ⟨cur,fr,h2⟩)
theorem OnlyU.of_below {B:Nat} {w w':World} (h:Below w.heap.size w w'):OnlyU B w w':=Only.of_below h _
theorem OnlyU.then {B:Nat} {a b c:World} (h:OnlyU B a b) (k:Below b.heap.size b c):OnlyU B a c:=h.trans (OnlyU.of_below k)
theorem OnlyU.low {B:Nat} {w w':World} (h:OnlyU B w w') (hB:B≤w.heap.size):Below B w w':=Only.below h hB (fun _ hk=>hk.1)
theorem OnlyU.box {B:Nat} {w w':World} (h:OnlyU B w w') {X:Nat} {cs:Array Value} {T:TypeId} (hb:BoxAt w X cs T) (hT:T≠5):BoxAt w' X cs T :=
  hb.only h (fun ⟨_,cur,fr,e⟩=>by
    unfold BoxAt at hb;rw [hb] at e;injection e with e
    injection e with _ e _
    exact hT e)
theorem own_u8 {w:World} {B n:Nat} {v:Value} {xs:List Value} (h:w.ownsRow B 5 1 v n xs) {g:Nat} (hg:v.ownBlock=some g):B≤g∧∃ cur fr,w.heap[g]? = some (.cells cur 5 fr):=by
  rcases h.2 with ⟨rfl,_⟩ | ⟨g',cap,cur,rfl,hB,hh,_⟩
  · simp [Value.ownBlock] at hg
  · have:g'=g:=by simpa [Value.ownBlock] using hg
    subst this;exact ⟨hB,cur,_,hh⟩
theorem OnlyU.grown {B n:Nat} {w w':World} {v:Value} {xs:List Value} (h:w.ownsRow B 5 1 v n xs) (k:w.grownBy w' v.ownBlock):OnlyU B w w' :=
  (only_grown k).weaken (fun _j hj=>own_u8 h hj)
theorem Out.below {w w':World} {B:Nat} {v:Value} {L:Bs} (h:Out w B v L) (k:Below w.heap.size w w'):Out w' B v L:=own_only h (Only.of_below k (fun _=>False)) (fun _ _ h=>h)
theorem num_Size (n:Nat) (h:n≤268435455) (w:World):Calls Tryz.prog 138 #[.int .i64 (n:Int)] w fun e w'=>e=.returned (.int .i64 (lenS n:Nat))∧w=w':=by
  have FIN:=Lib.hid (show ∀ (k:Int),((lenS n:Nat):Int)=k→Ending.returned (.int .i64 k)=.returned (.int .i64 (lenS n:Nat)) from by rintro k rfl;rfl);have HB:=Lib.hid h;go_enter Tryz.func138,Tryz.ntmps138
  go_wp2_with fail
  go_loopw [0,3] (fun m s wr=>∃ (x k:Nat),x≤268435455∧k≤4∧m=.int .i64 (x:Int)∧s=.int .i64 (k:Int)∧Hid (k+lenS x=lenS n+1)∧w=wr) (fun m _ _=>(intOf m).toNat)
  case atStart=>exact ⟨n,1,h,by omega,rfl,rfl,by unfold Hid;omega,rfl⟩
  case round =>
    obtain ⟨x,k,hx,hk,rfl,rfl,HP,rfl⟩:=hrel;by_cases hl:128≤x
    · have hi:(128:Int)≤(x:Int):=by omega
      have HQ:=Lib.hid (show k+1+lenS (x / 128)=lenS n+1 by
        have h1:=HP.out;unfold lenS at h1 ⊢
        (repeat' split at h1) <;> (repeat' split) <;> omega)
      have hk4:k+1≤4:=by
        have h1:=HQ.out;have:lenS n≤4:=by unfold lenS;(repeat' split) <;> omega
        have:1≤lenS (x / 128):=by unfold lenS;(repeat' split) <;> omega
        omega
      go_wp2_with fail
      go_roundw
      case rel=>exact ⟨x / 128,k+1,by omega,hk4,by first | rfl | go_num | (congr 1;omega),by first | rfl | go_num,HQ,by first | rfl | trivial⟩
      case measure=>simp [intOf];omega
    · have hi:¬ (128:Int)≤(x:Int):=by omega
      have HQ:=Lib.hid (show ((lenS n:Nat):Int)=(k:Int) by
        have h1:=HP.out;have:lenS x=1:=by unfold lenS;rw [if_pos (by omega)]
        omega)
      go_wp2_with fail
      go_ret
      exact ⟨FIN.out _ HQ.out,rfl⟩
end Go.Proofs.YtehpihmgjbmoaaaGreatDoor
namespace Go.Proofs.YtehpihmgjbmoaaaGreatDoor
open Go.RowKit
theorem wrap_u8 (n:Nat):IntKind.u8.wrap (n:Int)=((n % 256:Nat):Int):=by
  show ((n:Int) % 256)=_;omega
theorem byteN_toNat (n:Nat):(byteN n).toNat=n % 256:=by simp [byteN]
theorem u8V_word (n:Nat) (h:n≤65535):u8V (wordB n)=[.int .u8 ((n / 256:Nat):Int),.int .u8 ((n % 256:Nat):Int)]:=by
  unfold u8V wordB;simp only [List.map_cons,List.map_nil,byteN_toNat,Nat.mod_mod];rw [Nat.mod_eq_of_lt (show n / 256 < 256 by omega)]
set_option maxRecDepth 100000 in
set_option maxHeartbeats 1000000 in
theorem num_Words (n:Nat) (h:n≤65535) (b o:Nat) (w:World) (hc:w.cell? ⟨b,o,none⟩=some (.int .i64 (n:Int))):Calls Tryz.prog 155 #[.slice (some ⟨b,o,none⟩) 1 1] w fun e w'=>e=.returned (.tuple #[.string (bB (wordB n)),.int .i64 0])∧Below w.heap.size w w':=by
  obtain ⟨i0,hi,hz0,hz1,hz2⟩:=info_parts infoU8;have HW:=Lib.hid (u8V_word n h);have n1:(n:Int)≤65535:=by omega
  have hb:=World.block_lt_of_cell? _ _ hc;dsimp only at hb
  go_enter Tryz.func155,Tryz.ntmps155
  have FIN:=Lib.hid (show ∀ (s:ByteArray) (w':World),bB (wordB n)=s→Below w.heap.size w w'→Ending.returned (.tuple #[.string s,.int .i64 0])=.returned (.tuple #[.string (bB (wordB n)),.int .i64 0])∧Below w.heap.size w w' from by rintro s w' rfl h;exact ⟨rfl,h⟩);go_wp2_with (at_make;refine wpList_make_own _ rfl _ _ _ rfl w.heap.size 5 i0 _ 1 Tryz.underlying22 hi hz0 hz1 .i64 .i64 _ 2 rfl rfl rfl (by rw [hz2];omega) (by unfold maxLen;omega) (Nat.le_refl _) ?_;intro v1 hown1 hg1;have HO:=Lib.hid hown1;have hb1:=below_none hg1;clear hown1 hg1)
  go_loopw [4,13] (fun v i wr=>∃ k:Nat,k≤1∧i=.int .i64 (k:Int)∧Hid (Out wr w.heap.size v (if k=0 then [] else wordB n))∧Below w.heap.size w wr) (fun _ i _=>1 - (intOf i).toNat)
  case atStart=>exact ⟨0,by omega,rfl,HO,hb1⟩
  case round =>
    clear HO hb1;obtain ⟨k,hk,rfl,HO,hbr⟩:=hrel;by_cases hlt:k < 1
    · have hk0:k=0:=by omega
      subst hk0;have hcr:=cell_later hc hbr;have hsz:=hbr.size;have HO0:=Lib.hid (show Out wr w.heap.size u4 [] from by have:=HO.out;simpa using this);clear HO;go_wp2_with (at_builtin;refine wpList_append_own _ rfl _ _ 22 rfl w.heap.size 5 i0 _ 1 1 Tryz.underlying22 hi hz0 hz1 hz2 rfl (by decide) _ 0 [] rfl (World.ownsRow.alloc HO0.out _) ⟨wr.heap.size,0,none⟩ 2 2 (u8V (wordB n)) rfl rfl (by rw [HW.out];exact newsN _ _ _ _ rfl) (u8V_one _) (by unfold maxLen;omega) (by omega) (by simp;omega) ?_;intro v3 w3 hown3 hg3 _;have hb3:=Below.grown' (hbr.alloc hsz _) hg3 (by simp;omega) (fun r hr=>(own_lt HO0.out hr).2);have HC3:=Lib.hid hown3;clear hown3 hg3)
      go_roundw
      case rel=>exact ⟨1,by omega,by first | rfl | go_num,HC3.out,hb3⟩
      case measure=>simp [intOf]
    · have hk1:k=1:=by omega
      subst hk1;have hout:=show Out wr w.heap.size u4 (wordB n) from by have:=HO.out;simpa using this
      obtain ⟨a1,c1,hv,_,hcells⟩:=own_form hout;subst hv;rw [u8V_nat] at hcells;have kc:=conv_nats (P:=Tryz.prog) wr 22 5 Tryz.underlying22 Tryz.underlying5 a1 c1 _ (wordB n).length (by simp) hcells 9 Tryz.underlying9;rw [strN_u8] at kc;clear hout hcells HO;go_wp2_with fail
      go_ret2
      exact FIN.out _ _ rfl hbr
set_option maxRecDepth 100000 in
theorem text_PutData (s:ByteArray) (h:s.size≤65535) (w:World):Calls Tryz.prog 154 #[.string s] w fun e w'=>e=.returned (.tuple #[.string (bB (dataB s)),.int .i64 0])∧Below w.heap.size w w':=by
  have hbw:Below w.heap.size w (w.alloc (.cells #[.int .i64 (s.size:Int)] 3)):=(Below.refl _ _).alloc (Nat.le_refl _) _;have HW:=Lib.hid (num_Words s.size h w.heap.size 0 (w.alloc (.cells #[.int .i64 (s.size:Int)] 3)) (by rw [World.cell?_alloc_new];rfl));have HS:=Lib.hid (show bB (wordB s.size)++s=bB (dataB s) by
    unfold dataB;apply bl_inj
    unfold bl bB;simp)
  have hz:¬ 9223372036854775807 < 2+s.size:=by omega
  have hz2:¬ 9223372036854775807 < (bB (wordB s.size)).size+s.size:=by show ¬ 9223372036854775807 < 2+s.size;omega
  go_enter Tryz.func154,Tryz.ntmps154
  go_wp2_with (go_at_call 155;refine Calls.mono HW.out ?_;rintro e w1 ⟨rfl,hb1⟩;replace hb1:=Below.then hbw hb1)
  go_ret2
  exact ⟨by rw [← HS.out];rfl,hb1⟩
end Go.Proofs.YtehpihmgjbmoaaaGreatDoor
namespace Go.Proofs.YtehpihmgjbmoaaaGreatDoor
open Go.RowKit
def bitI (b:Bool) (n:Int):Int:=if b then n else 0
theorem write_bit (b:Bool) (k:Nat) (n:Int) (hk:(k=0∧n=1)∨(k=1∧n=2)∨(k=2∧n=4)∨(k=3∧n=8)∨(k=5∧n=32)∨(k=6∧n=64)∨(k=7∧n=128)) (w:World) :
    Calls Tryz.prog 139 #[.bool b,.int .u64 (k:Int)] w fun e w'=>e=.returned (.int .u8 (bitI b n))∧w=w':=by
  cases b
  · go_enter Tryz.func139,Tryz.ntmps139
    go_wp2_with fail
    go_ret
    exact ⟨rfl,rfl⟩
  · rcases hk with ⟨rfl,rfl⟩ | ⟨rfl,rfl⟩ | ⟨rfl,rfl⟩ | ⟨rfl,rfl⟩ | ⟨rfl,rfl⟩ | ⟨rfl,rfl⟩ | ⟨rfl,rfl⟩
    all_goals
      go_enter Tryz.func139,Tryz.ntmps139
      go_wp2_with fail
      go_ret
      exact ⟨rfl,rfl⟩
theorem u8V_snoc (L:Bs) (n:Nat) (h:n < 256):u8V (L++[byteN n])=u8V L++[.int .u8 (n:Int)]:=by
  rw [u8V_append];unfold u8V;simp [byteN_toNat,Nat.mod_eq_of_lt h]
theorem lenF_step (f n:Nat) (h:128≤n):lenF (f+1) n=byteN (n % 128+128)::lenF f (n / 128):=by
  show (if n < 128 then _ else _)=_;rw [if_neg (by omega)]
theorem lenF_last (f n:Nat) (h:n < 128):lenF f n=[byteN n]:=by
  cases f with
  | zero=>rfl
  | succ f=>show (if n < 128 then _ else _)=_;rw [if_pos h]
set_option maxRecDepth 100000 in
set_option maxHeartbeats 1000000 in
theorem num_Len (n:Nat) (h:n≤268435455) (w:World):Calls Tryz.prog 112 #[.int .i64 (n:Int)] w fun e w'=>e=.returned (.tuple #[.string (bB (lenB n)),.int .i64 0])∧Below w.heap.size w w':=by
  obtain ⟨i0,hi,hz0,hz1,hz2⟩:=info_parts infoU8;have FIN:=Lib.hid (show ∀ (s:ByteArray) (w':World),bB (lenB n)=s→Below w.heap.size w w'→Ending.returned (.tuple #[.string s,.int .i64 0])=.returned (.tuple #[.string (bB (lenB n)),.int .i64 0])∧Below w.heap.size w w' from by rintro s w' rfl h;exact ⟨rfl,h⟩);have HS:=Lib.hid (num_Size n h w);have h4:((lenS n:Nat):Int)≠0:=by unfold lenS;(repeat' split) <;> omega
  have h4':(((lenS n:Nat):Int) == 0)=false:=beq_eq_false_iff_ne.2 h4;clear h4;generalize lenS n=z at *;go_enter Tryz.func112,Tryz.ntmps112
  go_wp2_with (first
    | (go_at_call 138;refine Calls.mono HS.out ?_;rintro e w1 ⟨rfl,rfl⟩)
    | (at_make;refine wpList_make_own _ rfl _ _ _ rfl w.heap.size 5 i0 _ 1 Tryz.underlying22 hi hz0 hz1 .i64 .i64 _ 4 rfl rfl rfl (by rw [hz2];omega) (by unfold maxLen;omega) (Nat.le_refl _) ?_;intro v1 hown1 hg1;have HO:=Lib.hid hown1;have hb1:=below_none hg1;clear hown1 hg1))
  go_loopw [0,5] (fun m v wr=>∃ (x f:Nat) (L:Bs),x≤268435455∧m=.int .i64 (x:Int)∧Hid (x < 128 ^ (f+1)∧lenB n=L++lenF f x∧L.length+f=3∧Out wr w.heap.size v L)∧L.length≤3∧Below w.heap.size w wr) (fun m _ _=>(intOf m).toNat)
  case atStart=>exact ⟨n,3,[],h,rfl,⟨by omega,rfl,rfl,HO.out⟩,by simp,hb1⟩
  case round =>
    clear HO hb1;obtain ⟨x,f,L,hx,rfl,HP,hL,hbr⟩:=hrel;have hsz:=hbr.size;have HO:=Lib.hid HP.out.2.2.2;by_cases hl:128≤x
    · have hi1:(128:Int)≤(x:Int):=by omega
      obtain ⟨g,rfl⟩:∃ g,f=g+1:=by
        cases f with
        | zero=>have:=HP.out.1;omega
        | succ g=>exact ⟨g,rfl⟩
      have HB:=Lib.hid (show u8V (L++[byteN (x % 128+128)])=u8V L++[.int .u8 ((x:Int) % 128+128)] by
        rw [u8V_snoc _ _ (by omega)];push_cast;rfl)
      go_wp2_with (at_builtin;refine wpList_append_own _ rfl _ _ 22 rfl w.heap.size 5 i0 _ 1 1 Tryz.underlying22 hi hz0 hz1 hz2 rfl (by decide) _ L.length (u8V L) rfl (World.ownsRow.alloc HO.out _) ⟨wr.heap.size,0,none⟩ 1 1 [.int .u8 ((x:Int) % 128+128)] rfl rfl (newsN _ _ _ _ rfl) (by intro u hu;simp at hu;subst hu;rfl) (by unfold maxLen;omega) (by omega) (by simp;omega) ?_;intro v3 w3 hown3 hg3 _;have hb3:=Below.grown' (hbr.alloc hsz _) hg3 (by simp;omega) (fun r hr=>(own_lt HO.out hr).2);have HC3:=Lib.hid hown3;clear hown3 hg3)
      go_roundw
      case rel=>exact ⟨x / 128,g,L++[byteN (x % 128+128)],by omega,by first | rfl | go_num | (congr 1;omega),⟨by have:=HP.out.1;rw [Nat.pow_succ] at this;omega,by rw [HP.out.2.1,lenF_step g x hl,List.append_assoc];rfl,by have:=HP.out.2.2.1;rw [List.length_append];simp;omega,by unfold Out;rw [HB.out,List.length_append];exact HC3.out⟩,by have:=HP.out.2.2.1;rw [List.length_append];simp;omega,hb3⟩
      case measure=>simp [intOf];omega
    · have hi1:¬ (128:Int)≤(x:Int):=by omega
      have hmod:(x:Int) % 256=(x:Int):=by omega
      have HB:=Lib.hid (show u8V (L++[byteN x])=u8V L++[.int .u8 (x:Int)] from u8V_snoc _ _ (by omega));have HE:=Lib.hid (show lenB n=L++[byteN x] by rw [HP.out.2.1,lenF_last f x (by omega)]);go_wp2_with (at_builtin;refine wpList_append_own _ rfl _ _ 22 rfl w.heap.size 5 i0 _ 1 1 Tryz.underlying22 hi hz0 hz1 hz2 rfl (by decide) _ L.length (u8V L) rfl (World.ownsRow.alloc HO.out _) ⟨wr.heap.size,0,none⟩ 1 1 [.int .u8 (x:Int)] rfl rfl (newsN _ _ _ _ rfl) (by intro u hu;simp at hu;subst hu;rfl) (by unfold maxLen;omega) (by omega) (by simp;omega) ?_;intro v3 w3 hown3 hg3 _;have hb3:=Below.grown' (hbr.alloc hsz _) hg3 (by simp;omega) (fun r hr=>(own_lt HO.out hr).2);rw [← HB.out] at hown3;obtain ⟨a1,c1,hv,_,hcells⟩:=own_form hown3;subst hv;rw [u8V_nat] at hcells;have kc:=conv_nats (P:=Tryz.prog) w3 22 5 Tryz.underlying22 Tryz.underlying5 a1 c1 _ (L.length+1) (by simp) hcells 9 Tryz.underlying9;rw [strN_u8] at kc;clear hown3 hg3 hcells)
      go_ret2
      exact FIN.out _ _ (by rw [HE.out]) hb3
end Go.Proofs.YtehpihmgjbmoaaaGreatDoor
namespace Go.Proofs.YtehpihmgjbmoaaaGreatDoor
open Go.RowKit
section
variable {P:Program} {ops:Array Oper} {Q:Exit→Act→World→Prop} {md:Region.Mode} {S:World→Prop} {z:Nat}
def AnyT (P:Program) (md:Region.Mode) (ops:Array Oper) (Q:Exit→Act→World→Prop) (S:World→Prop) (z:Nat):Nat→Array Bool→Act→World→Prop
  | 0,listed,a,w=>Region.ready md ops listed=[]∧Q .normal a w
  | n+1,listed,a,w=>(Region.ready md ops listed=[]→Q .normal a w) ∧
      ∀ i ∈ Region.ready md ops listed,wpOp P ops Q i (fun b u=>(i≠z→S u)∧AnyT P md ops Q S z n (listed.setIfInBounds i true) b u) a w
theorem AnyT.any:∀ (n:Nat) (listed:Array Bool) (a:Act) (w:World),AnyT P md ops Q S z n listed a w→wpAny P md ops Q n listed a w
  | 0,_,_,_,h=>h
  | n+1,_,_,_,h=>⟨h.1,fun i hi=>wpOp_mono (fun b u k=>AnyT.any n _ b u k.2) (h.2 i hi)⟩
def waits (md:Region.Mode) (ops:Array Oper) (z i:Nat):Bool:=match ops[z]? with
  | some o=>o.after.any fun e=>e.on == i && Region.binds md e
  | none=>true
theorem not_ready {i:Nat} (hz:waits md ops z i=true) {listed:Array Bool} (hi:i ∈ Region.ready md ops listed):z ∉ Region.ready md ops listed:=by
  intro hr;obtain ⟨_,oz,ho,hall⟩:=mem_ready.1 hr;unfold waits at hz;rw [ho] at hz;obtain ⟨e,he,hb⟩:=Array.any_eq_true'.1 hz;rw [Bool.and_eq_true,beq_iff_eq] at hb;have h1:=hall e he hb.2;have h0:=(mem_ready.1 hi).1;rw [hb.1] at h1;rcases Nat.lt_or_ge i listed.size with h | h
  · simp [h] at h0 h1;rw [h0] at h1;cases h1
  · simp [Array.getElem?_eq_none h] at h1
theorem AnyT.first {i:Nat} {oi:Oper} {v:Value} (hi:ops[i]? = some oi) (hsel:∀ (j:Nat) (o:Oper) cs b,ops[j]? = some o→o.op≠.select cs b) (hz:waits md ops z i=true)
    (hQ:∀ c a w,Q (.panic c) (a.put oi.dst v) w→Q (.panic c) a w):∀ (n:Nat) (listed:Array Bool) (a:Act) (w:World),
      (∀ j oj,ops[j]? = some oj→j≠i→listed.getD j true=false→(∀ e ∈ oj.after,Region.binds md e=true→e.on≠i)→oi.apart ops oj=true) →
      i ∈ Region.ready md ops listed→YieldsIf P ops S oi v a→S w→AnyT P md ops Q S z n (listed.setIfInBounds i true) (a.put oi.dst v) w→AnyT P md ops Q S z (n+1) listed a w:=by
  intro n;induction n with
  | zero =>
    intro listed a w _ hr hy hS H;refine ⟨fun h=>(by rw [h] at hr;cases hr),fun j hj=>?_⟩;by_cases hji:j=i
    · subst hji;exact hy.wpOp hi hS ⟨fun _=>hS,H⟩
    · have h:=ready_mono hj hji
      rw [H.1] at h;cases h
  | succ n ih =>
    intro listed a w hfree hr hy hS H;refine ⟨fun h=>(by rw [h] at hr;cases hr),fun j hj=>?_⟩;by_cases hji:j=i
    · subst hji;exact hy.wpOp hi hS ⟨fun _=>hS,H⟩
    · have hjz:j≠z:=fun e=>not_ready hz hr (e ▸ hj)
      have h1:=H.2 j (ready_mono hj hji);obtain ⟨hun,oj,hoj,hall⟩:=mem_ready.1 hj;have hnot:∀ e ∈ oj.after,Region.binds md e=true→e.on≠i:=fun e he hb heq=>by
        have k1:=hall e he hb;have k0:=(mem_ready.1 hr).1;rw [heq] at k1;rcases Nat.lt_or_ge i listed.size with h | h
        · simp [h] at k0 k1;rw [k0] at k1;cases k1
        · simp [Array.getElem?_eq_none h] at k1
      have h2:=wpOp_putIf hoj (hfree j oj hoj hji hun hnot) (fun cs b=>hsel i oi cs b hi) (fun cs b=>hsel j oj cs b hoj) hQ hy h1;have hfree':∀ k ok,ops[k]? = some ok→k≠i→(listed.setIfInBounds j true).getD k true=false →
          (∀ e ∈ ok.after,Region.binds md e=true→e.on≠i)→oi.apart ops ok=true:=fun k ok hk hki hu hno=>by
        refine hfree k ok hk hki ?_ hno;by_cases hjk:j=k
        · subst hjk;exact hun
        · rw [getD_set_ne true hjk] at hu;exact hu
      refine wpOp_mono (fun b u h3=>⟨h3.2.1,ih (listed.setIfInBounds j true) b u hfree' (ready_mono hr (Ne.symm hji)) h3.1 (h3.2.1 hjz) ?_⟩) h2;rw [Array.setIfInBounds_comm _ _ hji];exact h3.2.2
theorem AnyT.take {i:Nat} {oi:Oper} {v:Value} {n:Nat} {listed:Array Bool} {a:Act} {w:World} (hi:ops[i]? = some oi) (hs:Region.noSelect ops=true) (hf:Region.free md ops listed i=true)
    (hr:(Region.ready md ops listed).contains i=true) (hz:waits md ops z i=true) (hQ:∀ c a w,Q (.panic c) (a.put oi.dst v) w→Q (.panic c) a w) (hy:YieldsIf P ops S oi v a) (hS:S w)
    (h:AnyT P md ops Q S z n (listed.setIfInBounds i true) (a.put oi.dst v) w):AnyT P md ops Q S z (n+1) listed a w :=
  AnyT.first hi (Region.noSelect_spec hs) hz hQ n listed a w (Region.free_spec hi hf) (by simpa using hr) hy hS h
theorem AnyT.step {i:Nat} {o:Oper} {n:Nat} {listed:Array Bool} {a:Act} {w:World} (hr:Region.ready md ops listed=[i]) (ho:ops[i]? = some o)
    (h:∀ K:Act→World→Prop,Shut (∀ b u,(i≠z→S u)→((i≠z→S u)→AnyT P md ops Q S z n (listed.setIfInBounds i true) b u)→K b u)→if Region.wanted o (yielded ops a.tmps)=true then Oper.wp P o a w K Q else K (a.put o.dst undef) w) :
    AnyT P md ops Q S z (n+1) listed a w:=by
  refine ⟨fun h0=>(by rw [hr] at h0;cases h0),fun j hj=>?_⟩;rw [hr,List.mem_singleton] at hj;subst hj;exact wpOp_step ho (fun K hK=>h K (fun b u hS hW=>hK b u ⟨hS,hW hS⟩))
theorem AnyT.step2 {i j:Nat} {o o2:Oper} {n:Nat} {listed:Array Bool} {a:Act} {w:World} (hr:Region.ready md ops listed=[i,j]) (ho:ops[i]? = some o) (ho2:ops[j]? = some o2)
    (h:∀ K:Act→World→Prop,Shut (∀ b u,(i≠z→S u)→((i≠z→S u)→AnyT P md ops Q S z n (listed.setIfInBounds i true) b u)→K b u)→if Region.wanted o (yielded ops a.tmps)=true then Oper.wp P o a w K Q else K (a.put o.dst undef) w)
    (h2:∀ K:Act→World→Prop,Shut (∀ b u,(j≠z→S u)→((j≠z→S u)→AnyT P md ops Q S z n (listed.setIfInBounds j true) b u)→K b u)→if Region.wanted o2 (yielded ops a.tmps)=true then Oper.wp P o2 a w K Q else K (a.put o2.dst undef) w) :
    AnyT P md ops Q S z (n+1) listed a w:=by
  refine ⟨fun h0=>(by rw [hr] at h0;cases h0),fun m hm=>?_⟩;rw [hr] at hm;rcases List.mem_cons.1 hm with rfl | hm
  · exact wpOp_step ho (fun K hK=>h K (fun b u hS hW=>hK b u ⟨hS,hW hS⟩))
  · rw [List.mem_singleton] at hm
    subst hm;exact wpOp_step ho2 (fun K hK=>h2 K (fun b u hS hW=>hK b u ⟨hS,hW hS⟩))
theorem AnyT.done {listed:Array Bool} {a:Act} {w:World} (hr:Region.ready md ops listed=[]) (h:Q .normal a w):∀ n,AnyT P md ops Q S z n listed a w
  | 0=>⟨hr,h⟩
  | _+1=>⟨fun _=>h,by rw [hr];simp⟩
theorem AnyT.begin {id:Nat} {a:Act} {w:World} (hm:P.follows .mixedOrders=true) (hS:S w.drew) (h:S w.drew→AnyT P .any ops Q S z ops.size (Array.replicate ops.size false) a w.drew):(Code.region id ops true).wp P Q a w :=
  wp_region_any hm (AnyT.any _ _ _ _ (h hS))
end
end Go.Proofs.YtehpihmgjbmoaaaGreatDoor
namespace Go.Proofs.YtehpihmgjbmoaaaGreatDoor
open Go.RowKit
section
variable {P:Program} {ops:Array Oper} {rest:List Oper} {a:Act} {w:World} {Q:Exit→Act→World→Prop} {n:Nat} {L:List (Nat × Value)} {o:Oper}
end
end Go.Proofs.YtehpihmgjbmoaaaGreatDoor
namespace Go.Proofs.YtehpihmgjbmoaaaGreatDoor
open Go.RowKit
section
variable {P:Program} {ops:Array Oper} {rest:List Oper} {a:Act} {w:World} {Q:Exit→Act→World→Prop} {n:Nat} {L:List (Nat × Value)} {o o2:Oper} {md:Region.Mode} {S:World→Prop} {z:Nat}
theorem only_setCells {X:Nat}:∀ (vs:List Value) (j:Nat) (w w':World),Only (fun i=>i=X) w w'→Only (fun i=>i=X) w (w'.setCells X j vs)
  | [],_,_,_,h=>h
  | v::r,j,w,_w',h=>only_setCells r (j+1) w _ (h.setCell (F:=fun i=>i=X) (p:=⟨X,j,none⟩) (Or.inl rfl) v)
theorem FrL.get (F:FrL n L a) (i:Nat) {v:Value} (h:L.lookup i=some v):a.tmps.getD i undef=v:=by
  have:=F.at' i v h;simp [this]
theorem run_slice1 {ρ:Operand→Value} (t e:TypeId) (x:Operand) (ho:o.op=.buildSlice t 1 #[(0,x)]) (cells:Array Value) (hx:ρ x=.agg cells) (ie:TypeInfo) (zz:Value)
    (hu:P.underlying t=some (.slice e)) (hie:P.info? e=some ie) (hz:ie.zero=some zz) (hsmall:¬ 1 * ie.size > 2 ^ 24) (hpos:¬ 1 * ie.size=0)
    (h:Instr.fill (fun i=>some (i * ie.size,ie.size)) ((Array.range (1 * ie.size)).map (zz.cells[· % zz.cells.size]!)) [(0,.agg cells)]=some cells) :
    (execOp ρ o).run P w=.ok (.value (.slice (some ⟨w.heap.size,0,none⟩) 1 1)) (w.alloc (.cells cells e)):=by
  have hr:=run_buildSlice (P:=P) w t e 1 #[(0,.agg cells)] cells ie zz hu hie hz hsmall hpos h;unfold execOp;simp only [ho,List.map_toArray,List.map_cons,List.map_nil,hx,Sem.run_bind,hr,Result.andThen_ok,Sem.run_pure]
end
end Go.Proofs.YtehpihmgjbmoaaaGreatDoor
namespace Go.Proofs.YtehpihmgjbmoaaaGreatDoor
open Go.RowKit
section
variable {P:Program} {w:World} {o:Oper}
theorem run_conv {ρ:Operand→Value} (src dst:TypeId) (x:Operand) (ho:o.op=.convert src dst x) (v u:Value) (hx:ρ x=v) (hc:(convert src dst v).run P w=.ok u w):(execOp ρ o).run P w=.ok (.value u) w:=by
  unfold execOp;simp only [ho,hx,Sem.run_bind,hc,Result.andThen_ok,Sem.run_pure]
end
end Go.Proofs.YtehpihmgjbmoaaaGreatDoor
namespace Go.Proofs.YtehpihmgjbmoaaaGreatDoor
open Go.RowKit
def OnlyT (E:TypeId→Prop) (w w':World):Prop:=Only (fun j=>∃ cur t fr,w.heap[j]? = some (.cells cur t fr)∧E t) w w'
section
variable {E:TypeId→Prop} {a b c w w':World}
theorem OnlyT.refl (E:TypeId→Prop) (w:World):OnlyT E w w:=Only.refl _ _
theorem OnlyT.trans (h:OnlyT E a b) (k:OnlyT E b c):OnlyT E a c :=
  Only.trans h k (fun j hj ⟨cur,t,fr,h2,h3⟩=>by
    by_cases hF:∃ cur t fr,a.heap[j]? = some (.cells cur t fr)∧E t
    · exact hF
    · rw [h.block j hj hF] at h2
      exact ⟨cur,t,fr,h2,h3⟩)
theorem OnlyT.of_below (h:Below w.heap.size w w'):OnlyT E w w':=Only.of_below h _
theorem OnlyT.then (h:OnlyT E a b) (k:Below b.heap.size b c):OnlyT E a c:=h.trans (OnlyT.of_below k)
theorem OnlyT.mono {E':TypeId→Prop} (h:OnlyT E w w') (hE:∀ t,E t→E' t):OnlyT E' w w':=h.weaken (fun _ ⟨cur,t,fr,h1,h2⟩=>⟨cur,t,fr,h1,hE t h2⟩)
theorem OnlyT.box (h:OnlyT E w w') {X:Nat} {cs:Array Value} {T:TypeId} (hb:BoxAt w X cs T) (hT:¬ E T):BoxAt w' X cs T :=
  hb.only h (fun ⟨cur,t,fr,e,h2⟩=>by
    unfold BoxAt at hb;rw [hb] at e;injection e with e
    injection e with _ e _
    exact hT (e ▸ h2))
theorem OnlyT.own (h:OnlyT E w w') {B n size:Nat} {e:TypeId} {x:Value} {xs:List Value} (ho:w.ownsRow B e size x n xs) (hT:¬ E e):w'.ownsRow B e size x n xs :=
  own_only ho h (fun g hg ⟨cur,t,fr,e1,h2⟩=>by
    rcases ho.2 with ⟨rfl,_⟩ | ⟨g',cap,cur',rfl,_,hh,_⟩
    · simp [Value.ownBlock] at hg
    · have:g'=g:=by simpa [Value.ownBlock] using hg
      subst this;rw [hh] at e1;injection e1 with e1
      injection e1 with _ e1 _
      exact hT (e1 ▸ h2))
theorem OnlyT.set {X:Nat} (k:Only (fun j=>j=X) w w') {cs:Array Value} {T:TypeId} (hb:BoxAt w X cs T) (hT:E T):OnlyT E w w' :=
  k.weaken (fun j hj=>by subst hj;exact ⟨_,_,_,hb,hT⟩)
theorem OnlyT.grown {B n size:Nat} {e:TypeId} {v:Value} {xs:List Value} (h:w.ownsRow B e size v n xs) (hE:E e) (k:w.grownBy w' v.ownBlock):OnlyT E w w' :=
  (only_grown k).weaken (fun j hj=>by
    rcases h.2 with ⟨rfl,_⟩ | ⟨g',cap,cur,rfl,_,hh,_⟩
    · simp [Value.ownBlock] at hj
    · have:g'=j:=by simpa [Value.ownBlock] using hj
      subst this;exact ⟨cur,e,_,hh,hE⟩)
end
section
variable {P:Program} {ops:Array Oper} {rest:List Oper} {a:Act} {w:World} {Q:Exit→Act→World→Prop} {n:Nat} {L:List (Nat × Value)} {o:Oper}
end
section
variable {P:Program} {ops:Array Oper} {a:Act} {w:World} {Q:Exit→Act→World→Prop} {n:Nat} {L:List (Nat × Value)} {o:Oper} {md:Region.Mode} {S:World→Prop} {z:Nat}
end
end Go.Proofs.YtehpihmgjbmoaaaGreatDoor
namespace Go.Proofs.YtehpihmgjbmoaaaGreatDoor
open Go.RowKit
def wantsT (ops:Array Oper) (L:List (Nat × Value)) (o:Oper):Option Bool :=
  match o.guard with
  | none=>some true
  | some (g,want)=>match (ops[g]?).bind (·.dst) with
    | none=>none
    | some t=>match L.lookup t with
      | some (.bool b)=>some (b == want)
      | some (.tuple xs)=>if xs.isEmpty then some false else none
      | _=>none
section
variable {P:Program} {ops:Array Oper} {a:Act} {w:World} {Q:Exit→Act→World→Prop} {n:Nat} {L:List (Nat × Value)} {md:Region.Mode} {S:World→Prop} {z:Nat}
theorem wantsT_spec (F:FrL n L a) {o:Oper} {b:Bool} (h:wantsT ops L o=some b):Region.wanted o (yielded ops a.tmps)=b:=by
  unfold wantsT at h;split at h
  · rename_i hg
    injection h with h
    rw [← h];exact free_want hg
  · rename_i g want hg
    split at h
    · cases h
    · rename_i t ht
      split at h
      · rename_i b2 hb
        injection h with h
        rw [← h];exact wanted_at F hg ht hb
      · rename_i xs hb
        split at h
        · injection h with h
          subst h;unfold Region.wanted yielded;rw [hg];simp only [ht,Option.bind_some,F.at' t _ hb];cases want <;> rfl
        · cases h
      · cases h
end
end Go.Proofs.YtehpihmgjbmoaaaGreatDoor
namespace Go.Proofs.YtehpihmgjbmoaaaGreatDoor
open Go.RowKit
structure Ob where
  blk:Nat
  base:Nat
  cells:List Value
def MemOk (w:World):List Ob→Prop
  | []=>True
  | o::r=>w.rangeAt o.blk o.base o.cells∧MemOk w r
def AllEq:List (Value × Value)→Prop
  | []=>True
  | x::r=>x.1=x.2∧AllEq r
structure Ix where
  a:Option Addr
  len:Nat
  cap:Nat
  k:IntKind
  i:Int
  m:Nat
  res:Addr
def Ix.ok (x:Ix):Prop:=∃ b o j,x.a=some ⟨b,o,none⟩∧x.i=((j:Nat):Int)∧j < x.len∧x.res=⟨b,o+j * x.m,none⟩
def AllIx:List Ix→Prop
  | []=>True
  | x::r=>x.ok∧AllIx r
inductive Hn where
  | c
  | l (k off:Nat)
  | f (j:Nat)
  | i (j:Nat)
def ldv (P:Program) (ty:TypeId) (ob:Ob) (off:Nat):Option Value :=
  match P.underlying ty with
  | none=>none
  | some d=>match P.info? ty with
    | none=>none
    | some i=>if d.isRow then
        (if Nat.beq ((ob.cells.drop off).take i.size).length i.size then some (.agg ((ob.cells.drop off).take i.size).toArray) else none)
      else ob.cells[off]?
def claim (obs:List Ob) (Fs:List (Value × Value)) (Is:List Ix):Hn→List Value
  | .c=>[]
  | .l k off=>match obs[k]? with
    | some ob=>[.pointer (some ⟨ob.blk,ob.base+off,none⟩)]
    | none=>[]
  | .f j=>match Fs[j]? with
    | some x=>[x.1]
    | none=>[]
  | .i j=>match Is[j]? with
    | some x=>[.slice x.a x.len x.cap,.int x.k x.i]
    | none=>[]
theorem AllEq.get:∀ {Fs:List (Value × Value)} {j:Nat} {x:Value × Value},AllEq Fs→Fs[j]? = some x→x.1=x.2
  | [],_,_,_,h=>by simp at h
  | y::r,0,x,h,e=>by
    simp only [List.getElem?_cons_zero,Option.some.injEq] at e;subst e;exact h.1
  | y::r,j+1,x,h,e=>AllEq.get h.2 (by simpa using e)
theorem AllIx.get:∀ {Is:List Ix} {j:Nat} {x:Ix},AllIx Is→Is[j]? = some x→x.ok
  | [],_,_,_,h=>by simp at h
  | y::r,0,x,h,e=>by
    simp only [List.getElem?_cons_zero,Option.some.injEq] at e;subst e;exact h.1
  | y::r,j+1,x,h,e=>AllIx.get h.2 (by simpa using e)
theorem idx_run {P:Program} {w:World} {x:Ix} (hx:x.ok) {t e:TypeId} {q:TypeInfo} (hu:P.underlying t=some (.slice e)) (hi:P.info? e=some q) (hm:q.size=x.m):(Instr.indexAt t (.slice x.a x.len x.cap) (.int x.k x.i)).run P w=.ok (.pointer (some x.res)) w:=by
  obtain ⟨b,o,j,h1,h2,h3,h4⟩:=hx;have he:P.elem t=e:=by simp [Program.elem,hu]
  have ht:P.underlying t=some (.slice (P.elem t)):=by rw [he];exact hu
  have hs:(sizeOf e).run P w=.ok x.m w:=by simp [sizeOf,typeInfo,hi,hm]
  rw [h1,run_indexAt_slice (h:=ht),h2,if_pos (by omega),he,hs,h4];simp only [Result.andThen_ok,Int.toNat_natCast,Addr.add_mid]
theorem MemOk.get {w:World}:∀ {obs:List Ob} {k:Nat} {ob:Ob},MemOk w obs→obs[k]? = some ob→w.rangeAt ob.blk ob.base ob.cells
  | [],_,_,_,h=>by simp at h
  | y::r,0,x,h,e=>by
    simp only [List.getElem?_cons_zero,Option.some.injEq] at e;subst e;exact h.1
  | y::r,j+1,x,h,e=>MemOk.get h.2 (by simpa using e)
theorem ldv_run {P:Program} {w:World} {ob:Ob} {ty:TypeId} {off:Nat} {v:Value} (hm:w.rangeAt ob.blk ob.base ob.cells) (h:ldv P ty ob off=some v):(Instr.loadAt ty (.pointer (some ⟨ob.blk,ob.base+off,none⟩))).run P w=.ok v w:=by
  unfold ldv at h;split at h
  · cases h
  · rename_i d hu
    split at h
    · cases h
    · rename_i i hi
      split at h
      · rename_i hr
        split at h
        · rename_i hl
          injection h with h
          subst h;refine run_loadAt_mid w _ _ ty _ d (fun j u hj=>?_) hu hr (by rw [hi];exact congrArg some (Nat.eq_of_beq_eq_true hl).symm);rw [List.getElem?_take] at hj;split at hj
          · rw [List.getElem?_drop] at hj
            rw [Nat.add_assoc];exact hm _ u hj
          · cases hj
        · cases h
      · rename_i hr
        have hc:=hm off v h;have hagg:(isAgg ty).run P w=.ok false w:=by
          unfold isAgg;rw [Sem.run_bind,run_underlying hu w];cases d <;> simp_all
        simp only [Instr.loadAt,Instr.sureAddr,Sem.run_bind,Sem.run_pure,Result.andThen_ok,loadVar,hagg,Bool.false_eq_true,if_false,run_load,hc]
section
variable {P:Program} {ops:Array Oper} {a:Act} {w:World} {Q:Exit→Act→World→Prop} {n:Nat} {L:List (Nat × Value)} {md:Region.Mode} {S:World→Prop} {z:Nat}
end
theorem tT {b:Bool} (h:b=true):Value.bool b=.bool true:=by rw [h]
theorem tF {b:Bool} (h:b=false):Value.bool b=.bool false:=by rw [h]
theorem eqI {x y:Int} (h:x=y):Value.bool (x == y)=.bool true:=by rw [h,beq_self_eq_true]
theorem eqI' {x y:Int} (h:x≠y):Value.bool (x == y)=.bool false:=by rw [beq_eq_false_iff_ne.2 h]
theorem neI {x y:Int} (h:x≠y):Value.bool (x != y)=.bool true:=by rw [bne_iff_ne.2 h]
theorem neI' {x y:Int} (h:x=y):Value.bool (x != y)=.bool false:=by rw [h,bne_self_eq_false]
theorem dcT {p:Prop} [Decidable p] (h:p):Value.bool (decide p)=.bool true:=by rw [decide_eq_true h]
theorem dcF {p:Prop} [Decidable p] (h:¬ p):Value.bool (decide p)=.bool false:=by rw [decide_eq_false h]
theorem addI {k:Nat} (h:k < 9223372036854775807):Value.int .i64 (IntKind.i64.wrap ((k:Int)+1))=.int .i64 ((k+1:Nat):Int):=by
  congr 1;rw [IntKind.wrap_i64];omega
theorem eqS {x y:ByteArray} (h:x=y):Value.bool (x.toList == y.toList)=.bool true:=by rw [h,beq_self_eq_true]
theorem eqS' {x y:ByteArray} (h:x≠y):Value.bool (x.toList == y.toList)=.bool false:=by
  rw [beq_eq_false_iff_ne.2];intro e;rw [Lib.toList_data,Lib.toList_data] at e;apply h
  cases x with
  | mk x=>cases y with
    | mk y=>exact congrArg ByteArray.mk (Array.toList_inj.1 e)
theorem neS {x y:ByteArray} (h:x≠y):Value.bool (!(x.toList == y.toList))=.bool true:=by
  have:=eqS' h;injection this with this
  rw [this];rfl
theorem neS' {x y:ByteArray} (h:x=y):Value.bool (!(x.toList == y.toList))=.bool false:=by rw [h,beq_self_eq_true];rfl
theorem BoxAt.range {w:World} {X:Nat} {cs:Array Value} {T:TypeId} (h:BoxAt w X cs T):w.rangeAt X 0 cs.toList:=fun j v hv=>by
  rw [Nat.zero_add,h.cells j,← Array.getElem?_toList];exact hv
end Go.Proofs.YtehpihmgjbmoaaaGreatDoor
namespace Go.Proofs.YtehpihmgjbmoaaaGreatDoor
open Go.RowKit
end Go.Proofs.YtehpihmgjbmoaaaGreatDoor
namespace Go.Proofs.YtehpihmgjbmoaaaGreatDoor
open Go.RowKit
structure Kn (w:World) where
  obs:List Ob
  fs:List (Value × Value)
  ix:List Ix
  hM:MemOk w obs
  hF:AllEq fs
  hI:AllIx ix
def k0 {w:World}:Kn w:=⟨[],[],[],trivial,trivial,trivial⟩
section
variable {P:Program} {ops:Array Oper} {a:Act} {w:World} {Q:Exit→Act→World→Prop} {n:Nat} {L:List (Nat × Value)} {md:Region.Mode} {S:World→Prop} {z:Nat}
end
end Go.Proofs.YtehpihmgjbmoaaaGreatDoor
