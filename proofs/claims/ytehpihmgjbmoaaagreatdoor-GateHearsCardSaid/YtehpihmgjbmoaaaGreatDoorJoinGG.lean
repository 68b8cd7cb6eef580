import Derived.Test.YtehpihmgjbmoaaaGreatDoorGtRd
import Derived.Test.YtehpihmgjbmoaaaGreatDoorGtHe
namespace Go.Proofs.YtehpihmgjbmoaaaGreatDoor
open Go.RowKit
attribute [local irreducible] Ok
def hiB:ByteArray:=⟨#[16,13,0,4,77,81,84,84,4,2,0,10,0,1,120]⟩
def hiC:Cn:={ newC 1 with L:=bl hiB }
def hiP:Pk:={ Pk.zero with ty:=1,level:=4,clean:=true,keep:=10,client:=⟨#[120]⟩ }
def hiD:Cn:={ hiC with L:=[],cl:=⟨#[120]⟩,keep:=10,last:=5,st:=2 }
theorem hi_read:readX 1000 1 [hiC] 1 5 0=([askM 1 1 1 hiD hiP],[askN 1 1 ⟨#[120]⟩ hiP],true):=by kernel_rfl
theorem hi_mod:modG (fun c=>(readC 1000 1 c 5 0).1) [hiC] 1=[hiD]:=by kernel_rfl
theorem hi_ok:CnOk 1000 hiC:=⟨by decide,by decide,by decide,by decide,by decide,by decide,by decide,by
  have h:(nxT 1000 hiC.L hiC.e).1=hiP:=by kernel_rfl
  rw [h];exact ⟨show 1 < 256 by decide,pz_ok.qos,pz_ok.id,show 4 < 256 by decide,show 10 < 65536 by decide,pz_ok.wqos,pz_ok.code,pz_ok.topic,pz_ok.payload,show (⟨#[120]⟩:ByteArray).size≤300000000 by decide,pz_ok.wtopic,pz_ok.wpayload,pz_ok.user,pz_ok.pass,pz_ok.codes,pz_ok.few,pz_ok.each⟩,by
  have h:(nxT 1000 hiC.L hiC.e).1=hiP:=by kernel_rfl
  rw [h];decide⟩
theorem mls_form {w:World} {v:Value} {M:List MlG} (h:(rowO 51 40 v M.length (mlCs M)).is w) (h1:M.length=1):∃ g c,v=.slice (some ⟨g,0,none⟩) M.length c:=by
  rcases h.2 with ⟨_,h3⟩ | ⟨g,cap,cur,h2,_⟩
  · rw [h1] at h3;cases h3
  · exact ⟨g,cap,h2⟩
theorem own_row1 {w:World} {d e size cp:Nat} {xs:List Value} (h:(rowO e size (.slice (some ⟨d,0,none⟩) 1 cp) 1 (xs++[])).is w):w.rangeAt d 0 xs:=fun j v hv=>by
  obtain ⟨b,o,e1,hc⟩:=own_cells (show w.ownsRow 0 e size _ 1 (xs++[]) from h) j v (by rw [List.append_nil];exact hv);injection e1 with e1
  injection e1 with e1 e2
  subst e1 e2;exact hc
theorem map_one {α β:Type} {f:α→β} {l:List α} {y:β} (h:l.map f=[y]):∃ x,l=[x]∧f x=y:=by
  cases l with
  | nil=>cases h
  | cons x r =>
    cases r with
    | nil=>injection h with h _;exact ⟨x,rfl,h⟩
    | cons _ _=>injection h with _ h;cases h
set_option maxRecDepth 100000 in
set_option maxHeartbeats 4000000 in
theorem law20_begun {wb:World}  : Spec Tryz.prog wb 26 #[] [] [] (fun y:{y:Nat × Nat × Nat × List CnG // absK y.2.2.2=[hiC]}=>.tuple #[.pointer (some ⟨y.1.1,0,none⟩),.pointer (some ⟨y.1.2.2.1,0,none⟩)]) (fun _=>[]) (fun y=>[gtC y.1.1 1 0 1000 y.1.2.1 y.1.2.2.2,lgC y.1.2.2.1 (.slice none 0 0) [] 0]):=by
  intro w H;refine en_call Tryz.func26 H ?_;refine en E0 [.c,.c] ?_;refine en_spec (gate_New 1 0 1000 (by decide) (by decide) (by decide) (by decide) (by decide)) [] [] [] (fun y=>?_);obtain ⟨g,mb⟩:=y;refine en E0 (eC 4 []) ?_;refine en_spec (gate_OpenY (g:=g) (W:=1) (u:=0) (m:=1000) (mb:=mb) (K:=[]) 1 (by decide) (by decide) (by decide) (by decide)) [] [0] [] (fun y=>?_);obtain ⟨K1,hK1⟩:=y;replace hK1:absK K1=[newC 1]:=hK1;refine en E0 [.c] ?_;refine en_spec (gate_Feed (g:=g) (W:=1) (u:=0) (m:=1000) (mb:=mb) (K:=K1) 1 hiB (by decide) (fun c hc=>by rw [hK1] at hc;have e:c=newC 1:=(Option.some.inj hc).symm;rw [e];decide)) [] [0] [] (fun y=>?_);obtain ⟨K2,hK2⟩:=y;rw [hK1] at hK2;replace hK2:absK K2=[hiC]:=hK2;refine en E0 [.c] ?_;refine en_spec (record_New) [] [] [] (fun lg=>?_);refine en E0 [.c,.c] ?_;exact en_rets ⟨(g,mb,lg,K2),hK2⟩ [] [1,0] []
set_option maxRecDepth 100000 in
set_option maxHeartbeats 4000000 in
theorem law20_awake {wb:World}  : Spec Tryz.prog wb 10 #[] [] [] (fun _:Unit=>.bool true) (fun _=>[]) (fun _=>[]):=by
  intro w H;refine en_call Tryz.func10 H ?_;refine en E0 [.c] ?_;refine en_spec (law20_begun) [] [] [] (fun y=>?_);obtain ⟨⟨g,mb,lg,K⟩,hK⟩:=y;simp only at hK
  refine en E0 (eC 9 []) ?_;have HR:=gate_Read (wb:=wb) (g:=g) (W:=1) (u:=0) (m:=1000) (mb:=mb) (lg:=lg) (K:=K) (vl:=.slice none 0 0) (T:=[]) (ops:=0) 1 5 (by decide) (by decide) (by decide) (by decide) (fun c hc=>by rw [hK] at hc;have e:c=hiC:=(Option.some.inj hc).symm;rw [e];exact hi_ok);rw [hK,hi_read,hi_mod] at HR;refine en_spec (HR) [] [0,0] [] (fun y=>?_);obtain ⟨⟨vm,K2,M,vl,T2⟩,hK2,hM,hT2⟩:=y;simp only at hK2 hM hT2
  obtain ⟨q,rfl,hq⟩:=map_one hM;obtain ⟨q,a,c⟩:=q;simp only at hq
  subst hq;refine en_unpack 1 (mlK vm [(askM 1 1 1 hiD hiP,a,c)]) _ ?_;refine en_fact (p:=∃ d cp,vm=.slice (some ⟨d,0,none⟩) 1 cp) (fun w h=>mls_form (M:=[(askM 1 1 1 hiD hiP,a,c)]) (is_at h 0 (c:=rowO 51 40 vm 1 (mlCs [(askM 1 1 1 hiD hiP,a,c)])) rfl) rfl) ?_;rintro ⟨d,cp,rfl⟩;refine en ⟨⟨[⟨d,0,mlC (askM 1 1 1 hiD hiP,a,c)⟩],[]⟩,[(.bool ((⟨#[120]⟩:ByteArray).toList == (⟨#[120]⟩:ByteArray).toList),.bool true)],[⟨some ⟨d,0,none⟩,1,cp,.i64,0,40,⟨d,0,none⟩⟩,⟨some ⟨d,0,none⟩,1,cp,.i64,0,40,⟨d,0,none⟩⟩,⟨some ⟨d,0,none⟩,1,cp,.i64,0,40,⟨d,0,none⟩⟩],[],fun _ _ h=>⟨⟨own_row1 (is_at h.hp.is 0 (c:=rowO 51 40 (.slice (some ⟨d,0,none⟩) 1 cp) 1 (mlCs [(askM 1 1 1 hiD hiP,a,c)])) rfl),trivial⟩,trivial⟩,⟨eqS (rfl),trivial⟩,⟨⟨d,0,0,rfl,rfl,Nat.zero_lt_one,rfl⟩,⟨d,0,0,rfl,rfl,Nat.zero_lt_one,rfl⟩,⟨d,0,0,rfl,rfl,Nat.zero_lt_one,rfl⟩,trivial⟩,trivial⟩ (eC 13 (.i 0::.c::.l 0 1::eC 4 (.i 1::.c::.c::.l 0 2::eC 4 (.i 2::.c::.c::.l 0 5::.f 0::eC 3 [])))) ?_;refine en_spec0 (gate_State (g:=g) (W:=1) (u:=0) (m:=1000) (mb:=mb) (K:=K2) 1) [] [2] [] ?_;have hst:(stG (absK K2) 1:Int)=2:=by rw [hK2];rfl
  refine en (EF [(.bool ((((stG (absK K2) 1:Int)):Int) == 2),.bool true)] ⟨eqI (hst),trivial⟩) (.f 0::eC 3 []) ?_;refine en_spec0 (record_Len (g:=lg) (v:=vl) (T:=T2) (ops:=0+(([askN 1 1 ⟨#[120]⟩ hiP]:List Nt).length:Int))) [] [3] [] ?_;have hlen:(T2.length:Int)=1:=by have h:=congrArg List.length hT2;rw [List.length_map] at h;rw [h];rfl
  refine en (EF [(.bool ((((T2.length:Int)):Int) == 1),.bool true)] ⟨eqI (hlen),trivial⟩) [.f 0,.c,.c] ?_;exact en_rets () [] [] []
end Go.Proofs.YtehpihmgjbmoaaaGreatDoor
namespace Go.Proofs.YtehpihmgjbmoaaaGreatDoor
open Go.RowKit
attribute [local irreducible] Ok
def txN (n:Nt):List ByteArray:=[n.client,n.codes,n.msg.topic,n.msg.payload,n.p.topic,n.p.payload,n.p.client,n.p.wtopic,n.p.wpayload,n.p.user,n.p.pass,n.p.codes]
def bigN (n:Nt):Bool:=(txN n).any (fun t=>decide (300 < t.size)) || (n.p.subs.any (fun x=>decide (300 < x.1.size)) || decide (20 < n.p.subs.length))
theorem ops_list {P:Program} (t e ty:TypeId) (k:Nat) (xs:Array (Nat × Operand)) (vs:List Value) (ps:List (Nat × Value)) (cells:Array Value) (hx:(xs.map fun x=>(x.1,known (numL 0 vs) x.2))=ps.toArray) (ie:TypeInfo) (zz:Value) {size:Nat} (hsz:size=ie.size) (hu:P.underlying t=some (.slice e)) (hie:P.info? e=some ie) (hz:ie.zero=some zz) (hsmall:¬ k * ie.size > 2 ^ 24) (hpos:¬ k * ie.size=0)
    (h:Instr.fill (fun i=>some (i * ie.size,ie.size)) ((Array.range (k * ie.size)).map (zz.cells[· % zz.cells.size]!)) ps=some cells) (hs:cells.size=k * ie.size) (hk:k≤maxLen) :
    OpS P (opT vs (.buildSlice t k xs) ty) [] [] (fun b=>.slice (some ⟨b,0,none⟩) k k) (fun _=>[]) (fun b=>[rowO e size (.slice (some ⟨b,0,none⟩) k k) k cells.toList]):=by
  intro wb w H;subst hsz;have hb:Below w.heap.size w (w.alloc (.cells cells e)):=(Below.refl _ _).alloc (Nat.le_refl _) _;have hr:=run_buildSlice (P:=P) w t e k ps.toArray cells ie zz hu hie hz hsmall hpos h;refine ⟨w.heap.size,w.alloc (.cells cells e),_,?_,Or.inl rfl,(Kp.begin H).newC hb _ ?_ ?_⟩
  · unfold opT execOp
    simp only [hx,Sem.run_bind,hr,Result.andThen_ok,Sem.run_pure]
  · refine own_mk (xs:=cells.toList) ?_ (by simpa using hs) hk (Nat.zero_le _)
    simpa using heap_alloc_new w (.cells cells e)
  · intro j hj
    have hj:(Value.slice (some ⟨w.heap.size,0,none⟩) k k).ownBlock=some j:=hj;simp [Value.ownBlock] at hj
    omega
theorem gt_infoStr:(Tryz.prog.info? 9).map (fun i=>(i.zero,i.size,i.bytes))=some (some (.string ⟨#[]⟩),1,16):=by kernel_rfl
def stC (l:List ByteArray):List Value:=l.map Value.string
theorem st_at {w:World} {g:Nat} {l:List ByteArray} (h:CellsA w (some ⟨g,0,none⟩) (stC l)) {j:Nat} {t:ByteArray} (hj:l[j]? = some t):w.rangeAt g (0+j * 1) [.string t]:=fun k u hu=>by
  cases k with
  | zero =>
    simp only [List.getElem?_cons_zero,Option.some.injEq] at hu;subst hu;obtain ⟨b,o,e,hc⟩:=h j (.string t) (by unfold stC;rw [List.getElem?_map,hj];rfl);injection e with e
    injection e with e1 e2
    subst e1 e2;rw [Nat.mul_one];exact hc
  | succ k=>simp at hu
theorem own_one {w:World} {d e size:Nat} {xs:List Value} (h:(rowO e size (.slice (some ⟨d,0,none⟩) 1 1) 1 xs).is w):w.rangeAt d 0 xs:=fun j v hv=>by
  obtain ⟨b,o,e1,hc⟩:=own_cells (show w.ownsRow 0 e size _ 1 xs from h) j v hv;injection e1 with e1
  injection e1 with e1 e2
  subst e1 e2;exact hc
theorem gt_add {a b:Nat} (h:a≤5000) (h2:b≤4000000000000000000):Value.int .i64 (IntKind.i64.wrap ((a:Int)+(b:Int)))=.int .i64 ((a+b:Nat):Int):=by
  congr 1;rw [IntKind.wrap_i64];omega
theorem sub_at {w:World} {a:Option Addr} {l:List Sb} (h:CellsA w a (subCells l)) {j:Nat} {x:Sb} (hj:l[j]? = some x):∃ g o,a=some ⟨g,o,none⟩∧w.rangeAt g (o+j * 2) [.string x.1,.int .u8 (x.2:Int)]:=by
  obtain ⟨b,o,e,h2⟩:=CellsA.elem (g:=fun x:Sb=>[.string x.1,.int .u8 (x.2:Int)]) (m:=2) (fun _=>rfl) h hj (.string x.1) rfl;exact ⟨b,o,e,fun j v hv=>h2 j v hv⟩
set_option maxRecDepth 100000 in
set_option maxHeartbeats 4000000 in
theorem great17G {wb:World} {N cp:Nat} {n:Nt} {a:Option Addr} {c:Nat} {X:Chk} (hX:∀ w,Below wb.heap.size wb w→X.is w→w.rangeAt N 0 (ntCG (n,a,c))) (hS:∀ w,Below wb.heap.size wb w→X.is w→CellsA w a (subCells n.p.subs)) (hn:n.p.subs.length≤9223372036854775807):Spec Tryz.prog wb 33 #[.slice (some ⟨N,0,none⟩) 1 cp] [] [X] (fun _:Unit=>.bool (bigN n)) (fun _=>[]) (fun _=>[X]):=by
  obtain ⟨z,hz⟩:∃ z,bigN n=z:=⟨_,rfl⟩
  rw [hz];intro w H;refine en_call Tryz.func33 H ?_;obtain ⟨i0,hi,hz0,hz1,hz2⟩:=info_parts gt_infoStr;refine en E0 [.c,.c] ?_;refine en_loop (α:={k:Nat // k=0∨(k=1∧bigN n=false)}) (fun y=>2 - y.1) (fun y=>[(0,.slice (some ⟨N,0,none⟩) 1 cp),(3,.int .i64 (y.1:Int))]) (fun y=>[]) (fun y=>many [X]) ⟨0,Or.inl rfl⟩ (by kernel_rfl) ?_;intro ⟨k,hk⟩ J HJ;simp only at HJ
  rcases hk with rfl | ⟨rfl,hf⟩
  · refine en1 ⟨⟨[⟨N,0,ntCG (n,a,c)⟩],[]⟩,[(.bool (decide (((((0:Nat):Int)):Int) < (1:Int))),.bool true)],[⟨some ⟨N,0,none⟩,1,cp,.i64,0,35,⟨N,0,none⟩⟩],[],fun _ _ h=>⟨⟨hX _ h.hp.low (is_at h.hp.is 0 (c:=X) rfl),trivial⟩,trivial⟩,⟨dcT (by omega),trivial⟩,⟨⟨N,0,0,rfl,rfl,Nat.zero_lt_one,rfl⟩,trivial⟩,trivial⟩ (eC 3 [.f 0,.c,.c,.i 0,.c,.l 0 4,.n,.s 0 0]) fun P=>?_
    refine en ⟨⟨[⟨N,0,ntCG (n,a,c)⟩],[]⟩,[],[⟨some ⟨N,0,none⟩,1,cp,.i64,0,35,⟨N,0,none⟩⟩,⟨some ⟨N,0,none⟩,1,cp,.i64,0,35,⟨N,0,none⟩⟩,⟨some ⟨N,0,none⟩,1,cp,.i64,0,35,⟨N,0,none⟩⟩,⟨some ⟨N,0,none⟩,1,cp,.i64,0,35,⟨N,0,none⟩⟩],[],fun _ _ h=>⟨⟨hX _ h.hp.low (is_at h.hp.is 0 (c:=X) rfl),trivial⟩,trivial⟩,trivial,⟨⟨N,0,0,rfl,rfl,Nat.zero_lt_one,rfl⟩,⟨N,0,0,rfl,rfl,Nat.zero_lt_one,rfl⟩,⟨N,0,0,rfl,rfl,Nat.zero_lt_one,rfl⟩,⟨N,0,0,rfl,rfl,Nat.zero_lt_one,rfl⟩,trivial⟩,trivial⟩ [.g [(0,5,1),(0,6,1),(0,10,1),(0,12,1),(0,13,1),(0,18,1),(0,19,1),(0,23,1)] 1000 true,.d (eN 0 [.c,.c,.i 0,.c,.l 8 3,.c,.c,.i 1,.c,.l 8 32,.c,.c,.i 2,.c,.c,.l 8 28,.c,.c,.i 3,.c,.c,.l 8 29,.c,.l 0 0,.c,.l 1 0,.c,.l 2 0,.c,.c,.l 3 0,.c,.c,.l 4 0,.c,.l 5 0,.c,.l 6 0,.c,.l 7 0])] ?_;refine en_opsM (ops_list 35 9 35 12 #[(0,.tmp 0),(1,.tmp 1),(2,.tmp 2),(3,.tmp 3),(4,.tmp 4),(5,.tmp 5),(6,.tmp 6),(7,.tmp 7),(8,.tmp 8),(9,.tmp 9),(10,.tmp 10),(11,.tmp 11)] (stC (txN n)) ((List.range 12).zip (stC (txN n))) (stC (txN n)).toArray (by kernel_rfl) i0 _ hz1.symm Tryz.underlying35 hi hz0 (by rw [hz1];decide) (by rw [hz1];decide) (by rw [hz1];kernel_rfl) (by rw [hz1];rfl) (by unfold maxLen;decide)) [] [] [(0,5,1),(0,6,1),(0,10,1),(0,12,1),(0,13,1),(0,18,1),(0,19,1),(0,23,1)] ⟨[⟨N,0,ntCG (n,a,c)⟩],[]⟩ (fun _ _ h=>⟨⟨hX _ h.hp.low (is_at h.hp.is 1 (c:=X) rfl),trivial⟩,trivial⟩) (fun d=>?_);refine en (EO [⟨N,0,ntCG (n,a,c)⟩] (fun _ _ h=>⟨hX _ h.hp.low (is_at h.hp.is 1 (c:=X) rfl),trivial⟩) [] trivial) [.d (eN 41 [.c]),.c] ?_;refine en_loop (α:={j:Nat // ((txN n).take j).any (fun t=>decide (300 < t.size))=false}) (fun y=>12 - y.1) (fun y=>[(0,.slice (some ⟨N,0,none⟩) 1 cp),(3,.int .i64 ((0:Nat):Int)),(4,.pointer (some ⟨P,0,none⟩)),(5,.slice (some ⟨d,0,none⟩) 12 12),(6,.int .i64 (y.1:Int))]) (fun y=>[⟨P,(pkV n.p a c).toList,33⟩]) (fun y=>many [rowO 9 1 (.slice (some ⟨d,0,none⟩) 12 12) 12 (stC (txN n)).toArray.toList,X]) ⟨0,rfl⟩ (by kernel_rfl) ?_;intro ⟨j,hj⟩ J2 HJ2;simp only at HJ2
    rcases Nat.lt_or_ge j 12 with hlt | hlt
    · obtain ⟨t,ht⟩:∃ t,(txN n)[j]? = some t:=⟨_,List.getElem?_eq_getElem (show j < (txN n).length from hlt)⟩
      have htm:t ∈ txN n:=List.mem_of_getElem? ht;have e1:(txN n).take (j+1)=(txN n).take j++[t]:=by rw [List.take_add_one,ht];rfl
      by_cases hb:300 < t.size
      · refine en ⟨⟨[⟨d,0+j * 1,[.string t]⟩],[]⟩,[(.bool (decide ((((j:Int)):Int) < (12:Int))),.bool true),(.bool (decide (((((t).size:Int)):Int) > 300)),.bool true)],[⟨some ⟨d,0,none⟩,12,12,.i64,j,1,⟨d,0+j * 1,none⟩⟩],[],fun _ _ h=>⟨⟨st_at (own_cells (show World.ownsRow _ 0 9 1 _ 12 (stC (txN n)) from is_at h.hp.is 0 (c:=rowO 9 1 (.slice (some ⟨d,0,none⟩) 12 12) 12 (stC (txN n)).toArray.toList) rfl)) ht,trivial⟩,trivial⟩,⟨dcT (by omega),dcT (by omega),trivial⟩,⟨⟨d,0,j,rfl,rfl,hlt,rfl⟩,trivial⟩,trivial⟩ (eC 3 [.f 0,.c,.c,.i 0,.l 0 0,.c,.f 1,.c]) ?_
        have e2:z=true:=by rw [← hz];unfold bigN;rw [List.any_eq_true.2 ⟨t,htm,decide_eq_true (by omega)⟩];rfl
        subst e2;exact en_rets () [] [1] []
      · refine en ⟨⟨[⟨d,0+j * 1,[.string t]⟩],[]⟩,[(.bool (decide ((((j:Int)):Int) < (12:Int))),.bool true),(.bool (decide (((((t).size:Int)):Int) > 300)),.bool false),(.int .i64 (IntKind.i64.wrap ((j:Int)+1)),.int .i64 ((j+1:Nat):Int))],[⟨some ⟨d,0,none⟩,12,12,.i64,j,1,⟨d,0+j * 1,none⟩⟩],[],fun _ _ h=>⟨⟨st_at (own_cells (show World.ownsRow _ 0 9 1 _ 12 (stC (txN n)) from is_at h.hp.is 0 (c:=rowO 9 1 (.slice (some ⟨d,0,none⟩) 12 12) 12 (stC (txN n)).toArray.toList) rfl)) ht,trivial⟩,trivial⟩,⟨dcT (by omega),dcF (by omega),addI (by omega),trivial⟩,⟨⟨d,0,j,rfl,rfl,hlt,rfl⟩,trivial⟩,trivial⟩ (eC 3 [.f 0,.c,.c,.i 0,.l 0 0,.c,.f 1,.c,.f 2,.c]) ?_
        exact en_stopI (fun a w F HK=>HJ2 ⟨j+1,by rw [e1,List.any_append,hj];simp;omega⟩ a w (by show 12 - (j+1) < 12 - j;omega) F HK)
    have hj2:(txN n).any (fun t=>decide (300 < t.size))=false:=by rw [List.take_of_length_le (show (txN n).length≤j from hlt)] at hj;exact hj
    refine en (EF [(.bool (decide ((((j:Int)):Int) < (12:Int))),.bool false)] ⟨dcF (by omega),trivial⟩) (eC 3 [.f 0,.c]) ?_;refine en_drop [0] [1] ?_;refine en_loop (α:={j:Nat // (n.p.subs.take j).any (fun x=>decide (300 < x.1.size))=false∧j≤20∧j≤n.p.subs.length}) (fun y=>n.p.subs.length - y.1) (fun y=>[(0,.slice (some ⟨N,0,none⟩) 1 cp),(3,.int .i64 ((0:Nat):Int)),(4,.pointer (some ⟨P,0,none⟩)),(7,.int .i64 (y.1:Int))]) (fun y=>[⟨P,(pkV n.p a c).toList,33⟩]) (fun y=>many [X]) ⟨0,rfl,by decide,Nat.zero_le _⟩ (by kernel_rfl) ?_;intro ⟨j,hj3,hj4,hj5⟩ J3 HJ3;simp only at HJ3
    rcases Nat.lt_or_ge j n.p.subs.length with hlt | hlt
    · obtain ⟨x,hx⟩:∃ x,n.p.subs[j]? = some x:=⟨_,List.getElem?_eq_getElem hlt⟩
      have hxm:x ∈ n.p.subs:=List.mem_of_getElem? hx;have e1:n.p.subs.take (j+1)=n.p.subs.take j++[x]:=by rw [List.take_add_one,hx];rfl
      refine en_factK (p:=∃ g o,a=some ⟨g,o,none⟩) (fun w h=>by obtain ⟨g,o,h1,_⟩:=sub_at (hS w h.hp.low (is_at h.hp.is 0 (c:=X) rfl)) hx;exact ⟨g,o,h1⟩) ?_;rintro ⟨g,o,rfl⟩;have HR:∀ w,Below wb.heap.size wb w→X.is w→w.rangeAt g (o+j * 2) [.string x.1,.int .u8 (x.2:Int)]:=fun w h1 h2=>by
        obtain ⟨g',o',h3,h4⟩:=sub_at (hS w h1 h2) hx;injection h3 with h3
        injection h3 with h3 h5
        subst h3 h5;exact h4
      by_cases hb:300 < x.1.size
      · refine en ⟨⟨[⟨g,o+j * 2,[.string x.1,.int .u8 (x.2:Int)]⟩],[]⟩,[(.bool (decide ((((j:Int)):Int) < (n.p.subs.length:Int))),.bool true),(.bool (decide (((((x.1).size:Int)):Int) > 300)),.bool true)],[⟨some ⟨g,o,none⟩,n.p.subs.length,c,.i64,j,2,⟨g,o+j * 2,none⟩⟩],[],fun _ _ h=>⟨⟨HR _ h.hp.low (is_at h.hp.is 0 (c:=X) rfl),trivial⟩,trivial⟩,⟨dcT (by omega),dcT (by omega),trivial⟩,⟨⟨g,o,j,rfl,rfl,hlt,rfl⟩,trivial⟩,trivial⟩ (.c::.c::.b 0 22::.c::.f 0::.c::.b 0 22::.c::.i 0::.c::.l 0 0::.c::.f 1::eC 5 []) ?_
        have e2:z=true:=by rw [← hz];unfold bigN;rw [List.any_eq_true.2 ⟨x,hxm,decide_eq_true (by omega)⟩];simp
        subst e2;exact en_rets () [] [0] []
      by_cases hb2:20≤j
      · refine en ⟨⟨[⟨g,o+j * 2,[.string x.1,.int .u8 (x.2:Int)]⟩],[]⟩,[(.bool (decide ((((j:Int)):Int) < (n.p.subs.length:Int))),.bool true),(.bool (decide (((((x.1).size:Int)):Int) > 300)),.bool false),(.bool (decide ((((j:Int)):Int) ≥ 20)),.bool true)],[⟨some ⟨g,o,none⟩,n.p.subs.length,c,.i64,j,2,⟨g,o+j * 2,none⟩⟩],[],fun _ _ h=>⟨⟨HR _ h.hp.low (is_at h.hp.is 0 (c:=X) rfl),trivial⟩,trivial⟩,⟨dcT (by omega),dcF (by omega),dcT (by omega),trivial⟩,⟨⟨g,o,j,rfl,rfl,hlt,rfl⟩,trivial⟩,trivial⟩ [.c,.c,.b 0 22,.c,.f 0,.c,.b 0 22,.c,.i 0,.c,.l 0 0,.c,.f 1,.c,.c,.f 2,.c,.c] ?_
        have e2:z=true:=by rw [← hz];unfold bigN;rw [decide_eq_true (show 20 < n.p.subs.length by omega)];simp
        subst e2;exact en_rets () [] [0] []
      refine en ⟨⟨[⟨g,o+j * 2,[.string x.1,.int .u8 (x.2:Int)]⟩],[]⟩,[(.bool (decide ((((j:Int)):Int) < (n.p.subs.length:Int))),.bool true),(.bool (decide (((((x.1).size:Int)):Int) > 300)),.bool false),(.bool (decide ((((j:Int)):Int) ≥ 20)),.bool false),(.int .i64 (IntKind.i64.wrap ((j:Int)+1)),.int .i64 ((j+1:Nat):Int))],[⟨some ⟨g,o,none⟩,n.p.subs.length,c,.i64,j,2,⟨g,o+j * 2,none⟩⟩],[],fun _ _ h=>⟨⟨HR _ h.hp.low (is_at h.hp.is 0 (c:=X) rfl),trivial⟩,trivial⟩,⟨dcT (by omega),dcF (by omega),dcF (by omega),addI (by omega),trivial⟩,⟨⟨g,o,j,rfl,rfl,hlt,rfl⟩,trivial⟩,trivial⟩ [.c,.c,.b 0 22,.c,.f 0,.c,.b 0 22,.c,.i 0,.c,.l 0 0,.c,.f 1,.c,.c,.f 2,.c,.c,.f 3,.c] ?_;exact en_stopI (fun a w F HK=>HJ3 ⟨j+1,by rw [e1,List.any_append,hj3];simp;omega,by omega,by omega⟩ a w (by show n.p.subs.length - (j+1) < n.p.subs.length - j;omega) F HK)
    have hj6:n.p.subs.any (fun x=>decide (300 < x.1.size))=false:=by rw [List.take_of_length_le hlt] at hj3;exact hj3
    refine en (EF [(.bool (decide ((((j:Int)):Int) < (n.p.subs.length:Int))),.bool false),(.int .i64 (IntKind.i64.wrap (((0:Nat):Int)+1)),.int .i64 ((0+1:Nat):Int))] ⟨dcF (by omega),addI (k:=0) (by decide),trivial⟩) [.c,.c,.b 0 22,.c,.f 0,.c,.f 1,.c] ?_;refine en_drop [] [0] ?_;exact en_stopI (fun a w F HK=>HJ ⟨1,Or.inr ⟨rfl,by unfold bigN;rw [hj2,hj6,decide_eq_false (by omega)];rfl⟩⟩ a w (by show 2 - 1 < 2 - 0;decide) F HK)
  · refine en (EF [(.bool (decide (((((1:Nat):Int)):Int) < (1:Int))),.bool false),(.bool (decide ((((1:Int)):Int) > 60)),.bool false)] ⟨dcF (by omega),dcF (by omega),trivial⟩) (eC 3 [.f 0,.c,.c,.f 1,.c]) ?_
    have e1:z=false:=by rw [← hz];exact hf
    subst e1;exact en_rets () [] [0] []
structure Ac where
  d:Nat
  cn:Int
  now:Int
  bs:ByteArray
  it:Im
def acR (a:Ac):List Value:=[.int .u8 (a.d:Int),.int .i64 a.cn,.int .i64 a.now,.string a.bs]++itR a.it
def acCs (l:List Ac):List Value:=l.flatMap acR
theorem acR_len (a:Ac):(acR a).length=42:=rfl
theorem ac_range {w:World} {al:Option Addr} {l:List Ac} (h:CellsA w al (acCs l)) {k:Nat} {x:Ac} (hx:l[k]? = some x):∃ b o,al=some ⟨b,o,none⟩∧w.rangeAt b (o+k * 42) (acR x):=by
  obtain ⟨b,o,e,hj⟩:=CellsA.elem acR_len h hx (.int .u8 (x.d:Int)) rfl;exact ⟨b,o,e,fun j v hv=>hj j v hv⟩
def notP (p:Pk):Nt:={ Nt.zero with p:=p }
def badP (l:List PkE):Bool:=l.any fun p=>bigN (notP p.1)
def badA (n:Nat) (a:Ac):Bool:=decide (2000 < a.bs.size) || (decide (5000 < n+a.bs.size) || (decide (300 < a.it.cl.size) || (decide (10 < a.it.ps.length) || badP a.it.ps)))
def badL:Nat→List Ac→Bool
  | _,[]=>false
  | n,a::l=>badA n a || badL (n+a.bs.size) l
def sumL (l:List Ac):Nat:=(l.map fun a=>a.bs.size).sum
def big20 (l:List Ac):Bool:=badL 0 l || decide (100 < l.length)
theorem badL_snoc:∀ (l:List Ac) (n:Nat) (a:Ac),badL n (l++[a])=(badL n l || badA (n+sumL l) a)
  | [],n,a=>by show (badA n a || false)=(false || badA (n+0) a);simp
  | x::l,n,a=>by
    show (badA n x || badL (n+x.bs.size) (l++[a]))=((badA n x || badL (n+x.bs.size) l) || badA (n+sumL (x::l)) a)
    rw [badL_snoc l,Bool.or_assoc,show n+sumL (x::l)=n+x.bs.size+sumL l by unfold sumL;rw [List.map_cons,List.sum_cons];omega]
theorem badL_pre:∀ (l r:List Ac) (n:Nat),badL n l=true→badL n (l++r)=true
  | x::l,r,n,h=>by
    show (badA n x || badL (n+x.bs.size) (l++r))=true;rw [Bool.or_eq_true];rcases Bool.or_eq_true _ _ ▸ (show (badA n x || badL (n+x.bs.size) l)=true from h) with h | h
    · exact Or.inl h
    · exact Or.inr (badL_pre l r _ h)
theorem badL_sum:∀ (l:List Ac) (n:Nat),n≤5000→badL n l=false→n+sumL l≤5000
  | [],n,h,_=>h
  | x::l,n,_,h=>by
    obtain ⟨h1,h2⟩:=Bool.or_eq_false_iff.1 (show (badA n x || badL (n+x.bs.size) l)=false from h);have h3:n+x.bs.size≤5000:=by
      unfold badA at h1;simp only [Bool.or_eq_false_iff,decide_eq_false_iff_not] at h1;omega
    have h4:=badL_sum l _ h3 h2;show n+(x.bs.size+sumL l)≤5000;omega
structure AcIn (w:World) (a:Ac):Prop where
  row:CellsA w a.it.pk (pkCells a.it.ps)
  each:∀ p ∈ a.it.ps,CellsA w p.2.1 (subCells p.1.subs)
  ok:∀ p ∈ a.it.ps,p.1.subs.length≤9223372036854775807
set_option maxRecDepth 100000 in
set_option maxHeartbeats 4000000 in
theorem great20 {wb:World} {al:Option Addr} {cap:Nat} {xs:List Ac} {X:Chk} (hX:∀ w,Below wb.heap.size wb w→X.is w→CellsA w al (acCs xs)∧∀ a ∈ xs,AcIn w a) (hn:xs.length≤9223372036854775807):Spec Tryz.prog wb 11 #[.slice al xs.length cap] [] [X] (fun _:Unit=>.bool (big20 xs)) (fun _=>[]) (fun _=>[X]):=by
  obtain ⟨z,hz⟩:∃ z,big20 xs=z:=⟨_,rfl⟩
  rw [hz];intro w H;refine en_call Tryz.func11 H ?_;obtain ⟨i0,hi,hz0,hz1,hz2⟩:=info_parts gt_infoNt;refine en E0 (eC 3 []) ?_;refine en_loop (α:={k:Nat // badL 0 (xs.take k)=false}) (fun y=>xs.length - y.1) (fun y=>[(0,.slice al xs.length cap),(3,.int .i64 ((sumL (xs.take y.1):Nat):Int)),(4,.int .i64 (y.1:Int))]) (fun y=>[]) (fun y=>many [X]) ⟨0,rfl⟩ (by kernel_rfl) ?_;intro ⟨k,hb⟩ J HJ;simp only at HJ
  rcases Nat.lt_or_ge k xs.length with hk | hk
  · obtain ⟨q,hq⟩:∃ q,xs[k]? = some q:=⟨_,List.getElem?_eq_getElem hk⟩
    have hqm:q ∈ xs:=List.mem_of_getElem? hq;have ht:xs.take (k+1)=xs.take k++[q]:=by rw [List.take_add_one,hq];rfl
    have hs:=badL_sum _ 0 (by decide) hb;have hsum:sumL (xs.take (k+1))=sumL (xs.take k)+q.bs.size:=by rw [ht];unfold sumL;rw [List.map_append,List.sum_append];simp
    have hbad:badA (sumL (xs.take k)) q=true→z=true:=fun h=>by
      rw [← hz];unfold big20;rw [show xs=xs.take (k+1)++xs.drop (k+1) from (List.take_append_drop _ _).symm,badL_pre _ _ _ (by rw [ht,badL_snoc,hb,Nat.zero_add,h];rfl)];rfl
    refine en_factK (p:=∃ g o,al=some ⟨g,o,none⟩) (fun w h=>by obtain ⟨g,o,h1,_⟩:=ac_range (hX w h.hp.low (is_at h.hp.is 0 (c:=X) rfl)).1 hq;exact ⟨g,o,h1⟩) ?_;rintro ⟨g,o,rfl⟩;have HR:∀ w,Below wb.heap.size wb w→X.is w→w.rangeAt g (o+k * 42) (acR q):=fun w h1 h2=>by
      obtain ⟨g',o',h3,h4⟩:=ac_range (hX w h1 h2).1 hq;injection h3 with h3
      injection h3 with h3 h5
      subst h3 h5;exact h4
    have HA:∀ w,Below wb.heap.size wb w→X.is w→AcIn w q:=fun w h1 h2=>(hX w h1 h2).2 q hqm
    by_cases b1:2000 < q.bs.size
    · refine en ⟨⟨[⟨g,o+k * 42,acR q⟩],[]⟩,[(.bool (decide ((((k:Int)):Int) < (xs.length:Int))),.bool true),(.bool (decide (((((q.bs).size:Int)):Int) > 2000)),.bool true)],[⟨some ⟨g,o,none⟩,xs.length,cap,.i64,k,42,⟨g,o+k * 42,none⟩⟩,⟨some ⟨g,o,none⟩,xs.length,cap,.i64,k,42,⟨g,o+k * 42,none⟩⟩],[],fun _ _ h=>⟨⟨HR _ h.hp.low (is_at h.hp.is 0 (c:=X) rfl),trivial⟩,trivial⟩,⟨dcT (by omega),dcT (by omega),trivial⟩,⟨⟨g,o,k,rfl,rfl,hk,rfl⟩,⟨g,o,k,rfl,rfl,hk,rfl⟩,trivial⟩,trivial⟩ (eC 3 (.f 0::eC 3 (.i 0::.c::.l 0 3::eC 5 (.i 1::.c::.l 0 3::.c::.f 1::eC 25 [])))) ?_
      have e2:=hbad (by unfold badA;simp only [Bool.or_eq_true,decide_eq_true_eq];exact Or.inl b1);subst e2;exact en_rets () [] [0] []
    by_cases b2:5000 < sumL (xs.take (k+1))
    · refine en ⟨⟨[⟨g,o+k * 42,acR q⟩],[]⟩,[(.bool (decide ((((k:Int)):Int) < (xs.length:Int))),.bool true),(.int .i64 (IntKind.i64.wrap (((sumL (xs.take k):Nat):Int)+(q.bs.size:Int))),.int .i64 ((sumL (xs.take (k+1)):Nat):Int)),(.bool (decide (((((q.bs).size:Int)):Int) > 2000)),.bool false),(.bool (decide (((((sumL (xs.take (k+1)):Nat):Int)):Int) > 5000)),.bool true)],[⟨some ⟨g,o,none⟩,xs.length,cap,.i64,k,42,⟨g,o+k * 42,none⟩⟩,⟨some ⟨g,o,none⟩,xs.length,cap,.i64,k,42,⟨g,o+k * 42,none⟩⟩],[],fun _ _ h=>⟨⟨HR _ h.hp.low (is_at h.hp.is 0 (c:=X) rfl),trivial⟩,trivial⟩,⟨dcT (by omega),by rw [hsum];exact gt_add (by omega) (by omega),dcF (by omega),dcT (by omega),trivial⟩,⟨⟨g,o,k,rfl,rfl,hk,rfl⟩,⟨g,o,k,rfl,rfl,hk,rfl⟩,trivial⟩,trivial⟩ (eC 3 (.f 0::eC 3 (.i 0::.c::.l 0 3::.c::.f 1::eC 3 (.i 1::.c::.l 0 3::.c::.f 2::.c::.c::.f 3::eC 22 [])))) ?_
      have e2:=hbad (by unfold badA;simp only [Bool.or_eq_true,decide_eq_true_eq];exact Or.inr (Or.inl (by omega)));subst e2;exact en_rets () [] [0] []
    by_cases b3:300 < q.it.cl.size
    · refine en ⟨⟨[⟨g,o+k * 42,acR q⟩],[]⟩,[(.bool (decide ((((k:Int)):Int) < (xs.length:Int))),.bool true),(.int .i64 (IntKind.i64.wrap (((sumL (xs.take k):Nat):Int)+(q.bs.size:Int))),.int .i64 ((sumL (xs.take (k+1)):Nat):Int)),(.bool (decide (((((q.bs).size:Int)):Int) > 2000)),.bool false),(.bool (decide (((((sumL (xs.take (k+1)):Nat):Int)):Int) > 5000)),.bool false),(.bool (decide (((((q.it.cl).size:Int)):Int) > 300)),.bool true)],[⟨some ⟨g,o,none⟩,xs.length,cap,.i64,k,42,⟨g,o+k * 42,none⟩⟩,⟨some ⟨g,o,none⟩,xs.length,cap,.i64,k,42,⟨g,o+k * 42,none⟩⟩,⟨some ⟨g,o,none⟩,xs.length,cap,.i64,k,42,⟨g,o+k * 42,none⟩⟩],[],fun _ _ h=>⟨⟨HR _ h.hp.low (is_at h.hp.is 0 (c:=X) rfl),trivial⟩,trivial⟩,⟨dcT (by omega),by rw [hsum];exact gt_add (by omega) (by omega),dcF (by omega),dcF (by omega),dcT (by omega),trivial⟩,⟨⟨g,o,k,rfl,rfl,hk,rfl⟩,⟨g,o,k,rfl,rfl,hk,rfl⟩,⟨g,o,k,rfl,rfl,hk,rfl⟩,trivial⟩,trivial⟩ (eC 3 (.f 0::eC 3 (.i 0::.c::.l 0 3::.c::.f 1::eC 3 (.i 1::.c::.l 0 3::.c::.f 2::.c::.c::.f 3::eC 4 (.i 2::.c::.c::.l 0 7::.c::.f 4::eC 12 []))))) ?_
      have e2:=hbad (by unfold badA;simp only [Bool.or_eq_true,decide_eq_true_eq];exact Or.inr (Or.inr (Or.inl b3)));subst e2;exact en_rets () [] [0] []
    by_cases b4:10 < q.it.ps.length
    · refine en ⟨⟨[⟨g,o+k * 42,acR q⟩],[]⟩,[(.bool (decide ((((k:Int)):Int) < (xs.length:Int))),.bool true),(.int .i64 (IntKind.i64.wrap (((sumL (xs.take k):Nat):Int)+(q.bs.size:Int))),.int .i64 ((sumL (xs.take (k+1)):Nat):Int)),(.bool (decide (((((q.bs).size:Int)):Int) > 2000)),.bool false),(.bool (decide (((((sumL (xs.take (k+1)):Nat):Int)):Int) > 5000)),.bool false),(.bool (decide (((((q.it.cl).size:Int)):Int) > 300)),.bool false),(.bool (decide ((((q.it.ps.length:Int)):Int) > 10)),.bool true)],[⟨some ⟨g,o,none⟩,xs.length,cap,.i64,k,42,⟨g,o+k * 42,none⟩⟩,⟨some ⟨g,o,none⟩,xs.length,cap,.i64,k,42,⟨g,o+k * 42,none⟩⟩,⟨some ⟨g,o,none⟩,xs.length,cap,.i64,k,42,⟨g,o+k * 42,none⟩⟩,⟨some ⟨g,o,none⟩,xs.length,cap,.i64,k,42,⟨g,o+k * 42,none⟩⟩],[],fun _ _ h=>⟨⟨HR _ h.hp.low (is_at h.hp.is 0 (c:=X) rfl),trivial⟩,trivial⟩,⟨dcT (by omega),by rw [hsum];exact gt_add (by omega) (by omega),dcF (by omega),dcF (by omega),dcF (by omega),dcT (by omega),trivial⟩,⟨⟨g,o,k,rfl,rfl,hk,rfl⟩,⟨g,o,k,rfl,rfl,hk,rfl⟩,⟨g,o,k,rfl,rfl,hk,rfl⟩,⟨g,o,k,rfl,rfl,hk,rfl⟩,trivial⟩,trivial⟩ (eC 3 (.f 0::eC 3 (.i 0::.c::.l 0 3::.c::.f 1::eC 3 (.i 1::.c::.l 0 3::.c::.f 2::.c::.c::.f 3::eC 4 (.i 2::.c::.c::.l 0 7::.c::.f 4::eC 4 [.i 3,.c,.c,.l 0 39,.c,.f 5,.c,.c]))))) ?_
      have e2:=hbad (by unfold badA;simp only [Bool.or_eq_true,decide_eq_true_eq];exact Or.inr (Or.inr (Or.inr (Or.inl b4))));subst e2;exact en_rets () [] [0] []
    refine en ⟨⟨[⟨g,o+k * 42,acR q⟩],[]⟩,[(.bool (decide ((((k:Int)):Int) < (xs.length:Int))),.bool true),(.int .i64 (IntKind.i64.wrap (((sumL (xs.take k):Nat):Int)+(q.bs.size:Int))),.int .i64 ((sumL (xs.take (k+1)):Nat):Int)),(.bool (decide (((((q.bs).size:Int)):Int) > 2000)),.bool false),(.bool (decide (((((sumL (xs.take (k+1)):Nat):Int)):Int) > 5000)),.bool false),(.bool (decide (((((q.it.cl).size:Int)):Int) > 300)),.bool false),(.bool (decide ((((q.it.ps.length:Int)):Int) > 10)),.bool false)],[⟨some ⟨g,o,none⟩,xs.length,cap,.i64,k,42,⟨g,o+k * 42,none⟩⟩,⟨some ⟨g,o,none⟩,xs.length,cap,.i64,k,42,⟨g,o+k * 42,none⟩⟩,⟨some ⟨g,o,none⟩,xs.length,cap,.i64,k,42,⟨g,o+k * 42,none⟩⟩,⟨some ⟨g,o,none⟩,xs.length,cap,.i64,k,42,⟨g,o+k * 42,none⟩⟩],[],fun _ _ h=>⟨⟨HR _ h.hp.low (is_at h.hp.is 0 (c:=X) rfl),trivial⟩,trivial⟩,⟨dcT (by omega),by rw [hsum];exact gt_add (by omega) (by omega),dcF (by omega),dcF (by omega),dcF (by omega),dcF (by omega),trivial⟩,⟨⟨g,o,k,rfl,rfl,hk,rfl⟩,⟨g,o,k,rfl,rfl,hk,rfl⟩,⟨g,o,k,rfl,rfl,hk,rfl⟩,⟨g,o,k,rfl,rfl,hk,rfl⟩,trivial⟩,trivial⟩ (eC 3 (.f 0::eC 3 (.i 0::.c::.l 0 3::.c::.f 1::eC 3 (.i 1::.c::.l 0 3::.c::.f 2::.c::.c::.f 3::eC 4 (.i 2::.c::.c::.l 0 7::.c::.f 4::eC 4 [.i 3,.c,.c,.l 0 39,.c,.f 5,.c,.c]))))) ?_;refine en_loop (α:={j:Nat // badP (q.it.ps.take j)=false}) (fun y=>q.it.ps.length - y.1) (fun y=>[(0,.slice (some ⟨g,o,none⟩) xs.length cap),(3,.int .i64 ((sumL (xs.take (k+1)):Nat):Int)),(4,.int .i64 (k:Int)),(5,.int .i64 (y.1:Int))]) (fun y=>[]) (fun y=>many [X]) ⟨0,rfl⟩ (by kernel_rfl) ?_;intro ⟨j,hj⟩ J2 HJ2;simp only at HJ2
    rcases Nat.lt_or_ge j q.it.ps.length with hl | hl
    · obtain ⟨p,hp⟩:∃ p,q.it.ps[j]? = some p:=⟨_,List.getElem?_eq_getElem hl⟩
      have hpm:p ∈ q.it.ps:=List.mem_of_getElem? hp;have ht2:q.it.ps.take (j+1)=q.it.ps.take j++[p]:=by rw [List.take_add_one,hp];rfl
      refine en_factK (p:=∃ gp op,q.it.pk=some ⟨gp,op,none⟩) (fun w h=>by obtain ⟨g,o,h1,_⟩:=pk_range (HA w h.hp.low (is_at h.hp.is 0 (c:=X) rfl)).row hp;exact ⟨g,o,h1⟩) ?_;rintro ⟨gp,op,hpk⟩;refine en_factK (p:=p.1.subs.length≤9223372036854775807) (fun w h=>(HA w h.hp.low (is_at h.hp.is 0 (c:=X) rfl)).ok p hpm) ?_;rintro hfew;have HP:∀ w,Below wb.heap.size wb w→X.is w→w.rangeAt gp (op+j * 24) (pkC p):=fun w h1 h2=>by
        obtain ⟨g',o',h3,h4,_⟩:=pk_range (HA w h1 h2).row hp;rw [hpk] at h3;injection h3 with h3
        injection h3 with h3 h5
        subst h3 h5;exact h4
      have HS:∀ w,Below wb.heap.size wb w→X.is w→CellsA w p.2.1 (subCells p.1.subs):=fun w h1 h2=>(HA w h1 h2).each p hpm
      have HR3:∀ w,Below wb.heap.size wb w→X.is w→w.rangeAt g (o+k * 42) [.int .u8 (q.d:Int),.int .i64 q.cn,.int .i64 q.now,.string q.bs,.int .u8 (q.it.k:Int),.int .i64 q.it.op,.int .i64 q.it.cn,.string q.it.cl,.string q.it.fl,.int .u8 (q.it.p.ty:Int),.bool q.it.p.dup,.int .u8 (q.it.p.qos:Int),.bool q.it.p.ret,.int .u16 (q.it.p.id:Int),.string q.it.p.topic,.string q.it.p.payload,.int .u8 (q.it.p.level:Int),.bool q.it.p.clean,.int .u16 (q.it.p.keep:Int),.string q.it.p.client,.bool q.it.p.hasWill,.string q.it.p.wtopic,.string q.it.p.wpayload,.int .u8 (q.it.p.wqos:Int),.bool q.it.p.wret,.bool q.it.p.hasUser,.bool q.it.p.hasPass,.string q.it.p.user,.string q.it.p.pass,.bool q.it.p.present,.int .u8 (q.it.p.code:Int),.slice q.it.pa q.it.p.subs.length q.it.pc,.string q.it.p.codes,.string q.it.ms.topic,.string q.it.ms.payload,.int .u8 (q.it.ms.qos:Int),.bool q.it.ms.ret,.slice q.it.a1 q.it.n1 q.it.c1,.slice q.it.a2 q.it.n2 q.it.c2,.slice (some ⟨gp,op,none⟩) q.it.ps.length q.it.cap,.int .i64 q.it.fr,.int .i64 q.it.mn]:=fun w h1 h2=>by have h3:=HR w h1 h2;unfold acR itR at h3;rw [hpk] at h3;exact h3
      refine en ⟨⟨[⟨g,o+k * 42,[.int .u8 (q.d:Int),.int .i64 q.cn,.int .i64 q.now,.string q.bs,.int .u8 (q.it.k:Int),.int .i64 q.it.op,.int .i64 q.it.cn,.string q.it.cl,.string q.it.fl,.int .u8 (q.it.p.ty:Int),.bool q.it.p.dup,.int .u8 (q.it.p.qos:Int),.bool q.it.p.ret,.int .u16 (q.it.p.id:Int),.string q.it.p.topic,.string q.it.p.payload,.int .u8 (q.it.p.level:Int),.bool q.it.p.clean,.int .u16 (q.it.p.keep:Int),.string q.it.p.client,.bool q.it.p.hasWill,.string q.it.p.wtopic,.string q.it.p.wpayload,.int .u8 (q.it.p.wqos:Int),.bool q.it.p.wret,.bool q.it.p.hasUser,.bool q.it.p.hasPass,.string q.it.p.user,.string q.it.p.pass,.bool q.it.p.present,.int .u8 (q.it.p.code:Int),.slice q.it.pa q.it.p.subs.length q.it.pc,.string q.it.p.codes,.string q.it.ms.topic,.string q.it.ms.payload,.int .u8 (q.it.ms.qos:Int),.bool q.it.ms.ret,.slice q.it.a1 q.it.n1 q.it.c1,.slice q.it.a2 q.it.n2 q.it.c2,.slice (some ⟨gp,op,none⟩) q.it.ps.length q.it.cap,.int .i64 q.it.fr,.int .i64 q.it.mn]⟩,⟨gp,op+j * 24,pkC p⟩],[]⟩,[(.bool (decide ((((j:Int)):Int) < (q.it.ps.length:Int))),.bool true)],[⟨some ⟨g,o,none⟩,xs.length,cap,.i64,k,42,⟨g,o+k * 42,none⟩⟩,⟨some ⟨g,o,none⟩,xs.length,cap,.i64,k,42,⟨g,o+k * 42,none⟩⟩,⟨some ⟨gp,op,none⟩,q.it.ps.length,q.it.cap,.i64,j,24,⟨gp,op+j * 24,none⟩⟩],[],fun _ _ h=>⟨⟨HR3 _ h.hp.low (is_at h.hp.is 0 (c:=X) rfl),HP _ h.hp.low (is_at h.hp.is 0 (c:=X) rfl),trivial⟩,trivial⟩,⟨dcT (by omega),trivial⟩,⟨⟨g,o,k,rfl,rfl,hk,rfl⟩,⟨g,o,k,rfl,rfl,hk,rfl⟩,⟨gp,op,j,rfl,rfl,hl,rfl⟩,trivial⟩,trivial⟩ (eC 3 [.i 0,.c,.c,.l 0 39,.c,.f 0,.c,.c,.i 1,.c,.c,.l 0 39,.c,.i 2,.l 1 0,.c]) ?_;refine en_ops (ops_one 61 85 61 (.agg (ntV (notP p.1) p.2.1 p.2.2)) (ntV (notP p.1) p.2.1 p.2.2) rfl i0 _ hz1.symm Tryz.underlying61 hi hz0 (by rw [hz1];decide) (by rw [hz1];decide) (by rw [hz1];kernel_rfl) (by rw [hz1];rfl)) [] [] [] (fun d=>?_);skip;cases hbp:bigN (notP p.1)
      · have HG:=great17G (wb:=wb) (N:=d) (cp:=1) (n:=notP p.1) (a:=p.2.1) (c:=p.2.2) (X:=many [rowO 85 35 (.slice (some ⟨d,0,none⟩) 1 1) 1 (ntV (notP p.1) p.2.1 p.2.2).toList,X]) (fun w h1 h2=>own_one (is_at h2 0 (c:=rowO 85 35 (.slice (some ⟨d,0,none⟩) 1 1) 1 (ntV (notP p.1) p.2.1 p.2.2).toList) rfl)) (fun w h1 h2=>HS w h1 (is_at h2 1 (c:=X) rfl)) hfew
        rw [hbp] at HG;refine en_pack [0,0] (many [rowO 85 35 (.slice (some ⟨d,0,none⟩) 1 1) 1 (ntV (notP p.1) p.2.1 p.2.2).toList,X]) _ ?_;refine en_spec0 (HG) [] [0] [] ?_;refine en_unpack 0 (many [rowO 85 35 (.slice (some ⟨d,0,none⟩) 1 1) 1 (ntV (notP p.1) p.2.1 p.2.2).toList,X]) _ ?_;refine en (EF [(.int .i64 (IntKind.i64.wrap ((j:Int)+1)),.int .i64 ((j+1:Nat):Int))] ⟨addI (by omega),trivial⟩) [.c,.f 0,.c] ?_;refine en_drop [] [1] ?_;exact en_stopI (fun a w F HK=>HJ2 ⟨j+1,by unfold badP at hj ⊢;rw [ht2,List.any_append,hj];simp [hbp]⟩ a w (by show q.it.ps.length - (j+1) < q.it.ps.length - j;omega) F HK)
      · have HG:=great17G (wb:=wb) (N:=d) (cp:=1) (n:=notP p.1) (a:=p.2.1) (c:=p.2.2) (X:=many [rowO 85 35 (.slice (some ⟨d,0,none⟩) 1 1) 1 (ntV (notP p.1) p.2.1 p.2.2).toList,X]) (fun w h1 h2=>own_one (is_at h2 0 (c:=rowO 85 35 (.slice (some ⟨d,0,none⟩) 1 1) 1 (ntV (notP p.1) p.2.1 p.2.2).toList) rfl)) (fun w h1 h2=>HS w h1 (is_at h2 1 (c:=X) rfl)) hfew
        rw [hbp] at HG;refine en_pack [0,0] (many [rowO 85 35 (.slice (some ⟨d,0,none⟩) 1 1) 1 (ntV (notP p.1) p.2.1 p.2.2).toList,X]) _ ?_;refine en_spec0 (HG) [] [0] [] ?_;refine en_unpack 0 (many [rowO 85 35 (.slice (some ⟨d,0,none⟩) 1 1) 1 (ntV (notP p.1) p.2.1 p.2.2).toList,X]) _ ?_;refine en E0 [.c] ?_;have e2:=hbad (by unfold badA badP;rw [List.any_eq_true.2 ⟨p,hpm,hbp⟩];simp);subst e2;exact en_rets () [] [1] []
    have hj2:badP q.it.ps=false:=by rw [List.take_of_length_le hl] at hj;exact hj
    refine en ⟨⟨[⟨g,o+k * 42,acR q⟩],[]⟩,[(.bool (decide ((((j:Int)):Int) < (q.it.ps.length:Int))),.bool false),(.int .i64 (IntKind.i64.wrap ((k:Int)+1)),.int .i64 ((k+1:Nat):Int))],[⟨some ⟨g,o,none⟩,xs.length,cap,.i64,k,42,⟨g,o+k * 42,none⟩⟩],[],fun _ _ h=>⟨⟨HR _ h.hp.low (is_at h.hp.is 0 (c:=X) rfl),trivial⟩,trivial⟩,⟨dcF (by omega),addI (by omega),trivial⟩,⟨⟨g,o,k,rfl,rfl,hk,rfl⟩,trivial⟩,trivial⟩ (eC 3 [.i 0,.c,.c,.l 0 39,.c,.f 0,.c,.f 1,.c]) ?_;exact en_stopI (fun a w F HK=>HJ ⟨k+1,by rw [ht,badL_snoc,hb,Nat.zero_add];unfold badA;rw [decide_eq_false b1,decide_eq_false (by omega),decide_eq_false b3,decide_eq_false b4,hj2];rfl⟩ a w (by show xs.length - (k+1) < xs.length - k;omega) F HK)
  · have e1:xs.take k=xs:=List.take_of_length_le hk
    rw [e1] at hb;by_cases h100:100 < xs.length
    · refine en (EF [(.bool (decide ((((k:Int)):Int) < (xs.length:Int))),.bool false),(.bool (decide ((((xs.length:Int)):Int) > 100)),.bool true)] ⟨dcF (by omega),dcT (by omega),trivial⟩) (eC 3 [.f 0,.c,.c,.f 1,.c]) ?_
      have e2:z=true:=by rw [← hz];unfold big20;rw [decide_eq_true h100];simp
      subst e2;exact en_rets () [] [0] []
    · refine en (EF [(.bool (decide ((((k:Int)):Int) < (xs.length:Int))),.bool false),(.bool (decide ((((xs.length:Int)):Int) > 100)),.bool false)] ⟨dcF (by omega),dcF (by omega),trivial⟩) (eC 3 [.f 0,.c,.c,.f 1,.c]) ?_
      have e2:z=false:=by rw [← hz];unfold big20;rw [hb,decide_eq_false h100];rfl
      subst e2;exact en_rets () [] [0] []
end Go.Proofs.YtehpihmgjbmoaaaGreatDoor
