import Derived.Test.YtehpihmgjbmoaaaGreatDoorJoinQB
import Derived.Test.YtehpihmgjbmoaaaGreatDoorJoinZI
import Derived.Test.YtehpihmgjbmoaaaGreatDoorJoinZC
import Derived.Test.YtehpihmgjbmoaaaGreatDoorJoinZA
namespace Go.Proofs.YtehpihmgjbmoaaaGreatDoor
open Go.RowKit
attribute [local irreducible] Ok
set_option maxRecDepth 100000 in
set_option maxHeartbeats 4000000 in
theorem r19_texts {wb:World}  : Spec Tryz.prog wb 73 #[.slice none 0 0,.slice none 0 0] [] [] (fun _:Unit=>.bool true) (fun _=>[]) (fun _=>[]):=by
  intro w H;refine en_call Tryz.func73 H ?_;refine en E0 (eC 7 []) ?_;refine en_loopP (codeOf Tryz.f73) [1,1,0,1,0] [1,1,0,1,0,0] [] (α:=Unit) (fun _=>0) (fun _=>[(0,.slice none 0 0),(1,.slice none 0 0),(5,.int .i64 0)]) (fun _=>[]) (fun _=>many []) () (by kernel_rfl) ?_;intro _ J HJ;refine en E0 (eC 5 []) ?_;exact en_rets () [] [] []
set_option maxRecDepth 100000 in
set_option maxHeartbeats 4000000 in
theorem r19_msgs {wb:World}  : Spec Tryz.prog wb 72 #[.slice none 0 0,.slice none 0 0] [] [] (fun _:Unit=>.bool true) (fun _=>[]) (fun _=>[]):=by
  intro w H;refine en_call Tryz.func72 H ?_;refine en E0 (eC 7 []) ?_;refine en_loopP (codeOf Tryz.f72) [1,1,0,1,0] [1,1,0,1,0,0] [] (α:=Unit) (fun _=>0) (fun _=>[(0,.slice none 0 0),(1,.slice none 0 0),(5,.int .i64 0)]) (fun _=>[]) (fun _=>many []) () (by kernel_rfl) ?_;intro _ J HJ;refine en E0 (eC 5 []) ?_;exact en_rets () [] [] []
set_option maxRecDepth 100000 in
set_option maxHeartbeats 4000000 in
theorem r19_item {wb:World} {k:Nat} {op cn:Int} {cl:ByteArray} {p:Pk} {a a':Option Addr} {c c':Nat} {mn:Int} {X:Chk} (hp:PkOk p) (hX:∀ w,Below wb.heap.size wb w→X.is w→CellsA w a (subCells p.subs)∧CellsA w a' (subCells p.subs)):Spec Tryz.prog wb 50 #[.agg (itL k op cn cl p a c mn).toArray,.agg (itL k op cn cl p a' c' mn).toArray] [] [X] (fun _:Unit=>.bool true) (fun _=>[]) (fun _=>[X]):=by
  intro w H;refine en_call Tryz.func50 H ?_;refine en2 (EF [(.bool ((((k:Int)):Int) != (k:Int)),.bool false),(.bool (((op):Int) != op),.bool false),(.bool (((cn):Int) != cn),.bool false),(.bool (!((cl:ByteArray).toList == (cl:ByteArray).toList)),.bool false),(.bool (!((⟨#[]⟩:ByteArray).toList == (⟨#[]⟩:ByteArray).toList)),.bool false),(.bool (((0):Int) != 0),.bool false),(.bool (((mn):Int) != mn),.bool false)] ⟨neI' (by omega),neI' (by omega),neI' (by omega),neS' (rfl),neS' (rfl),neI' (by omega),neI' (by omega),trivial⟩) (.x::.x::.c::.c::.b 0 0::.c::.b 1 0::.f 0::.c::.c::.b 0 1::.c::.b 1 1::.f 1::eC 3 (.b 0 2::.c::.b 1 2::.f 2::eC 3 (.b 0 3::.c::.b 1 3::.f 3::eC 3 (.b 0 4::.c::.b 1 4::.f 4::eC 3 (.b 0 36::.c::.b 1 36::.f 5::eC 3 (.b 0 37::.c::.b 1 37::.f 6::eC 3 (.b 0 29::.c::.b 1 29::eC 4 (.b 0 35::.c::.c::.b 1 35::eC 4 [])))))))) fun I J=>?_
  refine en_loopP (codeOf Tryz.f50) [1,1,0,1,0] [1,1,0,1,0,0] [] (α:=Unit) (fun _=>0) (fun _=>[(2,.pointer (some ⟨I,0,none⟩)),(3,.pointer (some ⟨J,0,none⟩)),(5,.int .i64 0)]) (fun _=>[⟨I,[.int .u8 (k:Int),.int .i64 op,.int .i64 cn,.string cl,.string ⟨#[]⟩,.int .u8 (p.ty:Int),.bool p.dup,.int .u8 (p.qos:Int),.bool p.ret,.int .u16 (p.id:Int),.string p.topic,.string p.payload,.int .u8 (p.level:Int),.bool p.clean,.int .u16 (p.keep:Int),.string p.client,.bool p.hasWill,.string p.wtopic,.string p.wpayload,.int .u8 (p.wqos:Int),.bool p.wret,.bool p.hasUser,.bool p.hasPass,.string p.user,.string p.pass,.bool p.present,.int .u8 (p.code:Int),.slice a p.subs.length c,.string p.codes,.string ⟨#[]⟩,.string ⟨#[]⟩,.int .u8 0,.bool false,.slice none 0 0,.slice none 0 0,.slice none 0 0,.int .i64 0,.int .i64 mn],38⟩,⟨J,[.int .u8 (k:Int),.int .i64 op,.int .i64 cn,.string cl,.string ⟨#[]⟩,.int .u8 (p.ty:Int),.bool p.dup,.int .u8 (p.qos:Int),.bool p.ret,.int .u16 (p.id:Int),.string p.topic,.string p.payload,.int .u8 (p.level:Int),.bool p.clean,.int .u16 (p.keep:Int),.string p.client,.bool p.hasWill,.string p.wtopic,.string p.wpayload,.int .u8 (p.wqos:Int),.bool p.wret,.bool p.hasUser,.bool p.hasPass,.string p.user,.string p.pass,.bool p.present,.int .u8 (p.code:Int),.slice a' p.subs.length c',.string p.codes,.string ⟨#[]⟩,.string ⟨#[]⟩,.int .u8 0,.bool false,.slice none 0 0,.slice none 0 0,.slice none 0 0,.int .i64 0,.int .i64 mn],38⟩]) (fun _=>many [X]) () (by kernel_rfl) ?_;intro _ J HJ;refine en (EK [] trivial [⟨71,#[.agg (pkV p a c),.agg (pkV p a' c')],.bool true,[],[]⟩] ⟨fun _ w h _=>by have hx:=hX w h.hp.low (is_at h.hp.is 0 (c:=X) rfl);have hs:=ref03_Same p p a a' c c' w h.hp.env hp hp hx.1 hx.2;rw [decide_eq_true rfl] at hs;exact hs,trivial⟩) (.c::.c::.b 0 35::eC 3 [.b 0 5,.c,.b 1 5,.k 0,.c,.c,.b 0 33,.c,.b 1 33]) ?_;refine en_spec0 (r19_msgs) [] [] [] ?_;refine en E0 (eC 3 [.b 0 34,.c,.b 1 34]) ?_;refine en_spec0 (r19_texts) [] [] [] ?_;refine en E0 [.c,.c] ?_;exact en_rets () [] [0] []
set_option maxRecDepth 100000 in
set_option maxHeartbeats 4000000 in
theorem r19_mails {wb:World} {al an:Option Addr} {cm cn:Nat} {M N:List MlG} {X:Chk} (he:M.map (·.1)=N.map (·.1)) (hl:M.length≤10000) (hp:∀ x ∈ M,PkOk x.1.p) (hX:∀ w,Below wb.heap.size wb w→X.is w→(∀ x ∈ M,CellsA w x.2.1 (subCells x.1.p.subs))∧∀ y ∈ N,CellsA w y.2.1 (subCells y.1.p.subs)):Spec Tryz.prog wb 23 #[.slice al M.length cm,.slice an N.length cn] [] [rowO 51 40 (.slice al M.length cm) M.length (mlCs M),rowO 51 40 (.slice an N.length cn) N.length (mlCs N),X] (fun _:Unit=>.bool true) (fun _=>[]) (fun _=>[rowO 51 40 (.slice al M.length cm) M.length (mlCs M),rowO 51 40 (.slice an N.length cn) N.length (mlCs N),X]):=by
  have hln:N.length=M.length:=by have h:=congrArg List.length he;rw [List.length_map,List.length_map] at h;exact h.symm
  intro w H;refine en_call Tryz.func23 H ?_;refine en (EF [(.bool ((((M.length:Int)):Int) != (N.length:Int)),.bool false)] ⟨neI' (by omega),trivial⟩) (eC 5 [.f 0,.c]) ?_;refine en_loopP (codeOf Tryz.f23) [1,1,0,1,0] [1,1,0,1,0,0] [] (α:={j:Nat // j≤M.length}) (fun y=>M.length - y.1) (fun y=>[(0,.slice al M.length cm),(1,.slice an N.length cn),(5,.int .i64 (y.1:Int))]) (fun y=>[]) (fun y=>many [rowO 51 40 (.slice al M.length cm) M.length (mlCs M),rowO 51 40 (.slice an N.length cn) N.length (mlCs N),X]) ⟨0,Nat.zero_le _⟩ (by kernel_rfl) ?_;intro ⟨j,hj⟩ J HJ;simp only at HJ
  by_cases hk:j < M.length
  · have hk2:j < N.length:=by omega
    obtain ⟨x,hx⟩:∃ x,M[j]? = some x:=⟨_,List.getElem?_eq_getElem hk⟩
    obtain ⟨y,hy⟩:∃ x,N[j]? = some x:=⟨_,List.getElem?_eq_getElem hk2⟩
    have hxy:=same_fst he hx hy;have hxm:=List.mem_of_getElem? hx;have hym:=List.mem_of_getElem? hy;obtain ⟨y,a2,c2⟩:=y;obtain ⟨x,a1,c1⟩:=x;simp only at hxy
    subst hxy;refine en_factK (p:=∃ g c,Value.slice al M.length cm=.slice (some ⟨g,0,none⟩) M.length c) (fun w h=>ml_range (is_at h.hp.is 0 (c:=rowO 51 40 (.slice al M.length cm) M.length (mlCs M)) rfl) hx) ?_;rintro ⟨gm,cm2,e9⟩;injection e9 with e9 _ e10
    subst e9 e10;refine en_factK (p:=∃ g c,Value.slice an N.length cn=.slice (some ⟨g,0,none⟩) N.length c) (fun w h=>ml_range (is_at h.hp.is 1 (c:=rowO 51 40 (.slice an N.length cn) N.length (mlCs N)) rfl) hy) ?_;rintro ⟨gn,cn2,e9⟩;injection e9 with e9 _ e10
    subst e9 e10;refine en (EF [(.bool (decide ((((j:Int)):Int) < (M.length:Int))),.bool true)] ⟨dcT (by omega),trivial⟩) (eC 3 [.f 0]) ?_;refine en ⟨⟨[⟨gm,0+j * 40,mlC (y,a1,c1)⟩,⟨gn,0+j * 40,mlC (y,a2,c2)⟩],[]⟩,[(.bool (((y.dst):Int) != y.dst),.bool false),(.bool (((y.lane):Int) != y.lane),.bool false)],[⟨some ⟨gm,0,none⟩,M.length,cm,.i64,j,40,⟨gm,0+j * 40,none⟩⟩,⟨some ⟨gn,0,none⟩,N.length,cn,.i64,j,40,⟨gn,0+j * 40,none⟩⟩,⟨some ⟨gm,0,none⟩,M.length,cm,.i64,j,40,⟨gm,0+j * 40,none⟩⟩,⟨some ⟨gn,0,none⟩,N.length,cn,.i64,j,40,⟨gn,0+j * 40,none⟩⟩,⟨some ⟨gm,0,none⟩,M.length,cm,.i64,j,40,⟨gm,0+j * 40,none⟩⟩,⟨some ⟨gn,0,none⟩,N.length,cn,.i64,j,40,⟨gn,0+j * 40,none⟩⟩],[],fun _ _ h=>⟨⟨ml_at (is_at h.hp.is 0 (c:=rowO 51 40 (.slice (some ⟨gm,0,none⟩) M.length cm) M.length (mlCs M)) rfl) hx,ml_at (is_at h.hp.is 1 (c:=rowO 51 40 (.slice (some ⟨gn,0,none⟩) N.length cn) N.length (mlCs N)) rfl) hy,trivial⟩,trivial⟩,⟨neI' (by omega),neI' (by omega),trivial⟩,⟨⟨gm,0,j,rfl,rfl,hk,rfl⟩,⟨gn,0,j,rfl,rfl,hk2,rfl⟩,⟨gm,0,j,rfl,rfl,hk,rfl⟩,⟨gn,0,j,rfl,rfl,hk2,rfl⟩,⟨gm,0,j,rfl,rfl,hk,rfl⟩,⟨gn,0,j,rfl,rfl,hk2,rfl⟩,trivial⟩,trivial⟩ [.g [] 1000 true,.d (eN 0 (.c::.c::.i 0::.c::.l 0 0::.c::.c::.i 1::.c::.l 1 0::.f 0::eC 3 (.i 2::.c::.l 0 1::.c::.c::.i 3::.c::.l 1 1::.f 1::eC 4 [.i 4,.c,.l 0 2,.c,.c,.i 5,.c,.l 1 2])))] ?_;refine en_specM (r19_item (k:=y.k) (op:=y.op) (cn:=y.cn) (cl:=y.cl) (p:=y.p) (a:=a1) (a':=a2) (c:=c1) (c':=c2) (mn:=y.many) (X:=X) (hp _ hxm) (fun w h1 h2=>⟨(hX w h1 h2).1 _ hxm,(hX w h1 h2).2 _ hym⟩)) [] [2] [] ⟨[⟨gm,0+j * 40,mlC (y,a1,c1)⟩,⟨gn,0+j * 40,mlC (y,a2,c2)⟩],[]⟩ (fun _ _ h=>⟨⟨ml_at (is_at h.hp.is 1 (c:=rowO 51 40 (.slice (some ⟨gm,0,none⟩) M.length cm) M.length (mlCs M)) rfl) hx,ml_at (is_at h.hp.is 2 (c:=rowO 51 40 (.slice (some ⟨gn,0,none⟩) N.length cn) N.length (mlCs N)) rfl) hy,trivial⟩,trivial⟩) (fun _=>?_);refine en (EO [⟨gm,0+j * 40,mlC (y,a1,c1)⟩,⟨gn,0+j * 40,mlC (y,a2,c2)⟩] (fun _ _ h=>⟨ml_at (is_at h.hp.is 1 (c:=rowO 51 40 (.slice (some ⟨gm,0,none⟩) M.length cm) M.length (mlCs M)) rfl) hx,ml_at (is_at h.hp.is 2 (c:=rowO 51 40 (.slice (some ⟨gn,0,none⟩) N.length cn) N.length (mlCs N)) rfl) hy,trivial⟩) [(.int .i64 (IntKind.i64.wrap ((j:Int)+1)),.int .i64 ((j+1:Nat):Int))] ⟨addI (by omega),trivial⟩) [.d (eN 36 [.c,.c]),.c,.f 0,.c] ?_;refine en_drop [] [1,1,0] ?_;exact en_stopI (fun a w F HK=>HJ ⟨j+1,by omega⟩ a w (by show M.length - (j+1) < M.length - j;omega) F HK)
  refine en (EF [(.bool (decide ((((j:Int)):Int) < (M.length:Int))),.bool false)] ⟨dcF (by omega),trivial⟩) (eC 3 [.f 0,.c]) ?_;exact en_rets () [] [0,0,0] []
end Go.Proofs.YtehpihmgjbmoaaaGreatDoor
namespace Go.Proofs.YtehpihmgjbmoaaaGreatDoor
open Go.RowKit
attribute [local irreducible] Ok
def doesS (W u m:Nat) (G:List Cn) (ops:Int) (a:Ac):List Cn × List Nt:=if a.d=5 then (modG dropD G a.cn,[]) else ((actS W u m G ops a).1,(actS W u m G ops a).2.2)
def AskOk (x:Nt):Prop:=∃ (op cn:Int) (cl:ByteArray) (p:Pk),x=askN op cn cl p∧PkOk p
theorem ask_ok {op cn:Int} {cl:ByteArray} {p:Pk} (h:PkOk p):AskOk (askN op cn cl p):=⟨op,cn,cl,p,rfl,h⟩
theorem pkn_none:(∀ x ∈ ([]:List Ml),PkOk x.p)∧∀ x ∈ ([]:List Nt),AskOk x:=⟨fun x hx=>(by cases hx),fun x hx=>(by cases hx)⟩
theorem pkn_one {x:Ml} {y:Nt} {p:Pk} (h1:PkOk p) (e:x.p=p) (h2:AskOk y):(∀ z ∈ [x],PkOk z.p)∧∀ z ∈ [y],AskOk z:=⟨fun z hz=>(by rw [List.mem_singleton] at hz;rw [hz,e];exact h1),fun z hz=>(by rw [List.mem_singleton] at hz;rw [hz];exact h2)⟩
theorem read_pk (m W:Nat) (c:Cn) (now ops:Int) (h:c.L.length≤90000000):(∀ x ∈ (readC m W c now ops).2.1,PkOk x.p)∧∀ x ∈ (readC m W c now ops).2.2.1,AskOk x:=by
  have hp:=nx_ok m c.L c.e h;have hcut:(∀ x ∈ (cutR W (nextC m c) ops).2.1,PkOk x.p)∧∀ x ∈ (cutR W (nextC m c) ops).2.2.1,AskOk x:=by
    unfold cutR;split
    · exact pkn_one pz_ok (by rfl) (ask_ok pz_ok)
    · exact pkn_none
  unfold readC;split
  · exact pkn_none
  split
  · exact hcut
  split
  · split
    · unfold liveR
      split
      · exact pkn_none
      split
      · exact pkn_one hp (by rfl) (ask_ok hp)
      split
      · exact pkn_one hp (by rfl) (ask_ok hp)
      split
      · exact ⟨(pkn_one (y:=askN 0 0 ⟨#[]⟩ Pk.zero) hp (by rfl) (ask_ok pz_ok)).1,pkn_none.2⟩
      · exact pkn_one pz_ok (by rfl) (ask_ok pz_ok)
    · unfold freshR
      split
      · exact pkn_one hp (by rfl) (ask_ok hp)
      · exact pkn_none
  split
  · exact hcut
  · exact pkn_none
theorem readX_pk {m W:Nat} {G:List Cn} {n now ops:Int} (h:∀ c,getG G n=some c→c.L.length≤90000000):(∀ x ∈ (readX m W G n now ops).1,PkOk x.p)∧∀ x ∈ (readX m W G n now ops).2.1,AskOk x:=by
  unfold readX;cases hc:getG G n with
  | none=>exact pkn_none
  | some c=>exact read_pk m W c now ops (h c hc)
theorem does_pk {W u m:Nat} {G:List Cn} {ops:Int} {q:Ac} (h:∀ c,getG G q.cn=some c→c.L.length≤90000000):∀ x ∈ (doesS W u m G ops q).2,AskOk x:=by
  unfold doesS;split
  · exact pkn_none.2
  unfold actS;split
  · exact pkn_none.2
  split
  · exact pkn_none.2
  split
  · exact pkn_none.2
  split
  · exact (readX_pk h).2
  split
  · exact pkn_none.2
  · exact pkn_none.2
theorem readX_few (m W:Nat) (G:List Cn) (n now ops:Int):(readX m W G n now ops).1.length≤1:=by
  unfold readX;cases getG G n with
  | none=>exact Nat.zero_le _
  | some c=>exact read_mails m W c now ops
theorem hearM_pk (W:Nat):∀ (xs:List Im) (G:List Cn),∀ x ∈ hearM W G xs,x.p=Pk.zero
  | [],_,x,hx=>by cases hx
  | i::xs,G,x,hx=>by
    rcases List.mem_append.1 (show x ∈ hearM1 W G i++hearM W (hear1 G i) xs from hx) with h | h
    · unfold hearM1 at h
      split at h
      · rw [List.mem_singleton] at h
        rw [h];rfl
      · cases h
    · exact hearM_pk W xs _ x h
theorem mls_in {W:Nat} {G:List Cn} {xs:List Im} {x:MlG} (h:x ∈ mls (hearM W G xs)):x.1.p=Pk.zero:=by
  unfold mls at h;obtain ⟨y,hy,rfl⟩:=List.mem_map.1 h;exact hearM_pk W xs G y hy
theorem sub_in {w:World} {α:Type} {l:List α} {f:α→PkG} (h:(many (l.map fun x=>sbC (f x))).is w) {x:α} (hx:x ∈ l):CellsA w (f x).2.1 (subCells (f x).1.subs):=by
  have h1:=h.1 _ (List.mem_map_of_mem (f:=fun x=>sbC (f x)) hx);exact own_cells (show w.ownsRow 0 112 2 (.slice (f x).2.1 (f x).1.subs.length (f x).2.2) (f x).1.subs.length (subCells (f x).1.subs) from h1)
theorem zero_in {w:World} {x:MlG} (h:x.1.p.subs=[]):CellsA w x.2.1 (subCells x.1.p.subs):=by
  rw [h];exact CellsA.nil _ _
theorem shr_in {M N:List MlG} {T:List NtG} (hN:Shr N T):∀ w,(many [many (M.map fun x=>sbC (x.1.p,x.2)),many (T.map fun x=>sbC (x.1.p,x.2))]).is w→(∀ x ∈ M,CellsA w x.2.1 (subCells x.1.p.subs))∧∀ y ∈ N,CellsA w y.2.1 (subCells y.1.p.subs):=fun w h=>by
  refine ⟨fun x hx=>sub_in (f:=fun x:MlG=>(x.1.p,x.2)) (is_at h 0 (c:=many (M.map fun x=>sbC (x.1.p,x.2))) rfl) hx,fun y hy=>?_⟩;rcases hN y hy with h1 | ⟨t,ht,h1,h2⟩
  · exact zero_in h1
  · have h3:=sub_in (f:=fun x:NtG=>(x.1.p,x.2)) (is_at h 1 (c:=many (T.map fun x=>sbC (x.1.p,x.2))) rfl) ht
    simp only at h3
    rw [h1,h2] at h3;exact h3
theorem row_form {w:World} {e size:Nat} {v:Value} {n:Nat} {xs:List Value} (h:(rowO e size v n xs).is w):∃ a c,v=.slice a n c:=by obtain ⟨a,c,h1,_⟩:=own_form h;exact ⟨a,c,h1⟩
set_option maxRecDepth 100000 in
set_option maxHeartbeats 4000000 in
theorem law20_does {wb:World} {g W u m mb r lg ln:Nat} {K:List CnG} {R:List RnG} {rv vl vn:Value} {T N:List NtG} {ops:Int} {q:Ac} {X:Chk} (hKR:absR R=absK K) (hNT:N.map (·.1)=T.map (·.1)) (hR:R.length≤100000) (hm1:16≤m) (hm2:m≤65536) (hn:q.cn < 9223372036854775808) (h0:0≤ops) (h1:ops≤100000) (hT:T.length≤10000) (hF:∀ c,getG (absK K) q.cn=some c→c.L.length+q.bs.size≤90000000) (hC:∀ c,getG (absK K) q.cn=some c→CnOk m c) (hX:∀ w,Below wb.heap.size wb w→X.is w→ItIn w q.it) (hok:q.it.cl.size≤1000000∧q.it.ps.length≤1000∧∀ p ∈ q.it.ps,PkOk p.1) (hb:∀ k c n,getG (hearG (absK K) ([q.it].take k)) n=some c→c.drain.size≤1000000000000000∧c.sent.size≤1000000000000000):Spec Tryz.prog wb 22 #[.pointer (some ⟨g,0,none⟩),.pointer (some ⟨r,0,none⟩),.pointer (some ⟨lg,0,none⟩),.pointer (some ⟨ln,0,none⟩),.agg (acR q).toArray] [] [gtC g W u m mb K,rgC r W u m rv R,lgC lg vl T ops,lgQ ln vn N ops,X] (fun _:{y:(List CnG × Value × List NtG) × Value × List RnG × Value × List NtG // absK y.1.1=(doesS W u m (absK K) ops q).1∧absR y.2.2.1=(doesS W u m (absK K) ops q).1∧y.2.2.1.length≤R.length+1∧y.1.2.2.map (·.1)=T.map (·.1)++(doesS W u m (absK K) ops q).2∧y.2.2.2.2.map (·.1)=T.map (·.1)++(doesS W u m (absK K) ops q).2}=>.bool true) (fun _=>[]) (fun y=>[gtC g W u m mb y.1.1.1,rgC r W u m y.1.2.1 y.1.2.2.1,lgC lg y.1.1.2.1 y.1.1.2.2 (ops+((doesS W u m (absK K) ops q).2.length:Int)),lgQ ln y.1.2.2.2.1 y.1.2.2.2.2 (ops+((doesS W u m (absK K) ops q).2.length:Int)),X]):=by
  obtain ⟨z,hz⟩:∃ z,doesS W u m (absK K) ops q=z:=⟨_,rfl⟩
  rw [hz];have hNl:N.length=T.length:=by have h:=congrArg List.length hNT;rw [List.length_map,List.length_map] at h;exact h
  intro w H;refine en_call Tryz.func22 H ?_;by_cases hd:q.d=0
  · refine en1 (EF [(.bool ((((q.d:Int)):Int) == 0),.bool true)] ⟨eqI (by omega),trivial⟩) [.x,.c,.c,.b 0 0,.f 0,.c,.g [(0,1,1)] 1000 false,.d [(0,.c),(1,.c),(2,.l 0 0),(4,.c),(5,.c),(6,.l 0 0)]] fun Y=>?_
    have hne:¬ q.d=5:=by omega
    by_cases hmo:mayO W u (absK K) q.cn=true
    · refine en_spec (gate_OpenY (g:=g) (W:=W) (u:=u) (m:=m) (mb:=mb) (K:=K) q.cn hn hmo hm1 hm2) [] [0] [(0,1,1)] (fun y=>?_)
      obtain ⟨K2,hK2⟩:=y;refine en_spec (r20_OpenY (g:=r) (W:=W) (u:=u) (m:=m) (v:=rv) (K:=R) q.cn hn hR (by rw [hKR];exact hmo) hm1 hm2) [] [1] [(0,1,1)] (fun y=>?_);obtain ⟨⟨rv2,R2⟩,hR2,hRl⟩:=y;simp only at hR2 hRl
      refine en E0 [.d (eN 8 [.c,.c])] ?_;have eq1:z=(absK K++[newC q.cn],[]):=by rw [← hz];unfold doesS;rw [if_neg hne];unfold actS;rw [if_pos hd,if_pos hmo]
      subst eq1;refine en_word 2 (lgC lg vl T ops) (lgC lg vl T (ops+((([]:List Nt).length:Nat):Int))) (by rw [show (ops+((([]:List Nt).length:Nat):Int))=ops by simp]) ?_;refine en_word 3 (lgQ ln vn N ops) (lgQ ln vn N (ops+((([]:List Nt).length:Nat):Int))) (by rw [show (ops+((([]:List Nt).length:Nat):Int))=ops by simp]) ?_;exact en_rets ⟨((K2,vl,T),rv2,R2,vn,N),hK2,by rw [hR2,hKR],by simp only;omega,by simp,by rw [hNT];simp⟩ [] [3,2,1,0,0] []
    · refine en_spec0 (gate_OpenN (g:=g) (W:=W) (u:=u) (m:=m) (mb:=mb) (K:=K) q.cn hn (by simpa using hmo)) [] [0] [(0,1,1)] ?_
      refine en_spec0 (r20_OpenN (g:=r) (W:=W) (u:=u) (m:=m) (v:=rv) (K:=R) q.cn hn hR (by rw [hKR];simpa using hmo)) [] [1] [(0,1,1)] ?_;refine en E0 [.d (eN 8 [.c,.c])] ?_;have eq1:z=(absK K,[]):=by rw [← hz];unfold doesS;rw [if_neg hne];unfold actS;rw [if_pos hd,if_neg hmo]
      subst eq1;refine en_word 2 (lgC lg vl T ops) (lgC lg vl T (ops+((([]:List Nt).length:Nat):Int))) (by rw [show (ops+((([]:List Nt).length:Nat):Int))=ops by simp]) ?_;refine en_word 3 (lgQ ln vn N ops) (lgQ ln vn N (ops+((([]:List Nt).length:Nat):Int))) (by rw [show (ops+((([]:List Nt).length:Nat):Int))=ops by simp]) ?_;exact en_rets ⟨((K,vl,T),rv,R,vn,N),rfl,hKR,by simp only;omega,by simp,by rw [hNT];simp⟩ [] [3,2,1,0,0] []
  by_cases hd1:q.d=1
  · refine en1 (EF [(.bool ((((q.d:Int)):Int) == 0),.bool false),(.bool ((((q.d:Int)):Int) == 1),.bool true)] ⟨eqI' (by omega),eqI (by omega),trivial⟩) [.x,.c,.c,.b 0 0,.f 0,.c,.f 1,.c,.g [(0,1,1),(0,3,1)] 1000 false,.d [(0,.c),(1,.c),(2,.l 0 0),(3,.c),(4,.l 1 0),(6,.c),(7,.c),(8,.l 0 0),(9,.c),(10,.l 1 0)]] fun Y=>?_
    have hne:¬ q.d=5:=by omega
    refine en_spec (gate_Feed (g:=g) (W:=W) (u:=u) (m:=m) (mb:=mb) (K:=K) q.cn q.bs (by omega) (fun c hc=>by have h:=hF c hc;omega)) [] [0] [(0,1,1),(0,3,1)] (fun y=>?_);obtain ⟨K2,hK2⟩:=y;have HQ:=r20_Feed (wb:=wb) (g:=r) (W:=W) (u:=u) (m:=m) (v:=rv) (K:=R) q.cn (by omega) q.bs (fun c hc=>by rw [hKR] at hc;have h:=hF c hc;omega);rw [hKR] at HQ;refine en_spec (HQ) [] [1] [(0,1,1),(0,3,1)] (fun y=>?_);obtain ⟨⟨rv2,R2⟩,hR2,hRl⟩:=y;simp only at hR2 hRl
    refine en (EF [(.bool (((getG (absK K) q.cn).isSome) == ((getG (absK K) q.cn).isSome)),.bool true)] ⟨tT (beq_self_eq_true _),trivial⟩) [.d (eN 12 [.f 0,.c])] ?_;have eq1:z=(modG (fedC q.bs) (absK K) q.cn,[]):=by rw [← hz];unfold doesS;rw [if_neg hne];unfold actS;rw [if_neg hd,if_pos hd1]
    subst eq1;refine en_word 2 (lgC lg vl T ops) (lgC lg vl T (ops+((([]:List Nt).length:Nat):Int))) (by rw [show (ops+((([]:List Nt).length:Nat):Int))=ops by simp]) ?_;refine en_word 3 (lgQ ln vn N ops) (lgQ ln vn N (ops+((([]:List Nt).length:Nat):Int))) (by rw [show (ops+((([]:List Nt).length:Nat):Int))=ops by simp]) ?_;exact en_rets ⟨((K2,vl,T),rv2,R2,vn,N),hK2,hR2,by simp only;omega,by simp,by rw [hNT];simp⟩ [] [3,2,1,0,0] []
  by_cases hd2:q.d=2
  · refine en1 (EF [(.bool ((((q.d:Int)):Int) == 0),.bool false),(.bool ((((q.d:Int)):Int) == 1),.bool false),(.bool ((((q.d:Int)):Int) == 2),.bool true)] ⟨eqI' (by omega),eqI' (by omega),eqI (by omega),trivial⟩) [.x,.c,.c,.b 0 0,.f 0,.c,.f 1,.c,.f 2,.c,.g [(0,1,1)] 1000 false,.d [(0,.c),(1,.c),(2,.l 0 0),(4,.c),(5,.c),(6,.l 0 0)]] fun Y=>?_
    have hne:¬ q.d=5:=by omega
    refine en_spec (gate_Hangup (g:=g) (W:=W) (u:=u) (m:=m) (mb:=mb) (K:=K) q.cn) [] [0] [(0,1,1)] (fun y=>?_);obtain ⟨K2,hK2⟩:=y;have HQ:=r20_Hangup (wb:=wb) (g:=r) (W:=W) (u:=u) (m:=m) (v:=rv) (K:=R) q.cn (by omega);rw [hKR] at HQ;refine en_spec (HQ) [] [1] [(0,1,1)] (fun y=>?_);obtain ⟨⟨rv2,R2⟩,hR2,hRl⟩:=y;simp only at hR2 hRl
    refine en (EF [(.bool (((getG (absK K) q.cn).isSome) == ((getG (absK K) q.cn).isSome)),.bool true)] ⟨tT (beq_self_eq_true _),trivial⟩) [.d (eN 8 [.f 0,.c])] ?_;have eq1:z=(modG (fun c=>{ c with hung:=true }) (absK K) q.cn,[]):=by rw [← hz];unfold doesS;rw [if_neg hne];unfold actS;rw [if_neg hd,if_neg hd1,if_pos hd2]
    subst eq1;refine en_word 2 (lgC lg vl T ops) (lgC lg vl T (ops+((([]:List Nt).length:Nat):Int))) (by rw [show (ops+((([]:List Nt).length:Nat):Int))=ops by simp]) ?_;refine en_word 3 (lgQ ln vn N ops) (lgQ ln vn N (ops+((([]:List Nt).length:Nat):Int))) (by rw [show (ops+((([]:List Nt).length:Nat):Int))=ops by simp]) ?_;exact en_rets ⟨((K2,vl,T),rv2,R2,vn,N),hK2,hR2,by simp only;omega,by simp,by rw [hNT];simp⟩ [] [3,2,1,0,0] []
  by_cases hd3:q.d=3
  · refine en1 (EF [(.bool ((((q.d:Int)):Int) == 0),.bool false),(.bool ((((q.d:Int)):Int) == 1),.bool false),(.bool ((((q.d:Int)):Int) == 2),.bool false),(.bool ((((q.d:Int)):Int) == 3),.bool true)] ⟨eqI' (by omega),eqI' (by omega),eqI' (by omega),eqI (by omega),trivial⟩) (.x::.c::.c::.b 0 0::.f 0::.c::.f 1::.c::.f 2::.c::.f 3::eC 3 [.b 0 1,.c,.b 0 2,.c]) fun Y=>?_
    have hne:¬ q.d=5:=by omega
    obtain ⟨did,hdid⟩:∃ d,(readX m W (absK K) q.cn q.now ops).2.2=d:=⟨_,rfl⟩
    have hpk:=readX_pk (m:=m) (W:=W) (G:=absK K) (n:=q.cn) (now:=q.now) (ops:=ops) (fun c hc=>(hC c hc).len);have hfw:=readX_few m W (absK K) q.cn q.now ops;have HP:=gate_Read (wb:=wb) (g:=g) (W:=W) (u:=u) (m:=m) (mb:=mb) (K:=K) (lg:=lg) (vl:=vl) (T:=T) (ops:=ops) q.cn q.now (by omega) h0 h1 hT hC;rw [hdid] at HP;have HQ:=r20_Read (wb:=wb) (g:=r) (W:=W) (u:=u) (m:=m) (K:=R) (rv:=rv) (lg:=ln) (vl:=vn) (T:=N) (ops:=ops) q.cn q.now (by omega) h0 h1 (by omega) (fun c hc=>hC c (by rw [← hKR];exact hc));rw [hKR,hdid,hNT] at HQ;refine en_spec (HP) [] [0,1] [] (fun y=>?_);obtain ⟨⟨vm,K2,M,vl',T'⟩,hK2,hM,hT'⟩:=y;simp only at hK2 hM hT'
    refine en E0 (eC 7 [.b 0 1,.c,.b 0 2,.c]) ?_;refine en_spec (HQ) [] [3,3] [] (fun y=>?_);obtain ⟨⟨rv2,R2,vq,Q,vn',N'⟩,⟨hR2,hRl⟩,hQ,hN',hS⟩:=y;simp only at hR2 hRl hQ hN' hS
    refine en_unpack 4 (mlK vm M) _ ?_;refine en_factK (p:=∃ am cm,vm=.slice am M.length cm) (fun w h=>row_form (is_at h.hp.is 0 (c:=rowO 51 40 vm M.length (mlCs M)) rfl)) ?_;rintro ⟨am,cm,rfl⟩;refine en_factK (p:=∃ aq cq,vq=.slice aq Q.length cq) (fun w h=>row_form (is_at h.hp.is 3 (c:=rowO 51 40 vq Q.length (mlCs Q)) rfl)) ?_;rintro ⟨aq,cq,rfl⟩;refine en_unpack 4 (lgQ ln vn' N' (ops+((readX m W (absK K) q.cn q.now ops).2.1.length:Int))) _ ?_;refine en_pack [4,2] (many [many (M.map fun x=>sbC (x.1.p,x.2)),many (N'.map fun x=>sbC (x.1.p,x.2))]) _ ?_;refine en (EF [(.bool ((did) == (did)),.bool true)] ⟨tT (beq_self_eq_true _),trivial⟩) (eC 7 (.f 0::eC 3 [])) ?_;have hMl:M.length≤1:=by rw [← hM,List.length_map] at hfw;exact hfw
    have hpM:∀ x ∈ M,PkOk x.1.p:=fun x hx=>hpk.1 x.1 (by rw [← hM];exact List.mem_map_of_mem hx)
    refine en_spec0 (r19_mails (al:=am) (an:=aq) (cm:=cm) (cn:=cq) (M:=M) (N:=Q) (X:=many [many (M.map fun x=>sbC (x.1.p,x.2)),many (N'.map fun x=>sbC (x.1.p,x.2))]) (hM.trans hQ.symm) (by omega) hpM (fun w _ h=>shr_in hS w h)) [] [3,4,0] [] ?_;refine en E0 [.c,.c] ?_;refine en_unpack 2 (many [many (M.map fun x=>sbC (x.1.p,x.2)),many (N'.map fun x=>sbC (x.1.p,x.2))]) _ ?_;refine en_pack [4,4,1] (lgQ ln vn' N' (ops+((readX m W (absK K) q.cn q.now ops).2.1.length:Int))) _ ?_;have eq1:z=(modG (fun c=>(readC m W c q.now ops).1) (absK K) q.cn,(readX m W (absK K) q.cn q.now ops).2.1):=by rw [← hz];unfold doesS;rw [if_neg hne];unfold actS;rw [if_neg hd,if_neg hd1,if_neg hd2,if_pos hd3]
    subst eq1;exact en_rets ⟨((K2,vl',T'),rv2,R2,vn',N'),hK2,hR2,by simp only;omega,hT',hN'⟩ [] [5,4,4,0,3] []
  by_cases hd4:q.d=4
  · have hne:¬ q.d=5:=by omega
    obtain ⟨i0,hi,hz0,hz1,hz2⟩:=info_parts gt_infoIm;refine en1 (EF [(.bool ((((q.d:Int)):Int) == 0),.bool false),(.bool ((((q.d:Int)):Int) == 1),.bool false),(.bool ((((q.d:Int)):Int) == 2),.bool false),(.bool ((((q.d:Int)):Int) == 3),.bool false),(.bool ((((q.d:Int)):Int) == 4),.bool true)] ⟨eqI' (by omega),eqI' (by omega),eqI' (by omega),eqI' (by omega),eqI (by omega),trivial⟩) [.x,.c,.c,.b 0 0,.f 0,.c,.f 1,.c,.f 2,.c,.f 3,.c,.f 4,.c,.g [(0,4,38)] 1000 false,.d [(0,.c),(1,.c),(2,.l 0 0),(5,.c),(6,.c),(7,.l 0 0)]] fun Y=>?_
    refine en_two 3 8 ?_ ?_
    · refine en_opsI 3 (ops_one 23 38 23 (.agg (itR q.it).toArray) (itR q.it).toArray rfl i0 _ hz1.symm Tryz.underlying23 hi hz0 (by rw [hz1];decide) (by rw [hz1];decide) (by rw [hz1];kernel_rfl) (by rw [hz1];rfl)) [] [] [(0,4,38)] (fun d=>?_)
      refine en_pack [0,4] (many [rowO 38 38 (.slice (some ⟨d,0,none⟩) 1 1) 1 (itR q.it).toArray.toList,X]) _ ?_;refine en_two 4 8 ?_ ?_
      · refine en_specI 4 (gate_Hear (g:=g) (W:=W) (u:=u) (m:=m) (mb:=mb) (K:=K) (cap:=1) (al:=some ⟨d,0,none⟩) (xs:=[q.it]) (X:=many [rowO 38 38 (.slice (some ⟨d,0,none⟩) 1 1) 1 (itR q.it).toArray.toList,X]) (one_item hX) (fun i hi=>by rw [List.mem_singleton] at hi;subst hi;exact hok) (show 1≤10000 by decide) hb) [] [1,0] [(0,4,38)] (fun y=>?_)
        obtain ⟨⟨vm,K2⟩,hK2⟩:=y;simp only at hK2
        refine en_unpack 2 (many [rowO 38 38 (.slice (some ⟨d,0,none⟩) 1 1) 1 (itR q.it).toArray.toList,X]) _ ?_;refine en_ops (ops_one 23 38 23 (.agg (itR q.it).toArray) (itR q.it).toArray rfl i0 _ hz1.symm Tryz.underlying23 hi hz0 (by rw [hz1];decide) (by rw [hz1];decide) (by rw [hz1];kernel_rfl) (by rw [hz1];rfl)) [] [] [(0,4,38)] (fun e=>?_);refine en_pack [0,1] (many [rowO 38 38 (.slice (some ⟨e,0,none⟩) 1 1) 1 (itR q.it).toArray.toList,X]) _ ?_;have HQ:=r20_Hear (wb:=wb) (g:=r) (W:=W) (u:=u) (m:=m) (v:=rv) (K:=R) (cap:=1) (al:=some ⟨e,0,none⟩) (xs:=[q.it]) (X:=many [rowO 38 38 (.slice (some ⟨e,0,none⟩) 1 1) 1 (itR q.it).toArray.toList,X]) (by omega) (one_item hX) (fun i hi=>by rw [List.mem_singleton] at hi;subst hi;exact hok) (show 1≤10000 by decide) (fun k c n hc=>hb k c n (by rw [← hKR];exact hc));rw [hKR] at HQ;refine en_spec (HQ) [] [4,0] [(0,4,38)] (fun y=>?_);obtain ⟨⟨vq,rv2,R2⟩,hR2,hRl⟩:=y;simp only at hR2 hRl
        refine en_unpack 2 (many [rowO 38 38 (.slice (some ⟨e,0,none⟩) 1 1) 1 (itR q.it).toArray.toList,X]) _ ?_;refine en_unpack 6 (mlK vm (mls (hearM W (absK K) [q.it]))) _ ?_;refine en_factK (p:=∃ am cm,vm=.slice am (mls (hearM W (absK K) [q.it])).length cm) (fun w h=>row_form (is_at h.hp.is 0 (c:=rowO 51 40 vm (mls (hearM W (absK K) [q.it])).length (mlCs (mls (hearM W (absK K) [q.it])))) rfl)) ?_;rintro ⟨am,cm,rfl⟩;refine en_factK (p:=∃ aq cq,vq=.slice aq (mls (hearM W (absK K) [q.it])).length cq) (fun w h=>row_form (is_at h.hp.is 5 (c:=rowO 51 40 vq (mls (hearM W (absK K) [q.it])).length (mlCs (mls (hearM W (absK K) [q.it])))) rfl)) ?_;rintro ⟨aq,cq,rfl⟩;have hMl:(mls (hearM W (absK K) [q.it])).length≤1:=by have h:=hearM_len W [q.it] (absK K);unfold mls;rw [List.length_map];exact h
        have hin:∀ w:World,∀ x ∈ (mls (hearM W (absK K) [q.it])),CellsA w x.2.1 (subCells x.1.p.subs):=fun w x hx=>zero_in (by rw [mls_in hx];rfl)
        refine en_spec0 (r19_mails (al:=am) (an:=aq) (cm:=cm) (cn:=cq) (M:=(mls (hearM W (absK K) [q.it]))) (N:=(mls (hearM W (absK K) [q.it]))) (X:=X) rfl (by omega) (fun x hx=>by rw [mls_in hx];exact pz_ok) (fun w _ _=>⟨hin w,hin w⟩)) [] [0,4,2] [(0,4,38)] ?_;refine en E0 [.d (eN 11 [.c])] ?_;have eq1:z=(hearG (absK K) [q.it],[]):=by rw [← hz];unfold doesS;rw [if_neg hne];unfold actS;rw [if_neg hd,if_neg hd1,if_neg hd2,if_neg hd3,if_pos hd4]
        subst eq1;refine en_word 8 (lgC lg vl T ops) (lgC lg vl T (ops+((([]:List Nt).length:Nat):Int))) (by rw [show (ops+((([]:List Nt).length:Nat):Int))=ops by simp]) ?_;refine en_word 9 (lgQ ln vn N ops) (lgQ ln vn N (ops+((([]:List Nt).length:Nat):Int))) (by rw [show (ops+((([]:List Nt).length:Nat):Int))=ops by simp]) ?_;exact en_rets ⟨((K2,vl,T),rv2,R2,vn,N),hK2,hR2,by simp only;omega,by simp,by rw [hNT];simp⟩ [] [9,7,1,0,2] []
      · refine en_opsI 8 (ops_one 23 38 23 (.agg (itR q.it).toArray) (itR q.it).toArray rfl i0 _ hz1.symm Tryz.underlying23 hi hz0 (by rw [hz1];decide) (by rw [hz1];decide) (by rw [hz1];kernel_rfl) (by rw [hz1];rfl)) [] [] [(0,4,38)] (fun e=>?_)
        refine en_spec (gate_Hear (g:=g) (W:=W) (u:=u) (m:=m) (mb:=mb) (K:=K) (cap:=1) (al:=some ⟨d,0,none⟩) (xs:=[q.it]) (X:=many [rowO 38 38 (.slice (some ⟨d,0,none⟩) 1 1) 1 (itR q.it).toArray.toList,X]) (one_item hX) (fun i hi=>by rw [List.mem_singleton] at hi;subst hi;exact hok) (show 1≤10000 by decide) hb) [] [2,1] [(0,4,38)] (fun y=>?_);obtain ⟨⟨vm,K2⟩,hK2⟩:=y;simp only at hK2
        refine en_unpack 2 (many [rowO 38 38 (.slice (some ⟨d,0,none⟩) 1 1) 1 (itR q.it).toArray.toList,X]) _ ?_;refine en_pack [4,1] (many [rowO 38 38 (.slice (some ⟨e,0,none⟩) 1 1) 1 (itR q.it).toArray.toList,X]) _ ?_;have HQ:=r20_Hear (wb:=wb) (g:=r) (W:=W) (u:=u) (m:=m) (v:=rv) (K:=R) (cap:=1) (al:=some ⟨e,0,none⟩) (xs:=[q.it]) (X:=many [rowO 38 38 (.slice (some ⟨e,0,none⟩) 1 1) 1 (itR q.it).toArray.toList,X]) (by omega) (one_item hX) (fun i hi=>by rw [List.mem_singleton] at hi;subst hi;exact hok) (show 1≤10000 by decide) (fun k c n hc=>hb k c n (by rw [← hKR];exact hc));rw [hKR] at HQ;refine en_spec (HQ) [] [4,0] [(0,4,38)] (fun y=>?_);obtain ⟨⟨vq,rv2,R2⟩,hR2,hRl⟩:=y;simp only at hR2 hRl
        refine en_unpack 2 (many [rowO 38 38 (.slice (some ⟨e,0,none⟩) 1 1) 1 (itR q.it).toArray.toList,X]) _ ?_;refine en_unpack 6 (mlK vm (mls (hearM W (absK K) [q.it]))) _ ?_;refine en_factK (p:=∃ am cm,vm=.slice am (mls (hearM W (absK K) [q.it])).length cm) (fun w h=>row_form (is_at h.hp.is 0 (c:=rowO 51 40 vm (mls (hearM W (absK K) [q.it])).length (mlCs (mls (hearM W (absK K) [q.it])))) rfl)) ?_;rintro ⟨am,cm,rfl⟩;refine en_factK (p:=∃ aq cq,vq=.slice aq (mls (hearM W (absK K) [q.it])).length cq) (fun w h=>row_form (is_at h.hp.is 5 (c:=rowO 51 40 vq (mls (hearM W (absK K) [q.it])).length (mlCs (mls (hearM W (absK K) [q.it])))) rfl)) ?_;rintro ⟨aq,cq,rfl⟩;have hMl:(mls (hearM W (absK K) [q.it])).length≤1:=by have h:=hearM_len W [q.it] (absK K);unfold mls;rw [List.length_map];exact h
        have hin:∀ w:World,∀ x ∈ (mls (hearM W (absK K) [q.it])),CellsA w x.2.1 (subCells x.1.p.subs):=fun w x hx=>zero_in (by rw [mls_in hx];rfl)
        refine en_spec0 (r19_mails (al:=am) (an:=aq) (cm:=cm) (cn:=cq) (M:=(mls (hearM W (absK K) [q.it]))) (N:=(mls (hearM W (absK K) [q.it]))) (X:=X) rfl (by omega) (fun x hx=>by rw [mls_in hx];exact pz_ok) (fun w _ _=>⟨hin w,hin w⟩)) [] [0,4,2] [(0,4,38)] ?_;refine en E0 [.d (eN 11 [.c])] ?_;have eq1:z=(hearG (absK K) [q.it],[]):=by rw [← hz];unfold doesS;rw [if_neg hne];unfold actS;rw [if_neg hd,if_neg hd1,if_neg hd2,if_neg hd3,if_pos hd4]
        subst eq1;refine en_word 8 (lgC lg vl T ops) (lgC lg vl T (ops+((([]:List Nt).length:Nat):Int))) (by rw [show (ops+((([]:List Nt).length:Nat):Int))=ops by simp]) ?_;refine en_word 9 (lgQ ln vn N ops) (lgQ ln vn N (ops+((([]:List Nt).length:Nat):Int))) (by rw [show (ops+((([]:List Nt).length:Nat):Int))=ops by simp]) ?_;exact en_rets ⟨((K2,vl,T),rv2,R2,vn,N),hK2,hR2,by simp only;omega,by simp,by rw [hNT];simp⟩ [] [9,7,1,0,2] []
    · refine en_opsI 8 (ops_one 23 38 23 (.agg (itR q.it).toArray) (itR q.it).toArray rfl i0 _ hz1.symm Tryz.underlying23 hi hz0 (by rw [hz1];decide) (by rw [hz1];decide) (by rw [hz1];kernel_rfl) (by rw [hz1];rfl)) [] [] [(0,4,38)] (fun e=>?_)
      refine en_ops (ops_one 23 38 23 (.agg (itR q.it).toArray) (itR q.it).toArray rfl i0 _ hz1.symm Tryz.underlying23 hi hz0 (by rw [hz1];decide) (by rw [hz1];decide) (by rw [hz1];kernel_rfl) (by rw [hz1];rfl)) [] [] [(0,4,38)] (fun d=>?_);refine en_pack [0,5] (many [rowO 38 38 (.slice (some ⟨d,0,none⟩) 1 1) 1 (itR q.it).toArray.toList,X]) _ ?_;refine en_spec (gate_Hear (g:=g) (W:=W) (u:=u) (m:=m) (mb:=mb) (K:=K) (cap:=1) (al:=some ⟨d,0,none⟩) (xs:=[q.it]) (X:=many [rowO 38 38 (.slice (some ⟨d,0,none⟩) 1 1) 1 (itR q.it).toArray.toList,X]) (one_item hX) (fun i hi=>by rw [List.mem_singleton] at hi;subst hi;exact hok) (show 1≤10000 by decide) hb) [] [2,0] [(0,4,38)] (fun y=>?_);obtain ⟨⟨vm,K2⟩,hK2⟩:=y;simp only at hK2
      refine en_unpack 2 (many [rowO 38 38 (.slice (some ⟨d,0,none⟩) 1 1) 1 (itR q.it).toArray.toList,X]) _ ?_;refine en_pack [4,1] (many [rowO 38 38 (.slice (some ⟨e,0,none⟩) 1 1) 1 (itR q.it).toArray.toList,X]) _ ?_;have HQ:=r20_Hear (wb:=wb) (g:=r) (W:=W) (u:=u) (m:=m) (v:=rv) (K:=R) (cap:=1) (al:=some ⟨e,0,none⟩) (xs:=[q.it]) (X:=many [rowO 38 38 (.slice (some ⟨e,0,none⟩) 1 1) 1 (itR q.it).toArray.toList,X]) (by omega) (one_item hX) (fun i hi=>by rw [List.mem_singleton] at hi;subst hi;exact hok) (show 1≤10000 by decide) (fun k c n hc=>hb k c n (by rw [← hKR];exact hc));rw [hKR] at HQ;refine en_spec (HQ) [] [4,0] [(0,4,38)] (fun y=>?_);obtain ⟨⟨vq,rv2,R2⟩,hR2,hRl⟩:=y;simp only at hR2 hRl
      refine en_unpack 2 (many [rowO 38 38 (.slice (some ⟨e,0,none⟩) 1 1) 1 (itR q.it).toArray.toList,X]) _ ?_;refine en_unpack 6 (mlK vm (mls (hearM W (absK K) [q.it]))) _ ?_;refine en_factK (p:=∃ am cm,vm=.slice am (mls (hearM W (absK K) [q.it])).length cm) (fun w h=>row_form (is_at h.hp.is 0 (c:=rowO 51 40 vm (mls (hearM W (absK K) [q.it])).length (mlCs (mls (hearM W (absK K) [q.it])))) rfl)) ?_;rintro ⟨am,cm,rfl⟩;refine en_factK (p:=∃ aq cq,vq=.slice aq (mls (hearM W (absK K) [q.it])).length cq) (fun w h=>row_form (is_at h.hp.is 5 (c:=rowO 51 40 vq (mls (hearM W (absK K) [q.it])).length (mlCs (mls (hearM W (absK K) [q.it])))) rfl)) ?_;rintro ⟨aq,cq,rfl⟩;have hMl:(mls (hearM W (absK K) [q.it])).length≤1:=by have h:=hearM_len W [q.it] (absK K);unfold mls;rw [List.length_map];exact h
      have hin:∀ w:World,∀ x ∈ (mls (hearM W (absK K) [q.it])),CellsA w x.2.1 (subCells x.1.p.subs):=fun w x hx=>zero_in (by rw [mls_in hx];rfl)
      refine en_spec0 (r19_mails (al:=am) (an:=aq) (cm:=cm) (cn:=cq) (M:=(mls (hearM W (absK K) [q.it]))) (N:=(mls (hearM W (absK K) [q.it]))) (X:=X) rfl (by omega) (fun x hx=>by rw [mls_in hx];exact pz_ok) (fun w _ _=>⟨hin w,hin w⟩)) [] [0,4,2] [(0,4,38)] ?_;refine en E0 [.d (eN 11 [.c])] ?_;have eq1:z=(hearG (absK K) [q.it],[]):=by rw [← hz];unfold doesS;rw [if_neg hne];unfold actS;rw [if_neg hd,if_neg hd1,if_neg hd2,if_neg hd3,if_pos hd4]
      subst eq1;refine en_word 8 (lgC lg vl T ops) (lgC lg vl T (ops+((([]:List Nt).length:Nat):Int))) (by rw [show (ops+((([]:List Nt).length:Nat):Int))=ops by simp]) ?_;refine en_word 9 (lgQ ln vn N ops) (lgQ ln vn N (ops+((([]:List Nt).length:Nat):Int))) (by rw [show (ops+((([]:List Nt).length:Nat):Int))=ops by simp]) ?_;exact en_rets ⟨((K2,vl,T),rv2,R2,vn,N),hK2,hR2,by simp only;omega,by simp,by rw [hNT];simp⟩ [] [9,7,1,0,2] []
  by_cases hd5:q.d=5
  · refine en1 (EF [(.bool ((((q.d:Int)):Int) == 0),.bool false),(.bool ((((q.d:Int)):Int) == 1),.bool false),(.bool ((((q.d:Int)):Int) == 2),.bool false),(.bool ((((q.d:Int)):Int) == 3),.bool false),(.bool ((((q.d:Int)):Int) == 4),.bool false),(.bool ((((q.d:Int)):Int) == 5),.bool true)] ⟨eqI' (by omega),eqI' (by omega),eqI' (by omega),eqI' (by omega),eqI' (by omega),eqI (by omega),trivial⟩) [.x,.c,.c,.b 0 0,.f 0,.c,.f 1,.c,.f 2,.c,.f 3,.c,.f 4,.c,.f 5,.c,.g [(0,1,1)] 1000 false,.d [(0,.c),(1,.c),(2,.l 0 0),(4,.c),(5,.c),(6,.l 0 0)]] fun Y=>?_
    refine en_spec (gate_Drain (g:=g) (W:=W) (u:=u) (m:=m) (mb:=mb) (K:=K) q.cn) [] [0] [(0,1,1)] (fun y=>?_);obtain ⟨K2,hK2⟩:=y;have HQ:=r20_Drain (wb:=wb) (g:=r) (W:=W) (u:=u) (m:=m) (v:=rv) (K:=R) q.cn (by omega);rw [hKR] at HQ;refine en_spec (HQ) [] [1] [(0,1,1)] (fun y=>?_);obtain ⟨⟨rv2,R2⟩,hR2,hRl⟩:=y;simp only at hR2 hRl
    refine en (EF [(.bool (((drainG (absK K) q.cn):ByteArray).toList == ((drainG (absK K) q.cn):ByteArray).toList),.bool true)] ⟨eqS (rfl),trivial⟩) [.d (eN 8 [.f 0,.c])] ?_;have eq1:z=(modG dropD (absK K) q.cn,[]):=by rw [← hz];unfold doesS;rw [if_pos hd5]
    subst eq1;refine en_word 2 (lgC lg vl T ops) (lgC lg vl T (ops+((([]:List Nt).length:Nat):Int))) (by rw [show (ops+((([]:List Nt).length:Nat):Int))=ops by simp]) ?_;refine en_word 3 (lgQ ln vn N ops) (lgQ ln vn N (ops+((([]:List Nt).length:Nat):Int))) (by rw [show (ops+((([]:List Nt).length:Nat):Int))=ops by simp]) ?_;exact en_rets ⟨((K2,vl,T),rv2,R2,vn,N),hK2,hR2,by simp only;omega,by simp,by rw [hNT];simp⟩ [] [3,2,1,0,0] []
  refine en1 (EF [(.bool ((((q.d:Int)):Int) == 0),.bool false),(.bool ((((q.d:Int)):Int) == 1),.bool false),(.bool ((((q.d:Int)):Int) == 2),.bool false),(.bool ((((q.d:Int)):Int) == 3),.bool false),(.bool ((((q.d:Int)):Int) == 4),.bool false),(.bool ((((q.d:Int)):Int) == 5),.bool false)] ⟨eqI' (by omega),eqI' (by omega),eqI' (by omega),eqI' (by omega),eqI' (by omega),eqI' (by omega),trivial⟩) [.x,.c,.c,.b 0 0,.f 0,.c,.f 1,.c,.f 2,.c,.f 3,.c,.f 4,.c,.f 5,.c,.c] fun Y=>?_
  have eq1:z=(absK K,[]):=by rw [← hz];unfold doesS;rw [if_neg hd5];unfold actS;rw [if_neg hd,if_neg hd1,if_neg hd2,if_neg hd3,if_neg hd4]
  subst eq1;refine en_word 2 (lgC lg vl T ops) (lgC lg vl T (ops+((([]:List Nt).length:Nat):Int))) (by rw [show (ops+((([]:List Nt).length:Nat):Int))=ops by simp]) ?_;refine en_word 3 (lgQ ln vn N ops) (lgQ ln vn N (ops+((([]:List Nt).length:Nat):Int))) (by rw [show (ops+((([]:List Nt).length:Nat):Int))=ops by simp]) ?_;exact en_rets ⟨((K,vl,T),rv,R,vn,N),rfl,hKR,by simp only;omega,by simp,by rw [hNT];simp⟩ [] [2,2,1,0,0] []
end Go.Proofs.YtehpihmgjbmoaaaGreatDoor
