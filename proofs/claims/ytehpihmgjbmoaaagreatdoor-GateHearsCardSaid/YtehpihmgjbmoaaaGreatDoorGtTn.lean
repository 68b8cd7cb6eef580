import Derived.Test.YtehpihmgjbmoaaaGreatDoorJoinSR
import Derived.Test.YtehpihmgjbmoaaaGreatDoorJoinSH
import Derived.Test.YtehpihmgjbmoaaaGreatDoorJoinWR
import Derived.Test.YtehpihmgjbmoaaaGreatDoorJoinB
namespace Go.Proofs.YtehpihmgjbmoaaaGreatDoor
open Go.RowKit
attribute [local irreducible] Ok
structure Cn where
  num:Int
  st:Nat
  L:Bs
  e:Nat
  hung:Bool
  cl:ByteArray
  keep:Int
  last:Int
  leaves:Int
  drain:ByteArray
  sent:ByteArray
structure Ml where
  dst:Int
  lane:Int
  k:Nat
  op:Int
  cn:Int
  cl:ByteArray
  p:Pk
  many:Int
abbrev MlG:=Ml × Option Addr × Nat
def cnL (c:Cn) (x:Nat):List Value:=[.int .i64 c.num,.int .u8 (c.st:Int),.pointer (some ⟨x,0,none⟩),.bool c.hung,.string c.cl,.int .i64 c.keep,.int .i64 c.last,.int .i64 c.leaves,.string c.drain,.string c.sent]
def tnL (b W lg:Nat) (v:Value):List Value:=[.pointer (some ⟨b,0,none⟩),.int .i64 (W:Int),.pointer (some ⟨lg,0,none⟩),v]
def itL (k:Nat) (op cn:Int) (cl:ByteArray) (p:Pk) (a:Option Addr) (c:Nat) (many:Int):List Value:=[.int .u8 (k:Int),.int .i64 op,.int .i64 cn,.string cl,.string ⟨#[]⟩]++(pkV p a c).toList++[.string ⟨#[]⟩,.string ⟨#[]⟩,.int .u8 0,.bool false,.slice none 0 0,.slice none 0 0,.slice none 0 0,.int .i64 0,.int .i64 many]
def mlC (x:MlG):List Value:=[.int .i64 x.1.dst,.int .i64 x.1.lane]++itL x.1.k x.1.op x.1.cn x.1.cl x.1.p x.2.1 x.2.2 x.1.many
def mlCs (M:List MlG):List Value:=M.flatMap mlC
theorem mlC_one (x:MlG):∀ u ∈ mlC x,u.oneCell'=true:=by
  intro u hu;have h:(mlC x).all (·.oneCell')=true:=rfl;exact List.all_eq_true.1 h u hu
def mlK (v:Value) (M:List MlG):Chk:=many [rowO 51 40 v M.length (mlCs M),many (M.map fun x=>sbC (x.1.p,x.2))]
def Ml.zero:Ml:=⟨0,0,0,0,0,⟨#[]⟩,Pk.zero,0⟩
theorem gt_infoMl:(Tryz.prog.info? 51).map (fun i=>(i.zero,i.size,i.bytes))=some (some (.agg (mlC (Ml.zero,none,0)).toArray),40,400):=by kernel_rfl
theorem gt_infoPk:(Tryz.prog.info? 33).map (fun i=>(i.zero,i.size,i.bytes))=some (some (.agg (pkV Pk.zero none 0)),24,200):=by kernel_rfl
theorem mlK_form {w:World} {v:Value} {M:List MlG} (h:(rowO 51 40 v M.length (mlCs M)).is w):∃ a c,v=.slice a M.length c:=by obtain ⟨a,c,h1,_⟩:=own_form h;exact ⟨a,c,h1⟩
set_option maxRecDepth 100000 in
set_option maxHeartbeats 4000000 in
theorem turn_mail {wb:World} {t b x W lg k:Nat} {c:Cn} {v:Value} {M:List MlG} {op:Int} {p:Pk} {a:Option Addr} {c2:Nat} (hc:c.cl.size≤1000000) (hM:M.length≤100000):Spec Tryz.prog wb 59 #[.pointer (some ⟨t,0,none⟩),.agg (itL k op 0 ⟨#[]⟩ p a c2 0).toArray] [⟨t,tnL b W lg v,98⟩,⟨b,cnL c x,93⟩] [mlK v M,sbC (p,a,c2)] (fun _:Value=>.tuple #[]) (fun y=>[⟨t,tnL b W lg y,98⟩,⟨b,cnL c x,93⟩]) (fun y=>[mlK y (M++[(⟨homeL (bl c.cl) (W:Int),1,k,op,c.num,c.cl,p,0⟩,a,c2)])]):=by
  intro w H;refine en_call Tryz.func59 H ?_;obtain ⟨i0,hi,hz0,hz1,hz2⟩:=info_parts gt_infoMl;refine en_unpack 0 (mlK v M) _ ?_;refine en1 (EK [] trivial [⟨63,#[.string c.cl,.int .i64 (W:Int)],.int .i64 (homeL (bl c.cl) (W:Int)),[],[]⟩] ⟨fun _ w _ _=>shard_Home c.cl (W:Int) w (by omega),trivial⟩) [.x,.g [(0,0,1),(1,0,1),(1,4,1)] 17 false,.d (eN 0 (eC 3 (.l 0 0::.c::.c::.l 1 0::eC 3 [.l 0 0,.c,.c,.l 2 0,.c]))),.s 2 2,.d (eN 16 [.c]),.s 2 3,.g [(0,3,1),(0,0,1),(1,4,1),(0,1,1),(2,0,38)] 23 false,.d [(0,.c),(1,.c),(2,.c),(3,.c),(4,.l 0 0),(5,.c),(6,.c),(7,.c),(8,.l 1 0),(9,.c),(10,.c),(11,.l 2 0),(12,.c),(13,.c),(14,.c),(15,.l 3 0),(17,.l 4 0)],.k 0,.d (eN 18 [.c])] fun X=>?_
  refine en_ops (ops_one 46 51 46 (.agg (mlC (⟨homeL (bl c.cl) (W:Int),1,k,op,c.num,c.cl,p,0⟩,a,c2)).toArray) (mlC (⟨homeL (bl c.cl) (W:Int),1,k,op,c.num,c.cl,p,0⟩,a,c2)).toArray rfl i0 _ hz1.symm Tryz.underlying46 hi hz0 (by rw [hz1];decide) (by rw [hz1];decide) (by rw [hz1];kernel_rfl) (by rw [hz1];rfl)) [] [] [(0,3,1),(0,0,1),(1,4,1),(0,1,1),(2,0,38)] (fun d=>?_);refine en_ops (ops_app 46 46 51 i0 _ Tryz.underlying46 hi hz0 (hz1 ▸ rfl) (by rw [hz1];decide) (hz1.symm) (v:=v) (x:=.slice (some ⟨d,0,none⟩) 1 1) (n:=M.length) (m:=1) (xs:=mlCs M) (news:=mlC (⟨homeL (bl c.cl) (W:Int),1,k,op,c.num,c.cl,p,0⟩,a,c2)) (mlC_one _) (by unfold maxLen;omega) (by rw [hz2];omega)) [] [1,0] [(0,3,1),(0,0,1),(1,4,1),(0,1,1),(2,0,38)] (fun v'=>?_);obtain ⟨M',hM'⟩:∃ M',M'=M++[(⟨homeL (bl c.cl) (W:Int),1,k,op,c.num,c.cl,p,0⟩,a,c2)]:=⟨_,rfl⟩
  have e1:mlCs M++mlC (⟨homeL (bl c.cl) (W:Int),1,k,op,c.num,c.cl,p,0⟩,a,c2)=mlCs M':=by rw [hM'];unfold mlCs;simp
  have e2:M.length+1=M'.length:=by rw [hM'];simp
  rw [e1,e2];refine en_fact (p:=∃ a3 c3,v'=.slice a3 M'.length c3) (fun w h=>mlK_form (is_at h 0 (c:=rowO 51 40 v' M'.length (mlCs M')) rfl)) ?_;rintro ⟨a3,c3,rfl⟩;refine en E0 [.d (eN 21 [.c,.c]),.s 0 3] ?_;refine en_in [3,2] (many (M'.map fun x=>sbC (x.1.p,x.2))) (sbC (p,a,c2)) (M'.map fun x=>sbC (x.1.p,x.2)) (M.map fun x=>sbC (x.1.p,x.2)) (by rw [hM',List.map_append];exact (List.perm_append_singleton _ _).symm) ?_;refine en_pack [1,0] (mlK (.slice a3 M'.length c3) M') _ ?_;subst hM';exact en_rets (Value.slice a3 (M++[((⟨homeL (bl c.cl) (W:Int),1,k,op,c.num,c.cl,p,0⟩,a,c2):MlG)]).length c3) [0,0] [0] []
def askN (op cn:Int) (cl:ByteArray) (p:Pk):Nt:={ Nt.zero with kind:=1,op:=op,conn:=cn,client:=cl,p:=p }
def askM (W k:Nat) (op:Int) (c:Cn) (p:Pk):Ml:=⟨homeL (bl c.cl) (W:Int),1,k,op,c.num,c.cl,p,0⟩
set_option maxRecDepth 100000 in
set_option maxHeartbeats 4000000 in
theorem turn_noted {wb:World} {t b x W lg:Nat} {c:Cn} {v vl:Value} {T:List NtG} {ops:Int} {p:Pk} {a:Option Addr} {c2:Nat} (h0:0≤ops) (h1:ops≤100000) (hT:T.length≤10000) (hp:p.subs.length≤100000000):Spec Tryz.prog wb 62 #[.pointer (some ⟨t,0,none⟩),.agg (pkV p a c2)] [⟨t,tnL b W lg v,98⟩,⟨b,cnL c x,93⟩] [lgC lg vl T ops,sbC (p,a,c2)] (fun _:Value × Option Addr × Nat=>.int .i64 (ops+1)) (fun _=>[⟨t,tnL b W lg v,98⟩,⟨b,cnL c x,93⟩]) (fun y=>[lgC lg y.1 (T++[(askN (ops+1) c.num c.cl p,y.2)]) (ops+1),sbC (p,a,c2)]):=by
  intro w H;refine en_call Tryz.func62 H ?_;refine en1 E0 (.x::eC 4 [.b 0 2]) fun X=>?_
  refine en_spec0 (record_Op (g:=lg) (v:=vl) (T:=T) (ops:=ops) h0 (by omega)) [] [0] [] ?_;refine en E0 [.c,.g [(0,2,1),(0,0,1),(1,0,1),(1,4,1),(2,0,24)] 1000 false,.d (eN 0 (eC 3 (.l 0 0::eC 4 (.l 1 0::.c::.c::.l 2 0::eC 3 [.l 1 0,.c,.c,.l 3 0,.l 4 0,.c]))))] ?_;refine en_spec (record_Add (g:=lg) (v:=vl) (T:=T) (ops:=ops+1) (askN (ops+1) c.num c.cl p) a c2 hp (by omega)) [] [0,0] [(0,2,1),(0,0,1),(1,0,1),(1,4,1),(2,0,24)] (fun y=>?_);obtain ⟨v',y⟩:=y;refine en E0 [.c,.c] ?_;exact en_rets (v',y) [0,0] [0,0] []
set_option maxRecDepth 100000 in
set_option maxHeartbeats 4000000 in
theorem turn_asks {wb:World} {t b x W lg s:Nat} {c:Cn} {v vl:Value} {M:List MlG} {T:List NtG} {ops:Int} {p:Pk} {a:Option Addr} {c2:Nat} (hc:c.cl.size≤1000000) (hM:M.length≤100000) (h0:0≤ops) (h1:ops≤100000) (hT:T.length≤10000) (hp:p.subs.length≤100000000):Spec Tryz.prog wb 57 #[.pointer (some ⟨t,0,none⟩),.agg (pkV p a c2),.int .u8 (s:Int)] [⟨t,tnL b W lg v,98⟩,⟨b,cnL c x,93⟩] [mlK v M,lgC lg vl T ops,sbC (p,a,c2)] (fun _:Value × Value × Option Addr × Nat=>.int .i64 (ops+1)) (fun y=>[⟨t,tnL b W lg y.1,98⟩,⟨b,cnL { c with st:=s } x,93⟩]) (fun y=>[mlK y.1 (M++[(askM W 1 (ops+1) c p,a,c2)]),lgC lg y.2.1 (T++[(askN (ops+1) c.num c.cl p,y.2.2)]) (ops+1)]):=by
  intro w H;refine en_call Tryz.func57 H ?_;refine en1 E0 [.x,.c,.c,.b 2 0] fun X=>?_
  refine en_spec (turn_noted (t:=t) (b:=b) (x:=x) (W:=W) (lg:=lg) (c:=c) (v:=v) (vl:=vl) (T:=T) (ops:=ops) (p:=p) (a:=a) (c2:=c2) h0 h1 hT hp) [0,0] [1,1] [] (fun y=>?_);obtain ⟨vl',y⟩:=y;refine en E0 (eC 3 [.b 2 0,.c]) ?_;refine en_spec (turn_mail (t:=t) (b:=b) (x:=x) (W:=W) (lg:=lg) (c:=c) (v:=v) (M:=M) (p:=p) (a:=a) (c2:=c2) (k:=1) (op:=ops+1) hc hM) [0,0] [2,1] [] (fun v'=>?_);refine en E0 (eC 3 (.b 0 0::eC 3 [.s 1 1,.c,.c])) ?_;exact en_rets (v',vl',y) [0,0] [0,0] []
set_option maxRecDepth 100000 in
set_option maxHeartbeats 4000000 in
theorem turn_cutF {wb:World} {t b x W lg:Nat} {c:Cn} {v:Value} (hs:c.st≠3):Spec Tryz.prog wb 41 #[.pointer (some ⟨t,0,none⟩)] [⟨t,tnL b W lg v,98⟩,⟨b,cnL c x,93⟩] [] (fun _:Unit=>.tuple #[]) (fun _=>[⟨t,tnL b W lg v,98⟩,⟨b,cnL { c with st:=6 } x,93⟩]) (fun _=>[]):=by
  intro w H;refine en_call Tryz.func41 H ?_;refine en (EF [(.bool ((((c.st:Int)):Int) == 3),.bool false)] ⟨eqI' (by omega),trivial⟩) (eC 3 (.b 0 0::.c::.c::.b 1 1::.f 0::eC 3 [.b 0 0,.c,.c,.s 1 1])) ?_;exact en_rets () [0,0] [] []
set_option maxRecDepth 100000 in
set_option maxHeartbeats 4000000 in
theorem turn_cutL {wb:World} {t b x W lg:Nat} {c:Cn} {v vl:Value} {M:List MlG} {T:List NtG} {ops:Int} (hc:c.cl.size≤1000000) (hM:M.length≤100000) (h0:0≤ops) (h1:ops≤100000) (hT:T.length≤10000) (hs:c.st=3):Spec Tryz.prog wb 41 #[.pointer (some ⟨t,0,none⟩)] [⟨t,tnL b W lg v,98⟩,⟨b,cnL c x,93⟩] [mlK v M,lgC lg vl T ops] (fun _:Value × Value × Option Addr × Nat=>.tuple #[]) (fun y=>[⟨t,tnL b W lg y.1,98⟩,⟨b,cnL { c with st:=6 } x,93⟩]) (fun y=>[mlK y.1 (M++[(askM W 2 (ops+1) c Pk.zero,none,0)]),lgC lg y.2.1 (T++[(askN (ops+1) c.num c.cl Pk.zero,y.2.2)]) (ops+1)]):=by
  intro w H;refine en_call Tryz.func41 H ?_;refine en_new0 (sbC (Pk.zero,none,0)) ?_ (fun w=>World.ownsRow_nil w 0 _ _) (fun j h=>by cases h);refine en (EF [(.bool ((((c.st:Int)):Int) == 3),.bool true)] ⟨eqI (by omega),trivial⟩) (eC 3 (.b 0 0::.c::.c::.b 1 1::.f 0::eC 3 [])) ?_;refine en_spec (turn_noted (t:=t) (b:=b) (x:=x) (W:=W) (lg:=lg) (c:=c) (v:=v) (vl:=vl) (T:=T) (ops:=ops) h0 h1 hT (p:=Pk.zero) (a:=none) (c2:=0) (by decide)) [0,0] [2,0] [] (fun y=>?_);obtain ⟨vl',y⟩:=y;refine en E0 [.c] ?_;refine en_spec (turn_mail (t:=t) (b:=b) (x:=x) (W:=W) (lg:=lg) (c:=c) (v:=v) (M:=M) (k:=2) (op:=ops+1) (p:=Pk.zero) (a:=none) (c2:=0) hc hM) [0,0] [2,1] [] (fun v'=>?_);refine en E0 (eC 3 [.b 0 0,.c,.c,.s 1 1]) ?_;exact en_rets (v',vl',y) [0,0] [0,0] []
def snd1 (d:ByteArray) (p:Pk):ByteArray:=if encE p=0 then d++encS p else d
def sndS (d:ByteArray) (ps:List Pk):ByteArray:=ps.foldl snd1 d
def sndC (c:Cn) (ps:List Pk):Cn:={ c with drain:=sndS c.drain ps,sent:=sndS c.sent ps }
theorem snd_size:∀ (ps:List Pk) (d:ByteArray) (_:∀ p ∈ ps,(encS p).size≤1000000000),(sndS d ps).size≤d.size+ps.length * 1000000000
  | [],d,_=>by simp [sndS]
  | p::ps,d,h=>by
    have h1:=snd_size ps (snd1 d p) (fun q hq=>h q (List.mem_cons_of_mem _ hq));have h2:=h p List.mem_cons_self;have h3:(snd1 d p).size≤d.size+1000000000:=by
      unfold snd1;split
      · rw [ByteArray.size_append];omega
      · omega
    show (sndS (snd1 d p) ps).size≤_;rw [List.length_cons];omega
theorem snd_snoc (d:ByteArray) (ps:List Pk) (p:Pk):sndS d (ps++[p])=snd1 (sndS d ps) p:=by unfold sndS;rw [List.foldl_append];rfl
def ctT (a b:Value) (ty:TypeId):Sem Next:=opT [a,b] (.binOp .add 9 (.tmp 0) (.tmp 1) 9) ty
theorem ct_run {x y:ByteArray} (h:x.size+y.size≤9223372036854775807) {w:World} (ty:TypeId):(ctT (.string x) (.string y) ty).run Tryz.prog w=.ok (.value (.string (x++y))) w:=by
  unfold ctT opT execOp;have hm:¬ ((x.size+y.size:Nat):Int) > IntKind.i64.max:=by
    show ¬ ((x.size+y.size:Nat):Int) > 9223372036854775807;omega
  have e0:∀ x y:Value,known (numL 0 [x,y]) (.tmp 0)=x:=fun _ _=>rfl
  have e1:∀ x y:Value,known (numL 0 [x,y]) (.tmp 1)=y:=fun _ _=>rfl
  simp only [binOp,eqGuard,Op.stringOp,e0,e1];rw [if_neg hm];rfl
set_option maxRecDepth 100000 in
set_option maxHeartbeats 4000000 in
theorem conn_send {wb:World} {b x cap:Nat} {c:Cn} {A:Option Addr} {ps:List PkE} {X:Chk} (hX:∀ w,Below wb.heap.size wb w→X.is w→CellsA w A (pkCells ps)∧∀ p ∈ ps,PkIn w p) (hs:∀ p ∈ ps,(encS p.1).size≤1000000000) (hn:ps.length≤100000) (hd:c.drain.size≤1000000000000000) (hd2:c.sent.size≤1000000000000000):Spec Tryz.prog wb 58 #[.pointer (some ⟨b,0,none⟩),.slice A ps.length cap] [⟨b,cnL c x,93⟩] [X] (fun _:Unit=>.tuple #[]) (fun _=>[⟨b,cnL (sndC c (ps.map (·.1))) x,93⟩]) (fun _=>[X]):=by
  intro w H;refine en_call Tryz.func58 H ?_;refine en E0 (eC 3 []) ?_;refine en_loop (α:=Nat) (fun k=>ps.length - k) (fun k=>[(0,.pointer (some ⟨b,0,none⟩)),(8,.slice A ps.length cap),(9,.int .i64 (ps.length:Int)),(10,.int .i64 (k:Int))]) (fun k=>[⟨b,cnL (sndC c ((ps.take k).map (·.1))) x,93⟩]) (fun k=>many [X]) 0 (by kernel_rfl) ?_;intro k J HJ;rcases Nat.lt_or_ge k ps.length with hk | hk
  · obtain ⟨q,hq⟩:∃ q,ps[k]? = some q:=⟨_,List.getElem?_eq_getElem hk⟩
    have hqm:q ∈ ps:=List.mem_of_getElem? hq;have e1:(ps.take (k+1)).map (·.1)=(ps.take k).map (·.1)++[q.1]:=by rw [List.take_add_one,hq,List.map_append];rfl
    have hl:((ps.take k).map (·.1)).length≤100000:=by rw [List.length_map,List.length_take];omega
    have hb:∀ p ∈ (ps.take k).map (·.1),(encS p).size≤1000000000:=by intro p hp;obtain ⟨y,hy,rfl⟩:=List.mem_map.1 hp;exact hs y (List.mem_of_mem_take hy)
    have hz1:=snd_size _ c.drain hb;have hz2:=snd_size _ c.sent hb;have hz3:=hs q hqm;refine en_factK (p:=∃ g o,A=some ⟨g,o,none⟩) (fun w h=>by obtain ⟨g,o,h1,_⟩:=pk_range (hX w h.hp.low (is_at h.hp.is 0 (c:=X) rfl)).1 hq;exact ⟨g,o,h1⟩) ?_;rintro ⟨g,o,rfl⟩;have HR:∀ w,Below wb.heap.size wb w→X.is w→w.rangeAt g (o+k * 24) (pkC q):=fun w h1 h2=>by
      obtain ⟨g',o',h3,h4,_⟩:=pk_range (hX w h1 h2).1 hq;injection h3 with h3
      injection h3 with h3 h5
      subst h3 h5;exact h4
    have HP:∀ w,Below wb.heap.size wb w→X.is w→PkIn w q:=fun w h1 h2=>(hX w h1 h2).2 q hqm
    refine en1 ⟨⟨[⟨g,o+k * 24,pkC q⟩],[]⟩,[(.bool (decide ((((k:Int)):Int) < (ps.length:Int))),.bool true)],[⟨some ⟨g,o,none⟩,ps.length,cap,.i64,k,24,⟨g,o+k * 24,none⟩⟩],[⟨77,#[.agg (pkV q.1 q.2.1 q.2.2)],.tuple #[.string (encS q.1),.int .i64 (encE q.1)],[],[]⟩],fun _ _ h=>⟨⟨HR _ h.hp.low (is_at h.hp.is 0 (c:=X) rfl),trivial⟩,trivial⟩,⟨dcT (by omega),trivial⟩,⟨⟨g,o,k,rfl,rfl,hk,rfl⟩,trivial⟩,⟨fun _ w h _=>have hp:=HP w h.hp.low (is_at h.hp.is 0 (c:=X) rfl);write_Encode q.1 q.2.1 q.2.2 w h.hp.env hp.ok hp.row,trivial⟩⟩ (.f 0::.i 0::.l 0 0::.n::.s 1 0::.b 1 0::.k 0::eC 6 []) fun Y=>?_
    by_cases he:encE q.1=0
    · have e2:snd1 (sndS c.drain ((ps.take k).map (·.1))) q.1=(sndS c.drain ((ps.take k).map (·.1)))++encS q.1:=by unfold snd1;rw [if_pos he]
      have e3:snd1 (sndS c.sent ((ps.take k).map (·.1))) q.1=(sndS c.sent ((ps.take k).map (·.1)))++encS q.1:=by unfold snd1;rw [if_pos he]
      rw [← snd_snoc,← e1] at e2 e3;refine en ⟨⟨[],[(ctT (.string (sndS c.drain ((ps.take k).map (·.1)))) (.string (encS q.1)) 9,.string (sndS c.drain ((ps.take (k+1)).map (·.1)))),(ctT (.string (sndS c.sent ((ps.take k).map (·.1)))) (.string (encS q.1)) 9,.string (sndS c.sent ((ps.take (k+1)).map (·.1))))]⟩,[(.bool ((((encE q.1)):Int) == 0),.bool true),(.int .i64 (IntKind.i64.wrap ((k:Int)+1)),.int .i64 ((k+1:Nat):Int))],[],[],fun _ _ h=>⟨trivial,⟨by rw [e2];exact ct_run (by omega) 9,by rw [e3];exact ct_run (by omega) 9,trivial⟩⟩,⟨eqI (he),addI (by omega),trivial⟩,trivial,trivial⟩ (.f 0::eC 3 (.b 0 8::.c::.r 0::.c::.c::.s 0 8::eC 3 [.b 0 9,.c,.r 1,.c,.c,.s 0 9,.f 1,.c])) ?_;refine en_drop [0] [0] ?_;exact en_stopI (fun a w F HK=>HJ (k+1) a w (by omega) F HK)
    · have e2:snd1 (sndS c.drain ((ps.take k).map (·.1))) q.1=sndS c.drain ((ps.take k).map (·.1)):=by unfold snd1;rw [if_neg he]
      have e3:snd1 (sndS c.sent ((ps.take k).map (·.1))) q.1=sndS c.sent ((ps.take k).map (·.1)):=by unfold snd1;rw [if_neg he]
      rw [← snd_snoc,← e1] at e2 e3;have e4:sndC c ((ps.take (k+1)).map (·.1))=sndC c ((ps.take k).map (·.1)):=by unfold sndC;rw [e2,e3]
      replace HJ:=HJ (k+1);rw [e4] at HJ;refine en (EF [(.bool ((((encE q.1)):Int) == 0),.bool false),(.int .i64 (IntKind.i64.wrap ((k:Int)+1)),.int .i64 ((k+1:Nat):Int))] ⟨eqI' (he),addI (by omega),trivial⟩) [.f 0,.f 1,.c] ?_;refine en_drop [0] [0] ?_;exact en_stopI (fun a w F HK=>HJ  a w (by omega) F HK)
  have e1:ps.take k=ps:=List.take_of_length_le hk;rw [e1];refine en (EF [(.bool (decide ((((k:Int)):Int) < (ps.length:Int))),.bool false)] ⟨dcF (by omega),trivial⟩) [.f 0] ?_;exact en_rets () [0] [0] []
theorem enc_size {p:Pk} (hp:PkOk p):(encS p).size≤300000000:=by
  unfold encS;split
  · decide
  · rename_i h
    have h2:restP p≤268435455:=by unfold restP restOf;split <;> omega
    have h3:lenS (restP p).toNat≤4:=by unfold lenS;repeat (split <;> try omega)
    rw [bB_size,encB_len p hp (by omega)];omega
def ackP (code:Nat):Pk:={ Pk.zero with ty:=2,code:=code }
def pingP:Pk:={ Pk.zero with ty:=13 }
theorem pz_ok:PkOk Pk.zero:=⟨by decide,by decide,by decide,by decide,by decide,by decide,by decide,by decide,by decide,by decide,by decide,by decide,by decide,by decide,by decide,by decide,fun x hx=>(by cases hx)⟩
theorem ack_ok {code:Nat} (h:code < 256):PkOk (ackP code):=⟨show 2 < 256 by decide,pz_ok.qos,pz_ok.id,pz_ok.level,pz_ok.keep,pz_ok.wqos,h,pz_ok.topic,pz_ok.payload,pz_ok.client,pz_ok.wtopic,pz_ok.wpayload,pz_ok.user,pz_ok.pass,pz_ok.codes,pz_ok.few,pz_ok.each⟩
theorem ping_ok:PkOk pingP:=⟨show 13 < 256 by decide,pz_ok.qos,pz_ok.id,pz_ok.level,pz_ok.keep,pz_ok.wqos,pz_ok.code,pz_ok.topic,pz_ok.payload,pz_ok.client,pz_ok.wtopic,pz_ok.wpayload,pz_ok.user,pz_ok.pass,pz_ok.codes,pz_ok.few,pz_ok.each⟩
theorem one_in {wb:World} {d:Nat} {p:Pk} (hp:PkOk p) (hs:p.subs=[]):∀ w,Below wb.heap.size wb w→(rowO 33 24 (.slice (some ⟨d,0,none⟩) 1 1) 1 (pkV p none 0).toList).is w→CellsA w (some ⟨d,0,none⟩) (pkCells [(p,none,0)])∧∀ q ∈ [((p,none,0):PkE)],PkIn w q:=fun w _ h=>by
  refine ⟨?_,fun q hq=>?_⟩
  · have h2:=own_cells (show w.ownsRow 0 33 24 _ 1 (pkV p none 0).toList from h)
    unfold pkCells;rw [List.flatMap_cons,List.flatMap_nil,List.append_nil];exact h2
  · rw [List.mem_singleton] at hq
    subst hq;exact ⟨hp,by show CellsA w none (subCells p.subs);rw [hs];exact CellsA.nil _ _⟩
set_option maxRecDepth 100000 in
set_option maxHeartbeats 4000000 in
theorem turn_refuse {wb:World} {t b x W lg code:Nat} {c:Cn} {v:Value} (hq:code < 256) (hd:c.drain.size≤1000000000000000) (hd2:c.sent.size≤1000000000000000):Spec Tryz.prog wb 56 #[.pointer (some ⟨t,0,none⟩),.int .u8 (code:Int)] [⟨t,tnL b W lg v,98⟩,⟨b,cnL c x,93⟩] [] (fun _:Unit=>.tuple #[]) (fun _=>[⟨t,tnL b W lg v,98⟩,⟨b,cnL { sndC c [ackP code] with st:=6 } x,93⟩]) (fun _=>[]):=by
  intro w H;refine en_call Tryz.func56 H ?_;obtain ⟨i0,hi,hz0,hz1,hz2⟩:=info_parts gt_infoPk;refine en E0 (eC 3 [.b 0 0,.c,.c]) ?_;refine en_ops (ops_one 36 33 36 (.agg (pkV (ackP code) none 0)) (pkV (ackP code) none 0) rfl i0 _ hz1.symm Tryz.underlying36 hi hz0 (by rw [hz1];decide) (by rw [hz1];decide) (by rw [hz1];kernel_rfl) (by rw [hz1];rfl)) [] [] [] (fun d=>?_);refine en_spec0 (conn_send (b:=b) (x:=x) (cap:=1) (c:=c) (ps:=[((ackP code),none,0)]) (one_in (d:=d) (p:=(ackP code)) (ack_ok hq) rfl) (by intro q hq;rw [List.mem_singleton] at hq;subst hq;exact Nat.le_trans (enc_size (ack_ok hq)) (by decide)) (show 1≤100000 by decide) hd hd2) [1] [0] [] ?_;refine en E0 (eC 3 [.b 1 0,.c,.c,.s 0 1]) ?_;exact en_rets () [1,0] [] []
def freshA (p:Pk):Bool:=decide (p.ty=1) && (decide (p.level=4) && (decide (p.client.size≠0) && decide (p.client.size≤64)))
def freshN (c:Cn) (p:Pk):Cn:=if p.ty≠1 then { c with st:=6 } else if p.level≠4 then { sndC c [ackP 1] with st:=6 } else { sndC c [ackP 2] with st:=6 }
def hasCl (c:Cn) (p:Pk):Cn:={ c with cl:=p.client,keep:=(p.keep:Int) }
theorem str_nil {s:ByteArray} (h:s.size=0):s=⟨#[]⟩:=by
  rcases s with ⟨⟨l⟩⟩
  have h2:l.length=0:=h;rw [List.eq_nil_of_length_eq_zero h2]
theorem str_neG {s:ByteArray} (h:s.size≠0):s≠⟨#[]⟩:=fun e=>h (by rw [e];rfl)
set_option maxRecDepth 100000 in
set_option maxHeartbeats 4000000 in
theorem turn_freshN {wb:World} {t b x W lg:Nat} {c:Cn} {v:Value} {p:Pk} {a:Option Addr} {c2:Nat} (hf:freshA p=false) (hst:c.st=1) (hd:c.drain.size≤1000000000000000) (hd2:c.sent.size≤1000000000000000):Spec Tryz.prog wb 38 #[.pointer (some ⟨t,0,none⟩),.agg (pkV p a c2)] [⟨t,tnL b W lg v,98⟩,⟨b,cnL c x,93⟩] [] (fun _:Unit=>.tuple #[]) (fun _=>[⟨t,tnL b W lg v,98⟩,⟨b,cnL (freshN c p) x,93⟩]) (fun _=>[]):=by
  obtain ⟨z,hz⟩:∃ z,freshN c p=z:=⟨_,rfl⟩
  rw [hz];intro w H;refine en_call Tryz.func38 H ?_;by_cases h1:p.ty≠1
  · refine en1 (EF [(.bool ((((p.ty:Int)):Int) != 1),.bool true)] ⟨neI (by omega),trivial⟩) [.x,.c,.b 2 0,.f 0,.c,.c] fun X=>?_
    refine en_spec0 (turn_cutF (t:=t) (b:=b) (x:=x) (W:=W) (lg:=lg) (c:=c) (v:=v) (by omega)) [0,0] [] [] ?_;have e1:z={ c with st:=6 }:=by rw [← hz];unfold freshN;rw [if_pos h1]
    subst e1;exact en_rets () [0,0] [] []
  by_cases h2:p.level≠4
  · refine en1 (EF [(.bool ((((p.ty:Int)):Int) != 1),.bool false),(.bool ((((p.level:Int)):Int) != 4),.bool true)] ⟨neI' (by omega),neI (by omega),trivial⟩) [.x,.c,.b 2 0,.f 0,.c,.c,.b 2 7,.f 1,.c,.c] fun X=>?_
    refine en_spec0 (turn_refuse (t:=t) (b:=b) (x:=x) (W:=W) (lg:=lg) (c:=c) (v:=v) (code:=1) (by decide) hd hd2) [0,0] [] [] ?_;have e1:z={ sndC c [ackP 1] with st:=6 }:=by rw [← hz];unfold freshN;rw [if_neg h1,if_pos h2]
    subst e1;exact en_rets () [0,0] [] []
  by_cases h3:p.client.size=0
  · refine en1 (EF [(.bool ((((p.ty:Int)):Int) != 1),.bool false),(.bool ((((p.level:Int)):Int) != 4),.bool false),(.bool ((p.client:ByteArray).toList == (⟨#[]⟩:ByteArray).toList),.bool true)] ⟨neI' (by omega),neI' (by omega),eqS (str_nil h3),trivial⟩) (.x::.c::.b 2 0::.f 0::.c::.c::.b 2 7::.f 1::.c::.c::.b 2 10::.f 2::eC 8 []) fun X=>?_
    refine en_spec0 (turn_refuse (t:=t) (b:=b) (x:=x) (W:=W) (lg:=lg) (c:=c) (v:=v) (code:=2) (by decide) hd hd2) [0,0] [] [] ?_;have e1:z={ sndC c [ackP 2] with st:=6 }:=by rw [← hz];unfold freshN;rw [if_neg h1,if_neg h2]
    subst e1;exact en_rets () [0,0] [] []
  have h4:64 < p.client.size:=by
    unfold freshA at hf;simp only [Bool.and_eq_false_iff,decide_eq_false_iff_not] at hf;omega
  refine en1 (EF [(.bool ((((p.ty:Int)):Int) != 1),.bool false),(.bool ((((p.level:Int)):Int) != 4),.bool false),(.bool ((p.client:ByteArray).toList == (⟨#[]⟩:ByteArray).toList),.bool false),(.bool (decide (((((p.client).size:Int)):Int) > 64)),.bool true)] ⟨neI' (by omega),neI' (by omega),eqS' (str_neG h3),dcT (by omega),trivial⟩) (.x::.c::.b 2 0::.f 0::.c::.c::.b 2 7::.f 1::.c::.c::.b 2 10::.f 2::.c::.c::.b 2 10::.c::.f 3::eC 3 []) fun X=>?_
  refine en_spec0 (turn_refuse (t:=t) (b:=b) (x:=x) (W:=W) (lg:=lg) (c:=c) (v:=v) (code:=2) (by decide) hd hd2) [0,0] [] [] ?_;have e1:z={ sndC c [ackP 2] with st:=6 }:=by rw [← hz];unfold freshN;rw [if_neg h1,if_neg h2]
  subst e1;exact en_rets () [0,0] [] []
set_option maxRecDepth 100000 in
set_option maxHeartbeats 4000000 in
theorem turn_freshA {wb:World} {t b x W lg:Nat} {c:Cn} {v vl:Value} {M:List MlG} {T:List NtG} {ops:Int} {p:Pk} {a:Option Addr} {c2:Nat} (hf:freshA p=true) (hk:p.keep < 65536) (hM:M.length≤100000) (h0:0≤ops) (h1:ops≤100000) (hT:T.length≤10000) (hp:p.subs.length≤100000000):Spec Tryz.prog wb 38 #[.pointer (some ⟨t,0,none⟩),.agg (pkV p a c2)] [⟨t,tnL b W lg v,98⟩,⟨b,cnL c x,93⟩] [mlK v M,lgC lg vl T ops,sbC (p,a,c2)] (fun _:Value × Value × Option Addr × Nat=>.tuple #[]) (fun y=>[⟨t,tnL b W lg y.1,98⟩,⟨b,cnL { hasCl c p with st:=2 } x,93⟩]) (fun y=>[mlK y.1 (M++[(askM W 1 (ops+1) (hasCl c p) p,a,c2)]),lgC lg y.2.1 (T++[(askN (ops+1) c.num p.client p,y.2.2)]) (ops+1)]):=by
  unfold freshA at hf;simp only [Bool.and_eq_true,decide_eq_true_eq] at hf;intro w H;refine en_call Tryz.func38 H ?_;refine en1 (EF [(.bool ((((p.ty:Int)):Int) != 1),.bool false),(.bool ((((p.level:Int)):Int) != 4),.bool false),(.bool ((p.client:ByteArray).toList == (⟨#[]⟩:ByteArray).toList),.bool false),(.bool (decide (((((p.client).size:Int)):Int) > 64)),.bool false),(.int .i64 (IntKind.i64.wrap (p.keep:Int)),.int .i64 (p.keep:Int))] ⟨neI' (by omega),neI' (by omega),eqS' (str_neG hf.2.2.1),dcF (by omega),by show Value.int .i64 (IntKind.i64.wrap (p.keep:Int))=.int .i64 (p.keep:Int);congr 1;rw [IntKind.wrap_i64];omega,trivial⟩) [.x,.c,.b 2 0,.f 0,.c,.c,.b 2 7,.f 1,.c,.c,.b 2 10,.f 2,.c,.c,.b 2 10,.c,.f 3,.c,.c,.g [(0,0,1),(2,10,1),(2,9,1)] 18 false,.d (eN 0 (eC 3 (.l 0 0::eC 3 [.l 0 0,.c,.l 1 0,.c,.l 2 0,.f 4,.c,.c]))),.s 1 4,.d (eN 16 [.c,.c]),.s 1 5,.c,.b 2 0] fun X=>?_
  refine en_spec (turn_asks (t:=t) (b:=b) (x:=x) (W:=W) (lg:=lg) (s:=2) (c:=hasCl c p) (v:=v) (vl:=vl) (M:=M) (T:=T) (ops:=ops) (p:=p) (a:=a) (c2:=c2) (by show p.client.size≤1000000;omega) hM h0 h1 hT hp) [0,0] [0,0,0] [] (fun y=>?_);obtain ⟨v',vl',y⟩:=y;exact en_rets (v',vl',y) [0,0] [0,0] []
def liveA (p:Pk):Bool:=decide (p.ty=8) || (decide (p.ty=10) || decide (p.ty=3))
def liveB (p:Pk):Bool:=decide (p.ty=4) || (decide (p.ty=5) || (decide (p.ty=6) || decide (p.ty=7)))
set_option maxRecDepth 100000 in
set_option maxHeartbeats 4000000 in
theorem turn_liveP {wb:World} {t b x W lg:Nat} {c:Cn} {v:Value} {p:Pk} {a:Option Addr} {c2:Nat} (hy:p.ty=12) (hd:c.drain.size≤1000000000000000) (hd2:c.sent.size≤1000000000000000):Spec Tryz.prog wb 39 #[.pointer (some ⟨t,0,none⟩),.agg (pkV p a c2)] [⟨t,tnL b W lg v,98⟩,⟨b,cnL c x,93⟩] [] (fun _:Unit=>.tuple #[]) (fun _=>[⟨t,tnL b W lg v,98⟩,⟨b,cnL (sndC c [pingP]) x,93⟩]) (fun _=>[]):=by
  intro w H;refine en_call Tryz.func39 H ?_;obtain ⟨i0,hi,hz0,hz1,hz2⟩:=info_parts gt_infoPk;refine en1 (EF [(.bool ((((p.ty:Int)):Int) == 12),.bool true)] ⟨eqI (by omega),trivial⟩) (.x::.c::.b 2 0::.f 0::eC 4 [.b 0 0,.c]) fun X=>?_
  refine en_ops (ops_one 36 33 36 (.agg (pkV pingP none 0)) (pkV pingP none 0) rfl i0 _ hz1.symm Tryz.underlying36 hi hz0 (by rw [hz1];decide) (by rw [hz1];decide) (by rw [hz1];kernel_rfl) (by rw [hz1];rfl)) [] [] [] (fun d=>?_);refine en_spec0 (conn_send (b:=b) (x:=x) (cap:=1) (c:=c) (ps:=[(pingP,none,0)]) (one_in (d:=d) (p:=pingP) (ping_ok) rfl) (by intro q hq;rw [List.mem_singleton] at hq;subst hq;exact Nat.le_trans (enc_size (ping_ok)) (by decide)) (show 1≤100000 by decide) hd hd2) [1] [0] [] ?_;exact en_rets () [1,0] [] []
set_option maxRecDepth 100000 in
set_option maxHeartbeats 4000000 in
theorem turn_liveD {wb:World} {t b x W lg:Nat} {c:Cn} {v vl:Value} {M:List MlG} {T:List NtG} {ops:Int} {p:Pk} {a:Option Addr} {c2:Nat} (hy:p.ty=14) (hc:c.cl.size≤1000000) (hM:M.length≤100000) (h0:0≤ops) (h1:ops≤100000) (hT:T.length≤10000) (hp:p.subs.length≤100000000):Spec Tryz.prog wb 39 #[.pointer (some ⟨t,0,none⟩),.agg (pkV p a c2)] [⟨t,tnL b W lg v,98⟩,⟨b,cnL c x,93⟩] [mlK v M,lgC lg vl T ops,sbC (p,a,c2)] (fun _:Value × Value × Option Addr × Nat=>.tuple #[]) (fun y=>[⟨t,tnL b W lg y.1,98⟩,⟨b,cnL { c with st:=5,leaves:=ops+1 } x,93⟩]) (fun y=>[mlK y.1 (M++[(askM W 1 (ops+1) c p,a,c2)]),lgC lg y.2.1 (T++[(askN (ops+1) c.num c.cl p,y.2.2)]) (ops+1)]):=by
  intro w H;refine en_call Tryz.func39 H ?_;refine en1 (EF [(.bool ((((p.ty:Int)):Int) == 12),.bool false),(.bool ((((p.ty:Int)):Int) == 14),.bool true)] ⟨eqI' (by omega),eqI (by omega),trivial⟩) [.x,.c,.b 2 0,.f 0,.c,.f 1,.c,.g [(0,0,1),(2,0,24)] 9 false,.d (eN 0 (eC 3 [.l 0 0,.c,.l 1 0]))] fun X=>?_
  refine en_spec (turn_asks (t:=t) (b:=b) (x:=x) (W:=W) (lg:=lg) (c:=c) (v:=v) (vl:=vl) (M:=M) (T:=T) (ops:=ops) (p:=p) (a:=a) (c2:=c2) (s:=5) hc hM h0 h1 hT hp) [0,0] [0,0,0] [(0,0,1),(2,0,24)] (fun y=>?_);obtain ⟨v',vl',y⟩:=y;refine en E0 [.d (eN 7 [.c,.c]),.s 1 7] ?_;exact en_rets (v',vl',y) [0,0] [0,0] []
set_option maxRecDepth 100000 in
set_option maxHeartbeats 4000000 in
theorem turn_liveA {wb:World} {t b x W lg:Nat} {c:Cn} {v vl:Value} {M:List MlG} {T:List NtG} {ops:Int} {p:Pk} {a:Option Addr} {c2:Nat} (hy:liveA p=true) (hc:c.cl.size≤1000000) (hM:M.length≤100000) (h0:0≤ops) (h1:ops≤100000) (hT:T.length≤10000) (hp:p.subs.length≤100000000):Spec Tryz.prog wb 39 #[.pointer (some ⟨t,0,none⟩),.agg (pkV p a c2)] [⟨t,tnL b W lg v,98⟩,⟨b,cnL c x,93⟩] [mlK v M,lgC lg vl T ops,sbC (p,a,c2)] (fun _:Value × Value × Option Addr × Nat=>.tuple #[]) (fun y=>[⟨t,tnL b W lg y.1,98⟩,⟨b,cnL { c with st:=4 } x,93⟩]) (fun y=>[mlK y.1 (M++[(askM W 1 (ops+1) c p,a,c2)]),lgC lg y.2.1 (T++[(askN (ops+1) c.num c.cl p,y.2.2)]) (ops+1)]):=by
  intro w H;refine en_call Tryz.func39 H ?_;unfold liveA at hy;simp only [Bool.or_eq_true,decide_eq_true_eq] at hy;rcases hy with hy | hy | hy
  · refine en1 (EF [(.bool ((((p.ty:Int)):Int) == 12),.bool false),(.bool ((((p.ty:Int)):Int) == 14),.bool false),(.bool ((((p.ty:Int)):Int) == 8),.bool true)] ⟨eqI' (by omega),eqI' (by omega),eqI (by omega),trivial⟩) [.x,.c,.b 2 0,.f 0,.c,.f 1,.c,.f 2,.c,.c,.b 2 0] fun X=>?_
    refine en_spec (turn_asks (t:=t) (b:=b) (x:=x) (W:=W) (lg:=lg) (c:=c) (v:=v) (vl:=vl) (M:=M) (T:=T) (ops:=ops) (p:=p) (a:=a) (c2:=c2) (s:=4) hc hM h0 h1 hT hp) [0,0] [0,0,0] [] (fun y=>?_);obtain ⟨v',vl',y⟩:=y;exact en_rets (v',vl',y) [0,0] [0,0] []
  · refine en1 (EF [(.bool ((((p.ty:Int)):Int) == 12),.bool false),(.bool ((((p.ty:Int)):Int) == 14),.bool false),(.bool ((((p.ty:Int)):Int) == 8),.bool false),(.bool ((((p.ty:Int)):Int) == 10),.bool true)] ⟨eqI' (by omega),eqI' (by omega),eqI' (by omega),eqI (by omega),trivial⟩) [.x,.c,.b 2 0,.f 0,.c,.f 1,.c,.f 2,.c,.f 3,.c,.c,.b 2 0] fun X=>?_
    refine en_spec (turn_asks (t:=t) (b:=b) (x:=x) (W:=W) (lg:=lg) (c:=c) (v:=v) (vl:=vl) (M:=M) (T:=T) (ops:=ops) (p:=p) (a:=a) (c2:=c2) (s:=4) hc hM h0 h1 hT hp) [0,0] [0,0,0] [] (fun y=>?_);obtain ⟨v',vl',y⟩:=y;exact en_rets (v',vl',y) [0,0] [0,0] []
  · refine en1 (EF [(.bool ((((p.ty:Int)):Int) == 12),.bool false),(.bool ((((p.ty:Int)):Int) == 14),.bool false),(.bool ((((p.ty:Int)):Int) == 8),.bool false),(.bool ((((p.ty:Int)):Int) == 10),.bool false),(.bool ((((p.ty:Int)):Int) == 3),.bool true)] ⟨eqI' (by omega),eqI' (by omega),eqI' (by omega),eqI' (by omega),eqI (by omega),trivial⟩) [.x,.c,.b 2 0,.f 0,.c,.f 1,.c,.f 2,.c,.f 3,.c,.f 4,.c,.c,.b 2 0] fun X=>?_
    refine en_spec (turn_asks (t:=t) (b:=b) (x:=x) (W:=W) (lg:=lg) (c:=c) (v:=v) (vl:=vl) (M:=M) (T:=T) (ops:=ops) (p:=p) (a:=a) (c2:=c2) (s:=4) hc hM h0 h1 hT hp) [0,0] [0,0,0] [] (fun y=>?_);obtain ⟨v',vl',y⟩:=y;exact en_rets (v',vl',y) [0,0] [0,0] []
set_option maxRecDepth 100000 in
set_option maxHeartbeats 4000000 in
theorem turn_liveB {wb:World} {t b x W lg:Nat} {c:Cn} {v:Value} {M:List MlG} {p:Pk} {a:Option Addr} {c2:Nat} (hy:liveB p=true) (hc:c.cl.size≤1000000) (hM:M.length≤100000):Spec Tryz.prog wb 39 #[.pointer (some ⟨t,0,none⟩),.agg (pkV p a c2)] [⟨t,tnL b W lg v,98⟩,⟨b,cnL c x,93⟩] [mlK v M,sbC (p,a,c2)] (fun _:Value=>.tuple #[]) (fun y=>[⟨t,tnL b W lg y,98⟩,⟨b,cnL { c with st:=4 } x,93⟩]) (fun y=>[mlK y (M++[(askM W 1 0 c p,a,c2)])]):=by
  intro w H;refine en_call Tryz.func39 H ?_;unfold liveB at hy;simp only [Bool.or_eq_true,decide_eq_true_eq] at hy;rcases hy with hy | hy | hy | hy
  · refine en1 (EF [(.bool ((((p.ty:Int)):Int) == 12),.bool false),(.bool ((((p.ty:Int)):Int) == 14),.bool false),(.bool ((((p.ty:Int)):Int) == 8),.bool false),(.bool ((((p.ty:Int)):Int) == 10),.bool false),(.bool ((((p.ty:Int)):Int) == 3),.bool false),(.bool ((((p.ty:Int)):Int) == 4),.bool true)] ⟨eqI' (by omega),eqI' (by omega),eqI' (by omega),eqI' (by omega),eqI' (by omega),eqI (by omega),trivial⟩) [.x,.c,.b 2 0,.f 0,.c,.f 1,.c,.f 2,.c,.f 3,.c,.f 4,.c,.f 5,.c,.c,.b 2 0,.c] fun X=>?_
    refine en_spec (turn_mail (t:=t) (b:=b) (x:=x) (W:=W) (lg:=lg) (c:=c) (v:=v) (M:=M) (p:=p) (a:=a) (c2:=c2) (k:=1) (op:=0) hc hM) [0,0] [0,0] [] (fun v'=>?_);refine en E0 (eC 3 [.b 0 0,.c,.c,.s 1 1]) ?_;exact en_rets v' [0,0] [0] []
  · refine en1 (EF [(.bool ((((p.ty:Int)):Int) == 12),.bool false),(.bool ((((p.ty:Int)):Int) == 14),.bool false),(.bool ((((p.ty:Int)):Int) == 8),.bool false),(.bool ((((p.ty:Int)):Int) == 10),.bool false),(.bool ((((p.ty:Int)):Int) == 3),.bool false),(.bool ((((p.ty:Int)):Int) == 4),.bool false),(.bool ((((p.ty:Int)):Int) == 5),.bool true)] ⟨eqI' (by omega),eqI' (by omega),eqI' (by omega),eqI' (by omega),eqI' (by omega),eqI' (by omega),eqI (by omega),trivial⟩) [.x,.c,.b 2 0,.f 0,.c,.f 1,.c,.f 2,.c,.f 3,.c,.f 4,.c,.f 5,.c,.f 6,.c,.c,.b 2 0,.c] fun X=>?_
    refine en_spec (turn_mail (t:=t) (b:=b) (x:=x) (W:=W) (lg:=lg) (c:=c) (v:=v) (M:=M) (p:=p) (a:=a) (c2:=c2) (k:=1) (op:=0) hc hM) [0,0] [0,0] [] (fun v'=>?_);refine en E0 (eC 3 [.b 0 0,.c,.c,.s 1 1]) ?_;exact en_rets v' [0,0] [0] []
  · refine en1 (EF [(.bool ((((p.ty:Int)):Int) == 12),.bool false),(.bool ((((p.ty:Int)):Int) == 14),.bool false),(.bool ((((p.ty:Int)):Int) == 8),.bool false),(.bool ((((p.ty:Int)):Int) == 10),.bool false),(.bool ((((p.ty:Int)):Int) == 3),.bool false),(.bool ((((p.ty:Int)):Int) == 4),.bool false),(.bool ((((p.ty:Int)):Int) == 5),.bool false),(.bool ((((p.ty:Int)):Int) == 6),.bool true)] ⟨eqI' (by omega),eqI' (by omega),eqI' (by omega),eqI' (by omega),eqI' (by omega),eqI' (by omega),eqI' (by omega),eqI (by omega),trivial⟩) [.x,.c,.b 2 0,.f 0,.c,.f 1,.c,.f 2,.c,.f 3,.c,.f 4,.c,.f 5,.c,.f 6,.c,.f 7,.c,.c,.b 2 0,.c] fun X=>?_
    refine en_spec (turn_mail (t:=t) (b:=b) (x:=x) (W:=W) (lg:=lg) (c:=c) (v:=v) (M:=M) (p:=p) (a:=a) (c2:=c2) (k:=1) (op:=0) hc hM) [0,0] [0,0] [] (fun v'=>?_);refine en E0 (eC 3 [.b 0 0,.c,.c,.s 1 1]) ?_;exact en_rets v' [0,0] [0] []
  · refine en1 (EF [(.bool ((((p.ty:Int)):Int) == 12),.bool false),(.bool ((((p.ty:Int)):Int) == 14),.bool false),(.bool ((((p.ty:Int)):Int) == 8),.bool false),(.bool ((((p.ty:Int)):Int) == 10),.bool false),(.bool ((((p.ty:Int)):Int) == 3),.bool false),(.bool ((((p.ty:Int)):Int) == 4),.bool false),(.bool ((((p.ty:Int)):Int) == 5),.bool false),(.bool ((((p.ty:Int)):Int) == 6),.bool false),(.bool ((((p.ty:Int)):Int) == 7),.bool true)] ⟨eqI' (by omega),eqI' (by omega),eqI' (by omega),eqI' (by omega),eqI' (by omega),eqI' (by omega),eqI' (by omega),eqI' (by omega),eqI (by omega),trivial⟩) [.x,.c,.b 2 0,.f 0,.c,.f 1,.c,.f 2,.c,.f 3,.c,.f 4,.c,.f 5,.c,.f 6,.c,.f 7,.c,.f 8,.c,.c,.b 2 0,.c] fun X=>?_
    refine en_spec (turn_mail (t:=t) (b:=b) (x:=x) (W:=W) (lg:=lg) (c:=c) (v:=v) (M:=M) (p:=p) (a:=a) (c2:=c2) (k:=1) (op:=0) hc hM) [0,0] [0,0] [] (fun v'=>?_);refine en E0 (eC 3 [.b 0 0,.c,.c,.s 1 1]) ?_;exact en_rets v' [0,0] [0] []
set_option maxRecDepth 100000 in
set_option maxHeartbeats 4000000 in
theorem turn_liveC {wb:World} {t b x W lg:Nat} {c:Cn} {v vl:Value} {M:List MlG} {T:List NtG} {ops:Int} {p:Pk} {a:Option Addr} {c2:Nat} (hy1:p.ty≠12) (hy2:p.ty≠14) (hy3:liveA p=false) (hy4:liveB p=false) (hst:c.st=3) (hc:c.cl.size≤1000000) (hM:M.length≤100000) (h0:0≤ops) (h1:ops≤100000) (hT:T.length≤10000):Spec Tryz.prog wb 39 #[.pointer (some ⟨t,0,none⟩),.agg (pkV p a c2)] [⟨t,tnL b W lg v,98⟩,⟨b,cnL c x,93⟩] [mlK v M,lgC lg vl T ops] (fun _:Value × Value × Option Addr × Nat=>.tuple #[]) (fun y=>[⟨t,tnL b W lg y.1,98⟩,⟨b,cnL { c with st:=6 } x,93⟩]) (fun y=>[mlK y.1 (M++[(askM W 2 (ops+1) c Pk.zero,none,0)]),lgC lg y.2.1 (T++[(askN (ops+1) c.num c.cl Pk.zero,y.2.2)]) (ops+1)]):=by
  intro w H;refine en_call Tryz.func39 H ?_;unfold liveA at hy3;unfold liveB at hy4;simp only [Bool.or_eq_false_iff,decide_eq_false_iff_not] at hy3 hy4;refine en1 (EF [(.bool ((((p.ty:Int)):Int) == 12),.bool false),(.bool ((((p.ty:Int)):Int) == 14),.bool false),(.bool ((((p.ty:Int)):Int) == 8),.bool false),(.bool ((((p.ty:Int)):Int) == 10),.bool false),(.bool ((((p.ty:Int)):Int) == 3),.bool false),(.bool ((((p.ty:Int)):Int) == 4),.bool false),(.bool ((((p.ty:Int)):Int) == 5),.bool false),(.bool ((((p.ty:Int)):Int) == 6),.bool false),(.bool ((((p.ty:Int)):Int) == 7),.bool false)] ⟨eqI' (by omega),eqI' (by omega),eqI' (by omega),eqI' (by omega),eqI' (by omega),eqI' (by omega),eqI' (by omega),eqI' (by omega),eqI' (by omega),trivial⟩) [.x,.c,.b 2 0,.f 0,.c,.f 1,.c,.f 2,.c,.f 3,.c,.f 4,.c,.f 5,.c,.f 6,.c,.f 7,.c,.f 8,.c,.c] fun X=>?_
  refine en_spec (turn_cutL (t:=t) (b:=b) (x:=x) (W:=W) (lg:=lg) (c:=c) (v:=v) (vl:=vl) (M:=M) (T:=T) (ops:=ops) hc hM h0 h1 hT hst) [0,0] [0,0] [] (fun y=>?_);obtain ⟨v',vl',y⟩:=y;exact en_rets (v',vl',y) [0,0] [0,0] []
def overC (c:Cn) (now:Int):Bool:=c.hung || (decide (c.keep > 0) && decide (now - c.last > 3 * c.keep / 2))
theorem wrI {x y:Int} (h:x=y) (h1:-1000000000000000000≤x) (h2:x≤1000000000000000000):Value.int .i64 (IntKind.i64.wrap x)=.int .i64 y:=by
  congr 1;rw [IntKind.wrap_i64];omega
set_option maxRecDepth 100000 in
set_option maxHeartbeats 4000000 in
theorem turn_over {wb:World} {t b x W lg:Nat} {c:Cn} {v:Value} {now:Int} (h0:0≤now) (h1:now≤1099511627776) (h2:0≤c.last) (h3:c.last≤1099511627776) (h4:c.keep≤100000):Spec Tryz.prog wb 42 #[.pointer (some ⟨t,0,none⟩),.int .i64 now] [⟨t,tnL b W lg v,98⟩,⟨b,cnL c x,93⟩] [] (fun _:Unit=>.bool (overC c now)) (fun _=>[⟨t,tnL b W lg v,98⟩,⟨b,cnL c x,93⟩]) (fun _=>[]):=by
  obtain ⟨z,hz⟩:∃ z,overC c now=z:=⟨_,rfl⟩
  rw [hz];obtain ⟨ch,hch⟩:∃ ch,c.hung=ch:=⟨_,rfl⟩
  intro w H;refine en_call Tryz.func42 H ?_;cases h5:c.hung
  · by_cases h6:c.keep > 0
    · refine en (EF [(.bool c.hung,.bool false),(.bool (decide (((c.keep):Int) > 0)),.bool true),(.int .i64 (IntKind.i64.wrap (now - c.last)),.int .i64 (now - c.last)),(.int .i64 (IntKind.i64.wrap (3 * c.keep)),.int .i64 (3 * c.keep)),(.int .i64 (IntKind.i64.wrap (Int.tdiv (3 * c.keep) 2)),.int .i64 (3 * c.keep / 2))] ⟨by show Value.bool c.hung=_;rw [h5],dcT (by omega),wrI rfl (by omega) (by omega),wrI rfl (by omega) (by omega),wrI (Int.tdiv_eq_ediv_of_nonneg (by omega)) (by rw [Int.tdiv_eq_ediv_of_nonneg (by omega)];omega) (by rw [Int.tdiv_eq_ediv_of_nonneg (by omega)];omega),trivial⟩) [.c,.g [(0,0,1),(1,3,1),(1,5,1),(1,6,1)] 1000 false,.d (eN 0 (eC 3 (.l 0 0::.c::.c::.l 1 0::.f 0::eC 3 (.l 0 0::.c::.c::.l 2 0::.f 1::eC 5 (.l 0 0::.c::.c::.l 3 0::.f 2::eC 3 (.l 0 0::.c::.c::.l 2 0::.f 3::.f 4::eC 4 []))))))] ?_
      have e1:z=decide (now - c.last > 3 * c.keep / 2):=by rw [← hz];unfold overC;rw [h5,decide_eq_true h6];rfl
      subst e1;exact en_rets () [0,0] [] []
    · refine en (EF [(.bool c.hung,.bool false),(.bool (decide (((c.keep):Int) > 0)),.bool false)] ⟨by show Value.bool c.hung=_;rw [h5],dcF (by omega),trivial⟩) [.c,.g [(0,0,1),(1,3,1),(1,5,1)] 1000 false,.d (eN 0 (eC 3 (.l 0 0::.c::.c::.l 1 0::.f 0::eC 3 (.l 0 0::.c::.c::.l 2 0::.f 1::eC 23 []))))] ?_
      have e1:z=false:=by rw [← hz];unfold overC;rw [h5,decide_eq_false h6];rfl
      subst e1;exact en_rets () [0,0] [] []
  · refine en (EF [(.bool c.hung,.bool true)] ⟨by show Value.bool c.hung=_;rw [h5],trivial⟩) [.c,.g [(0,0,1),(1,3,1)] 1000 false,.d (eN 0 (eC 3 (.l 0 0::.c::.c::.l 1 0::.f 0::eC 31 [])))] ?_
    have e1:z=true:=by rw [← hz];unfold overC;rw [h5];rfl
    subst e1;exact en_rets () [0,0] [] []
end Go.Proofs.YtehpihmgjbmoaaaGreatDoor
