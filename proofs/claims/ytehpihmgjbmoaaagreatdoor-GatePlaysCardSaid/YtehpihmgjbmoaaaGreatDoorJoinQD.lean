import Derived.Test.YtehpihmgjbmoaaaGreatDoorJoinQC
import Derived.Test.YtehpihmgjbmoaaaGreatDoorJoinZC
namespace Go.Proofs.YtehpihmgjbmoaaaGreatDoor
def DiffN (G:List Cn):Prop:=(G.map (·.num)).Nodup
theorem getG_not:∀ {G:List Cn} {n:Int},getG G n=none→n ∉ G.map (·.num)
  | [],_,_=>fun h=>by cases h
  | d::G,n,h=>by
    unfold getG at h;split at h
    · cases h
    · rename_i e
      intro hm;rw [List.map_cons] at hm;rcases List.mem_cons.1 hm with hm | hm
      · exact e hm
      · exact getG_not h hm
theorem getG_of:∀ {G:List Cn} {c:Cn},DiffN G→c ∈ G→getG G c.num=some c
  | d::G,c,h,hc=>by
    unfold DiffN at h;rw [List.map_cons,List.nodup_cons] at h;unfold getG;rcases List.mem_cons.1 hc with rfl | hc
    · rw [if_pos rfl]
    · have e:c.num≠d.num:=fun e=>h.1 (e ▸ List.mem_map_of_mem (f:=fun x:Cn=>x.num) hc)
      rw [if_neg e];exact getG_of h.2 hc
theorem nums_mod {f:Cn→Cn} (hf:∀ c,(f c).num=c.num):∀ (G:List Cn) (n:Int),(modG f G n).map (·.num)=G.map (·.num)
  | [],_=>rfl
  | d::G,n=>by
    unfold modG;split
    · rw [List.map_cons,List.map_cons,hf]
    · rw [List.map_cons,List.map_cons,nums_mod hf G n]
theorem DiffN.mod {f:Cn→Cn} (hf:∀ c,(f c).num=c.num) {G:List Cn} {n:Int} (h:DiffN G):DiffN (modG f G n):=by
  unfold DiffN;rw [nums_mod hf];exact h
theorem hear1_diff {G:List Cn} {i:Im} (h:DiffN G):DiffN (hear1 G i):=by
  unfold hear1;split
  · exact h.mod (f:=shutC) (fun _=>rfl)
  · exact h.mod (f:=hearC i.k (pksI i)) (fun c=>hearC_num _ _ c)
theorem does_diff {W u m:Nat} {G:List Cn} {ops:Int} {q:Ac} (h:DiffN G):DiffN (doesS W u m G ops q).1:=by
  unfold doesS;split
  · exact h.mod (f:=dropD) (fun _=>rfl)
  show DiffN (actS W u m G ops q).1;unfold actS;split
  · show DiffN (if _ then _ else _)
    split
    · rename_i hm
      have hn:getG G q.cn=none:=by
        unfold mayO at hm;cases hg:getG G q.cn with
        | none=>rfl
        | some c=>rw [hg] at hm;cases hm
      unfold DiffN;rw [List.map_append];refine List.pairwise_append.2 ⟨h,List.pairwise_singleton _ _,fun a ha b hb=>?_⟩;have e:b=q.cn:=List.mem_singleton.1 hb;rw [e];intro e2;rw [e2] at ha;exact getG_not hn ha
    · exact h
  split
  · exact h.mod (fed_num _)
  split
  · exact h.mod (f:=fun c=>{ c with hung:=true }) (fun _=>rfl)
  split
  · exact h.mod (f:=fun c=>(readC m W c q.now ops).1) (fun c=>read_num m W c q.now ops)
  split
  · exact hear1_diff h
  · exact h
theorem does_good {B D W u m:Nat} {G:List Cn} {ops:Int} {q:Ac} (h:GtGood B D G) (hB:B≤80000000) (hq:AcGood q):GtGood (B+q.bs.size) (D+4000000000) (doesS W u m G ops q).1:=by
  unfold doesS;split
  · exact fun c hc=>(drop_good h q.cn c hc).up (by omega) (by omega)
  · exact act_good h hB hq
theorem does_notes (W u m:Nat) (G:List Cn) (ops:Int) (q:Ac):(doesS W u m G ops q).2.length≤1:=by
  unfold doesS;split
  · exact Nat.zero_le _
  · exact act_notes W u m G ops q
structure GpSt where
  K:List CnG
  rv:Value
  R:List RnG
  vl:Value
  T:List NtG
  vn:Value
  N:List NtG
  ops:Int
  k:Nat
structure GpOk (xs:List Ac) (s:GpSt):Prop where
  eq:absR s.R=absK s.K
  nt:s.N.map (·.1)=s.T.map (·.1)
  rl:s.R.length≤s.k
  good:GtGood (sumL (xs.take s.k)) (s.k * 4000000000) (absK s.K)
  diff:DiffN (absK s.K)
  o0:0≤s.ops
  o1:s.ops≤s.k
  tl:s.T.length≤s.k
  kl:s.k≤xs.length
  pk:∀ x ∈ s.T,AskOk x.1
theorem gp_begin (xs:List Ac):GpOk xs ⟨[],.slice none 0 0,[],.slice none 0 0,[],.slice none 0 0,[],0,0⟩:=⟨rfl,rfl,Nat.le_refl _,(fun c hc=>by cases hc),List.Pairwise.nil,Int.le_refl _,Int.le_refl _,Nat.le_refl _,Nat.zero_le _,(fun x hx=>by cases hx)⟩
theorem take_act {xs:List Ac} {k:Nat} {q:Ac} (hq:xs[k]? = some q):xs.take (k+1)=xs.take k++[q]∧sumL (xs.take (k+1))=sumL (xs.take k)+q.bs.size:=by
  have ht:xs.take (k+1)=xs.take k++[q]:=by rw [List.take_add_one,hq];rfl
  exact ⟨ht,by rw [ht];unfold sumL;rw [List.map_append,List.sum_append];simp⟩
theorem GpOk.step {xs:List Ac} {s:GpSt} (h:GpOk xs s) {q:Ac} (hq:xs[s.k]? = some q) (hg:AcGood q) (hs:sumL xs≤5000) {W u m:Nat} (hpk:∀ x ∈ (doesS W u m (absK s.K) s.ops q).2,AskOk x) {K2:List CnG} {rv2:Value} {R2:List RnG} {vl2:Value} {T2:List NtG} {vn2:Value} {N2:List NtG}
    (h1:absK K2=(doesS W u m (absK s.K) s.ops q).1) (h2:absR R2=(doesS W u m (absK s.K) s.ops q).1) (h3:R2.length≤s.R.length+1) (h4:T2.map (·.1)=s.T.map (·.1)++(doesS W u m (absK s.K) s.ops q).2) (h5:N2.map (·.1)=s.T.map (·.1)++(doesS W u m (absK s.K) s.ops q).2) :
    GpOk xs ⟨K2,rv2,R2,vl2,T2,vn2,N2,s.ops+((doesS W u m (absK s.K) s.ops q).2.length:Int),s.k+1⟩:=by
  have hk:=(List.getElem?_eq_some_iff.1 hq).1;obtain ⟨_,hsum⟩:=take_act hq;have hst:=sum_take (xs:=xs) s.k;have hn:=does_notes W u m (absK s.K) s.ops q;have hG:=does_good (W:=W) (u:=u) (m:=m) (ops:=s.ops) h.good (by omega) hg;have hT:T2.length=s.T.length+(doesS W u m (absK s.K) s.ops q).2.length:=by have h:=congrArg List.length h4;rw [List.length_map,List.length_append,List.length_map] at h;exact h
  have a1:=h.rl;have a2:=h.o0;have a3:=h.o1;have a4:=h.tl;refine ⟨h2.trans h1.symm,h5.trans h4.symm,by simp only;omega,?_,?_,by simp only;omega,by simp only;omega,by simp only;omega,by simp only;omega,?_⟩
  · simp only
    rw [h1,hsum];exact fun c hc=>(hG c hc).up (by omega) (by omega)
  · simp only
    rw [h1];exact does_diff h.diff
  · simp only
    intro x hx;have hm:x.1 ∈ s.T.map (·.1)++(doesS W u m (absK s.K) s.ops q).2:=by rw [← h4];exact List.mem_map_of_mem (f:=fun y:NtG=>y.1) hx
    rcases List.mem_append.1 hm with hm | hm
    · obtain ⟨y,hy,e⟩:=List.mem_map.1 hm
      rw [← e];exact h.pk y hy
    · exact hpk _ hm
theorem GpOk.skip {xs:List Ac} {s:GpSt} (h:GpOk xs s) {q:Ac} (hq:xs[s.k]? = some q):GpOk xs { s with k:=s.k+1 }:=by
  have hk:=(List.getElem?_eq_some_iff.1 hq).1;obtain ⟨_,hsum⟩:=take_act hq;have a1:=h.rl;have a3:=h.o1;have a4:=h.tl;refine ⟨h.eq,h.nt,by simp only;omega,?_,h.diff,h.o0,by simp only;omega,by simp only;omega,by simp only;omega,h.pk⟩;simp only
  rw [hsum];exact fun c hc=>(h.good c hc).up (by omega) (by omega)
end Go.Proofs.YtehpihmgjbmoaaaGreatDoor
namespace Go.Proofs.YtehpihmgjbmoaaaGreatDoor
open Go.RowKit
attribute [local irreducible] Ok
theorem nt_range {w:World} {v:Value} {T:List NtG} (h:(rowO 85 35 v T.length (ntCsG T)).is w) {j:Nat} {x:NtG} (hx:T[j]? = some x):∃ g c,v=.slice (some ⟨g,0,none⟩) T.length c:=by
  rcases h.2 with ⟨_,h3⟩ | ⟨g,cap,cur,h2,_⟩
  · have hl:=(List.getElem?_eq_some_iff.1 hx).1
    omega
  · exact ⟨g,cap,h2⟩
theorem nt_at {w:World} {g c:Nat} {T:List NtG} (h:(rowO 85 35 (.slice (some ⟨g,0,none⟩) T.length c) T.length (ntCsG T)).is w) {j:Nat} {x:NtG} (hx:T[j]? = some x):w.rangeAt g (0+j * 35) (ntCG x):=by
  obtain ⟨b,o,e,hj⟩:=CellsA.elem (g:=ntCG) (m:=35) (fun _=>rfl) (own_cells (show w.ownsRow 0 85 35 _ T.length (ntCsG T) from h)) hx (.int .u8 (x.1.kind:Int)) rfl;injection e with e
  injection e with e1 e2
  subst e1 e2;exact fun j v hv=>hj j v hv
theorem nt_out (c:NtG) (A B:List NtG):((A++c::B).map fun x=>sbC (x.1.p,x.2)).Perm (sbC (c.1.p,c.2)::((A++B).map fun x=>sbC (x.1.p,x.2))):=by
  rw [List.map_append,List.map_append,List.map_cons];exact List.perm_middle
theorem sub_nt {w:World} {T:List NtG} (h:(many (T.map fun x=>sbC (x.1.p,x.2))).is w) {x:NtG} (hx:x ∈ T):CellsA w x.2.1 (subCells x.1.p.subs):=sub_in (f:=fun x:NtG=>(x.1.p,x.2)) h hx
theorem same_nt {x y:NtG} {M N:List NtG} (e:M.map (·.1)=N.map (·.1)) {k:Nat} (hx:M[k]? = some x) (hy:N[k]? = some y):y.1=x.1:=by
  have h:=congrArg (fun l=>l[k]?) e;simp only [List.getElem?_map,hx,hy,Option.map_some,Option.some.injEq] at h;exact h.symm
set_option maxRecDepth 100000 in
set_option maxHeartbeats 4000000 in
theorem record_All {wb:World} {g:Nat} {v:Value} {T:List NtG} {ops:Int} (hT:T.length≤10000) (hs:∀ x ∈ T,x.1.p.subs.length≤100000000):Spec Tryz.prog wb 32 #[.pointer (some ⟨g,0,none⟩)] [] [lgC g v T ops] (fun y:{y:Value × List NtG // y.2.map (·.1)=T.map (·.1)}=>y.1.1) (fun _=>[]) (fun y=>[lgC g v T ops,rowO 85 35 y.1.1 y.1.2.length (ntCsG y.1.2),many (y.1.2.map fun x=>sbC (x.1.p,x.2))]):=by
  obtain ⟨i0,hi,hz0,hz1,hz2⟩:=info_parts gt_infoNt;intro w H;refine en_call Tryz.func32 H ?_;refine en E0 (eC 3 []) ?_;refine en_spec0 (record_Len (g:=g) (v:=v) (T:=T) (ops:=ops)) [] [0] [] ?_;refine en E0 [.c] ?_;refine en_row0 85 35 ?_;refine en_new0 (many []) ?_ (fun _=>⟨fun c hc=>(by cases hc),List.Pairwise.nil⟩) (fun j ⟨c,hc,_⟩=>(by cases hc));refine en_drop [] [2,1,0] ?_;refine en_loopP (codeOf Tryz.f32) [1,1,0,1,0] [1,1,0,1,0,0] [] (α:={y:Nat × Value × List NtG // y.1≤T.length∧y.2.2.map (·.1)=(T.take y.1).map (·.1)}) (fun y=>T.length - y.1.1) (fun y=>[(0,.pointer (some ⟨g,0,none⟩)),(3,y.1.2.1),(6,.int .i64 (T.length:Int)),(7,.int .i64 (y.1.1:Int))]) (fun y=>[]) (fun y=>many [lgC g v T ops,rowO 85 35 y.1.2.1 y.1.2.2.length (ntCsG y.1.2.2),many (y.1.2.2.map fun x=>sbC (x.1.p,x.2))]) ⟨(0,.slice none 0 0,[]),Nat.zero_le _,rfl⟩ (by kernel_rfl) ?_;intro ⟨⟨k,ov,U⟩,hk0,hU⟩ J HJ;simp only at HJ hk0 hU
  by_cases hk:k < T.length
  · obtain ⟨A,n,a,c,B,hA,rfl⟩:∃ (A:List NtG) (n:Nt) (a:Option Addr) (c:Nat) (B:List NtG),T=A++(n,a,c)::B∧k=A.length:=⟨T.take k,(T[k]).1,(T[k]).2.1,(T[k]).2.2,T.drop (k+1),by rw [← List.drop_eq_getElem_cons hk,List.take_append_drop],by rw [List.length_take];omega⟩
    subst hA;have hx:(A++(n,a,c)::B)[A.length]? = some (n,a,c):=by rw [List.getElem?_append_right (Nat.le_refl _)];simp
    have hUl:U.length=A.length:=by have h:=congrArg List.length hU;rw [List.length_map,List.length_map,List.length_take] at h;omega
    have htk:(A++(n,a,c)::B).take (A.length+1)=A++[(n,a,c)]:=by rw [List.take_append,List.take_of_length_le (by omega)];simp
    have htk0:(A++(n,a,c)::B).take A.length=A:=List.take_left;rw [htk0] at hU;have hns:=hs (n,a,c) (List.mem_append.2 (Or.inr List.mem_cons_self));refine en_unpack 0 (lgC g v (A++(n,a,c)::B) ops) _ ?_;refine en_factK (p:=∃ gl cap,v=.slice (some ⟨gl,0,none⟩) (A++(n,a,c)::B).length cap) (fun w h=>nt_range (is_at h.hp.is 1 (c:=rowO 85 35 v (A++(n,a,c)::B).length (ntCsG (A++(n,a,c)::B))) rfl) hx) ?_;rintro ⟨gl,cap,rfl⟩;refine en_open 0 ⟨g,lgV (.slice (some ⟨gl,0,none⟩) (A++(n,a,c)::B).length cap) ops,87⟩ ?_;refine en ⟨⟨[⟨gl,0+A.length * 35,ntCG (n,a,c)⟩],[]⟩,[(.bool (decide ((((A.length:Int)):Int) < ((A++(n,a,c)::B).length:Int))),.bool true)],[⟨some ⟨gl,0,none⟩,(A++(n,a,c)::B).length,cap,.i64,A.length,35,⟨gl,0+A.length * 35,none⟩⟩],[],fun _ _ h=>⟨⟨nt_at (is_at h.hp.is 0 (c:=rowO 85 35 (.slice (some ⟨gl,0,none⟩) (A++(n,a,c)::B).length cap) (A++(n,a,c)::B).length (ntCsG (A++(n,a,c)::B))) rfl) hx,trivial⟩,trivial⟩,⟨dcT (by omega),trivial⟩,⟨⟨gl,0,A.length,rfl,rfl,hk,rfl⟩,trivial⟩,trivial⟩ (.f 0::eC 6 [.b 0 0,.c,.i 0,.l 0 0]) ?_;refine en_out 1 (many ((A++(n,a,c)::B).map fun x=>sbC (x.1.p,x.2))) (sbC (n.p,a,c)) ((A++(n,a,c)::B).map fun x=>sbC (x.1.p,x.2)) ((A++B).map fun x=>sbC (x.1.p,x.2)) (nt_out (n,a,c) A B) ?_;refine en_spec (record_own n a c hns) [] [0] [] (fun y=>?_);obtain ⟨a',c'⟩:=y;refine en_in [1,1] (many ((A++(n,a,c)::B).map fun x=>sbC (x.1.p,x.2))) (sbC (n.p,a,c)) ((A++(n,a,c)::B).map fun x=>sbC (x.1.p,x.2)) ((A++B).map fun x=>sbC (x.1.p,x.2)) ((nt_out (n,a,c) A B).symm) ?_;refine en_shut 0 ⟨g,lgV (.slice (some ⟨gl,0,none⟩) (A++(n,a,c)::B).length cap) ops,87⟩ ?_;refine en_pack [0,2,0] (lgC g (.slice (some ⟨gl,0,none⟩) (A++(n,a,c)::B).length cap) (A++(n,a,c)::B) ops) _ ?_;refine en_ops (ops_one 61 85 61 (.agg (ntV n a' c')) (ntV n a' c') rfl i0 _ hz1.symm Tryz.underlying61 hi hz0 (by rw [hz1];decide) (by rw [hz1];decide) (by rw [hz1];kernel_rfl) (by rw [hz1];rfl)) [] [] [] (fun b=>?_);refine en_ops (ops_app 61 61 85 i0 _ Tryz.underlying61 hi hz0 (hz1 ▸ rfl) (by rw [hz1];decide) (hz1.symm) (v:=ov) (x:=.slice (some ⟨b,0,none⟩) 1 1) (n:=U.length) (m:=1) (xs:=ntCsG U) (news:=ntCG (n,a',c')) (ntCG_one _) (by unfold maxLen;omega) (by rw [hz2];omega)) [] [3,0] [] (fun v'=>?_);obtain ⟨U',hU'⟩:∃ U',U'=U++[(n,a',c')]:=⟨_,rfl⟩
    have e1:ntCsG U++ntCG (n,a',c')=ntCsG U':=by rw [hU'];unfold ntCsG;simp
    have e2:U.length+1=U'.length:=by rw [hU'];simp
    rw [e1,e2];refine en_in [3,3] (many (U'.map fun x=>sbC (x.1.p,x.2))) (sbC (n.p,a',c')) (U'.map fun x=>sbC (x.1.p,x.2)) (U.map fun x=>sbC (x.1.p,x.2)) (by rw [hU',List.map_append];exact (List.perm_append_singleton _ _).symm) ?_;refine en (EF [(.int .i64 (IntKind.i64.wrap ((A.length:Int)+1)),.int .i64 ((A.length+1:Nat):Int))] ⟨addI (by omega),trivial⟩) [.c,.f 0,.c] ?_;refine en_drop [] [3,1,0] ?_;exact en_stopI (fun a w F HK=>HJ ⟨(A.length+1,v',U'),by simp only;omega,by simp only;rw [hU',htk,List.map_append,List.map_append,hU];rfl⟩ a w (by show _ - (A.length+1) < _ - A.length;omega) F HK)
  have e1:T.take k=T:=List.take_of_length_le (by omega);rw [e1] at hU;refine en (EF [(.bool (decide ((((k:Int)):Int) < (T.length:Int))),.bool false)] ⟨dcF (by omega),trivial⟩) [.f 0,.c,.c] ?_;exact en_rets ⟨(ov,U),hU⟩ [] [0,0,0] []
set_option maxRecDepth 100000 in
set_option maxHeartbeats 4000000 in
theorem r17_Same {wb:World} {op cn:Int} {cl:ByteArray} {p:Pk} {a a':Option Addr} {c c':Nat} {X:Chk} (hp:PkOk p) (hX:∀ w,Below wb.heap.size wb w→X.is w→CellsA w a (subCells p.subs)∧CellsA w a' (subCells p.subs)):Spec Tryz.prog wb 53 #[.agg (ntV (askN op cn cl p) a c),.agg (ntV (askN op cn cl p) a' c')] [] [X] (fun _:Unit=>.bool true) (fun _=>[]) (fun _=>[X]):=by
  intro w H;refine en_call Tryz.func53 H ?_;refine en2 (EK [(.bool (((op):Int) != op),.bool false),(.bool (((cn):Int) != cn),.bool false),(.bool (!((cl:ByteArray).toList == (cl:ByteArray).toList)),.bool false)] ⟨neI' (by omega),neI' (by omega),neS' (rfl),trivial⟩ [⟨71,#[.agg (pkV p a c),.agg (pkV p a' c')],.bool true,[],[]⟩] ⟨fun _ w h _=>by have hx:=hX w h.hp.low (is_at h.hp.is 0 (c:=X) rfl);have hs:=ref03_Same p p a a' c c' w h.hp.env hp hp hx.1 hx.2;rw [decide_eq_true rfl] at hs;exact hs,trivial⟩) (.x::.x::.c::.c::.b 0 0::.c::.b 1 0::eC 3 (.b 0 1::.c::.b 1 1::.f 0::eC 3 (.b 0 2::.c::.b 1 2::.f 1::eC 3 (.b 0 3::.c::.b 1 3::.f 2::eC 3 (.b 0 32::.c::.b 1 32::eC 3 (.b 0 28::.c::.b 1 28::eC 3 (.b 0 33::.c::.b 1 33::eC 4 (.b 0 34::.c::.b 1 34::eC 4 [.b 0 4,.c,.b 1 4,.k 0,.c,.c])))))))) fun I J=>?_
  exact en_rets () [] [0] []
set_option maxRecDepth 100000 in
set_option maxHeartbeats 4000000 in
theorem r17_Row {wb:World} {al an:Option Addr} {cm cn:Nat} {M N:List NtG} (he:M.map (·.1)=N.map (·.1)) (hl:M.length≤10000) (hp:∀ x ∈ M,AskOk x.1):Spec Tryz.prog wb 31 #[.slice al M.length cm,.slice an N.length cn] [] [rowO 85 35 (.slice al M.length cm) M.length (ntCsG M),rowO 85 35 (.slice an N.length cn) N.length (ntCsG N),many (M.map fun x=>sbC (x.1.p,x.2)),many (N.map fun x=>sbC (x.1.p,x.2))] (fun _:Unit=>.bool true) (fun _=>[]) (fun _=>[rowO 85 35 (.slice al M.length cm) M.length (ntCsG M),rowO 85 35 (.slice an N.length cn) N.length (ntCsG N),many (M.map fun x=>sbC (x.1.p,x.2)),many (N.map fun x=>sbC (x.1.p,x.2))]):=by
  have hln:N.length=M.length:=by have h:=congrArg List.length he;rw [List.length_map,List.length_map] at h;exact h.symm
  intro w H;refine en_call Tryz.func31 H ?_;refine en (EF [(.bool ((((M.length:Int)):Int) != (N.length:Int)),.bool false)] ⟨neI' (by omega),trivial⟩) (eC 5 [.f 0,.c]) ?_;refine en_loopP (codeOf Tryz.f31) [1,1,0,1,0] [1,1,0,1,0,0] [] (α:={j:Nat // j≤M.length}) (fun y=>M.length - y.1) (fun y=>[(0,.slice al M.length cm),(1,.slice an N.length cn),(5,.int .i64 (y.1:Int))]) (fun y=>[]) (fun y=>many [rowO 85 35 (.slice al M.length cm) M.length (ntCsG M),rowO 85 35 (.slice an N.length cn) N.length (ntCsG N),many (M.map fun x=>sbC (x.1.p,x.2)),many (N.map fun x=>sbC (x.1.p,x.2))]) ⟨0,Nat.zero_le _⟩ (by kernel_rfl) ?_;intro ⟨j,hj⟩ J HJ;simp only at HJ
  by_cases hk:j < M.length
  · have hk2:j < N.length:=by omega
    obtain ⟨x,hx⟩:∃ x,M[j]? = some x:=⟨_,List.getElem?_eq_getElem hk⟩
    obtain ⟨y,hy⟩:∃ x,N[j]? = some x:=⟨_,List.getElem?_eq_getElem hk2⟩
    have hxy:=same_nt he hx hy;have hxm:=List.mem_of_getElem? hx;have hym:=List.mem_of_getElem? hy;have hxp:=hp x hxm;obtain ⟨y,a2,c2⟩:=y;obtain ⟨x,a1,c1⟩:=x;simp only at hxy hxp
    subst hxy;obtain ⟨op,co,cl,p,rfl,hpp⟩:=hxp;refine en_factK (p:=∃ g c,Value.slice al M.length cm=.slice (some ⟨g,0,none⟩) M.length c) (fun w h=>nt_range (is_at h.hp.is 0 (c:=rowO 85 35 (.slice al M.length cm) M.length (ntCsG M)) rfl) hx) ?_;rintro ⟨gm,cm2,e9⟩;injection e9 with e9 _ e10
    subst e9 e10;refine en_factK (p:=∃ g c,Value.slice an N.length cn=.slice (some ⟨g,0,none⟩) N.length c) (fun w h=>nt_range (is_at h.hp.is 1 (c:=rowO 85 35 (.slice an N.length cn) N.length (ntCsG N)) rfl) hy) ?_;rintro ⟨gn,cn2,e9⟩;injection e9 with e9 _ e10
    subst e9 e10;refine en (EF [(.bool (decide ((((j:Int)):Int) < (M.length:Int))),.bool true)] ⟨dcT (by omega),trivial⟩) (eC 3 [.f 0]) ?_;refine en ⟨⟨[⟨gm,0+j * 35,ntCG (askN op co cl p,a1,c1)⟩,⟨gn,0+j * 35,ntCG (askN op co cl p,a2,c2)⟩],[]⟩,[],[⟨some ⟨gm,0,none⟩,M.length,cm,.i64,j,35,⟨gm,0+j * 35,none⟩⟩,⟨some ⟨gn,0,none⟩,N.length,cn,.i64,j,35,⟨gn,0+j * 35,none⟩⟩],[],fun _ _ h=>⟨⟨nt_at (is_at h.hp.is 0 (c:=rowO 85 35 (.slice (some ⟨gm,0,none⟩) M.length cm) M.length (ntCsG M)) rfl) hx,nt_at (is_at h.hp.is 1 (c:=rowO 85 35 (.slice (some ⟨gn,0,none⟩) N.length cn) N.length (ntCsG N)) rfl) hy,trivial⟩,trivial⟩,trivial,⟨⟨gm,0,j,rfl,rfl,hk,rfl⟩,⟨gn,0,j,rfl,rfl,hk2,rfl⟩,trivial⟩,trivial⟩ [.g [] 1000 true,.d (eN 0 [.c,.c,.i 0,.l 0 0,.c,.c,.i 1,.l 1 0])] ?_;refine en_pack [2,2] (many [many (M.map fun x=>sbC (x.1.p,x.2)),many (N.map fun x=>sbC (x.1.p,x.2))]) _ ?_;refine en_specM (r17_Same (op:=op) (cn:=co) (cl:=cl) (p:=p) (a:=a1) (a':=a2) (c:=c1) (c':=c2) (X:=many [many (M.map fun x=>sbC (x.1.p,x.2)),many (N.map fun x=>sbC (x.1.p,x.2))]) hpp (fun w _ h=>⟨sub_nt (is_at h 0 (c:=many (M.map fun x=>sbC (x.1.p,x.2))) rfl) hxm,sub_nt (is_at h 1 (c:=many (N.map fun x=>sbC (x.1.p,x.2))) rfl) hym⟩)) [] [0] [] ⟨[⟨gm,0+j * 35,ntCG (askN op co cl p,a1,c1)⟩,⟨gn,0+j * 35,ntCG (askN op co cl p,a2,c2)⟩],[]⟩ (fun _ _ h=>⟨⟨nt_at (is_at h.hp.is 1 (c:=rowO 85 35 (.slice (some ⟨gm,0,none⟩) M.length cm) M.length (ntCsG M)) rfl) hx,nt_at (is_at h.hp.is 2 (c:=rowO 85 35 (.slice (some ⟨gn,0,none⟩) N.length cn) N.length (ntCsG N)) rfl) hy,trivial⟩,trivial⟩) (fun _=>?_);refine en_unpack 0 (many [many (M.map fun x=>sbC (x.1.p,x.2)),many (N.map fun x=>sbC (x.1.p,x.2))]) _ ?_;refine en (EO [⟨gm,0+j * 35,ntCG (askN op co cl p,a1,c1)⟩,⟨gn,0+j * 35,ntCG (askN op co cl p,a2,c2)⟩] (fun _ _ h=>⟨nt_at (is_at h.hp.is 2 (c:=rowO 85 35 (.slice (some ⟨gm,0,none⟩) M.length cm) M.length (ntCsG M)) rfl) hx,nt_at (is_at h.hp.is 3 (c:=rowO 85 35 (.slice (some ⟨gn,0,none⟩) N.length cn) N.length (ntCsG N)) rfl) hy,trivial⟩) [(.int .i64 (IntKind.i64.wrap ((j:Int)+1)),.int .i64 ((j+1:Nat):Int))] ⟨addI (by omega),trivial⟩) [.d (eN 9 [.c]),.c,.f 0,.c] ?_;refine en_drop [] [2,2,0,0] ?_;exact en_stopI (fun a w F HK=>HJ ⟨j+1,by omega⟩ a w (by show M.length - (j+1) < M.length - j;omega) F HK)
  refine en (EF [(.bool (decide ((((j:Int)):Int) < (M.length:Int))),.bool false)] ⟨dcF (by omega),trivial⟩) (eC 3 [.f 0,.c]) ?_;exact en_rets () [] [0,0,0,0] []
end Go.Proofs.YtehpihmgjbmoaaaGreatDoor
