import Derived.Test.YtehpihmgjbmoaaaGreatDoorJoinQC
import Derived.Test.YtehpihmgjbmoaaaGreatDoorJoinZC
namespace Go.Proofs.YtehpihmgjbmoaaaGreatDoor
def DiffN (G:List Cn):Prop:=(G.map (·.num)).Nodup
theorem getG_not:∀ {G:List Cn} {n:Int},getG G n=none→n ∉ G.map (·.num)
  | [],_,_=>fun h=>by cases h
  | d::G,n,h=>by
    unfold getG at h;split at h
    · cases h
    · rename_i e
      intro hm;rw [List.map_cons] at hm;rcases List.mem_cons.1 hm with hm | hm
      · exact e hm
      · exact getG_not h hm
theorem getG_of:∀ {G:List Cn} {c:Cn},DiffN G→c ∈ G→getG G c.num=some c
  | d::G,c,h,hc=>by
    unfold DiffN at h;rw [List.map_cons,List.nodup_cons] at h;unfold getG;rcases List.mem_cons.1 hc with rfl | hc
    · rw [if_pos rfl]
    · have e:c.num≠d.num:=fun e=>h.1 (e ▸ List.mem_map_of_mem (f:=fun x:Cn=>x.num) hc)
      rw [if_neg e];exact getG_of h.2 hc
theorem nums_mod {f:Cn→Cn} (hf:∀ c,(f c).num=c.num):∀ (G:List Cn) (n:Int),(modG f G n).map (·.num)=G.map (·.num)
  | [],_=>rfl
  | d::G,n=>by
    unfold modG;split
    · rw [List.map_cons,List.map_cons,hf]
    · rw [List.map_cons,List.map_cons,nums_mod hf G n]
theorem DiffN.mod {f:Cn→Cn} (hf:∀ c,(f c).num=c.num) {G:List Cn} {n:Int} (h:DiffN G):DiffN (modG f G n):=by
  unfold DiffN;rw [nums_mod hf];exact h
theorem hear1_diff {G:List Cn} {i:Im} (h:DiffN G):DiffN (hear1 G i):=by
  unfold hear1;split
  · exact h.mod (f:=shutC) (fun _=>rfl)
  · exact h.mod (f:=hearC i.k (pksI i)) (fun c=>hearC_num _ _ c)
theorem hearG_diff:∀ {xs:List Im} {G:List Cn},DiffN G→DiffN (hearG G xs)
  | [],_,h=>h
  | i::xs,G,h=>hearG_diff (xs:=xs) (G:=hear1 G i) (hear1_diff h)
theorem does_diff {W u m:Nat} {G:List Cn} {ops:Int} {q:Ac} (h:DiffN G):DiffN (doesS W u m G ops q).1:=by
  unfold doesS;split
  · exact h.mod (f:=dropD) (fun _=>rfl)
  show DiffN (actS W u m G ops q).1;unfold actS;split
  · show DiffN (if _ then _ else _)
    split
    · rename_i hm
      have hn:getG G q.cn=none:=by
        unfold mayO at hm;cases hg:getG G q.cn with
        | none=>rfl
        | some c=>rw [hg] at hm;cases hm
      unfold DiffN;rw [List.map_append];refine List.pairwise_append.2 ⟨h,List.pairwise_singleton _ _,fun a ha b hb=>?_⟩;have e:b=q.cn:=List.mem_singleton.1 hb;rw [e];intro e2;rw [e2] at ha;exact getG_not hn ha
    · exact h
  split
  · exact h.mod (fed_num _)
  split
  · exact h.mod (f:=fun c=>{ c with hung:=true }) (fun _=>rfl)
  split
  · exact h.mod (f:=fun c=>(readC m W c q.now ops).1) (fun c=>read_num m W c q.now ops)
  split
  · exact hear1_diff h
  · exact h
theorem does_good {B D W u m:Nat} {G:List Cn} {ops:Int} {q:Ac} (h:GtGood B D G) (hB:B≤80000000) (hq:AcGood q):GtGood (B+q.bs.size) (D+4000000000) (doesS W u m G ops q).1:=by
  unfold doesS;split
  · exact fun c hc=>(drop_good h q.cn c hc).up (by omega) (by omega)
  · exact act_good h hB hq
theorem does_notes (W u m:Nat) (G:List Cn) (ops:Int) (q:Ac):(doesS W u m G ops q).2.length≤1:=by
  unfold doesS;split
  · exact Nat.zero_le _
  · exact act_notes W u m G ops q
theorem hearG_good {B D:Nat}:∀ {xs:List Im} {G:List Cn},GtGood B D G→(∀ i ∈ xs,i.ps.length≤10∧∀ p ∈ i.ps,PkOk p.1)→GtGood B (D+xs.length * 4000000000) (hearG G xs)
  | [],G,h,_=>fun c hc=>(h c hc).up (Nat.le_refl _) (by omega)
  | i::xs,G,h,hi=>by
    have h1:AcGood (acI i):=⟨(hi i List.mem_cons_self).1,(hi i List.mem_cons_self).2⟩
    have h2:GtGood B (D+4000000000) (hear1 G i):=hear1_good (q:=acI i) h h1;have h3:=hearG_good (xs:=xs) h2 (fun x hx=>hi x (List.mem_cons_of_mem _ hx));intro c hc;exact (h3 c hc).up (Nat.le_refl _) (by rw [List.length_cons];omega)
theorem hearG_hb {B D:Nat} {G:List Cn} {xs:List Im} (hG:GtGood B D G) (hD:D+xs.length * 4000000000≤1000000000000000) (hi:∀ i ∈ xs,i.ps.length≤10∧∀ p ∈ i.ps,PkOk p.1):∀ k c n,getG (hearG G (xs.take k)) n=some c→c.drain.size≤1000000000000000∧c.sent.size≤1000000000000000:=fun k c n hc=>by
  have h3:=hearG_good (xs:=xs.take k) hG (fun i hx=>hi i (List.mem_of_mem_take hx)) c (getG_mem hc).1;have h4:=h3.drain;have h5:=h3.sent;have h6:(xs.take k).length≤xs.length:=by rw [List.length_take];omega
  exact ⟨by omega,by omega⟩
structure GpSt where
  K:List CnG
  rv:Value
  R:List RnG
  vl:Value
  T:List NtG
  vn:Value
  N:List NtG
  ops:Int
  k:Nat
structure GpOk (xs:List Ac) (s:GpSt):Prop where
  eq:absR s.R=absK s.K
  nt:s.N.map (·.1)=s.T.map (·.1)
  rl:s.R.length≤s.k
  good:GtGood (sumL (xs.take s.k)) (s.k * 4000000000) (absK s.K)
  diff:DiffN (absK s.K)
  o0:0≤s.ops
  o1:s.ops≤s.k
  tl:s.T.length≤s.k
  kl:s.k≤xs.length
  pk:∀ x ∈ s.T,AskOk x.1
theorem gp_begin (xs:List Ac):GpOk xs ⟨[],.slice none 0 0,[],.slice none 0 0,[],.slice none 0 0,[],0,0⟩:=⟨rfl,rfl,Nat.le_refl _,(fun c hc=>by cases hc),List.Pairwise.nil,Int.le_refl _,Int.le_refl _,Nat.le_refl _,Nat.zero_le _,(fun x hx=>by cases hx)⟩
theorem take_act {xs:List Ac} {k:Nat} {q:Ac} (hq:xs[k]? = some q):xs.take (k+1)=xs.take k++[q]∧sumL (xs.take (k+1))=sumL (xs.take k)+q.bs.size:=by
  have ht:xs.take (k+1)=xs.take k++[q]:=by rw [List.take_add_one,hq];rfl
  exact ⟨ht,by rw [ht];unfold sumL;rw [List.map_append,List.sum_append];simp⟩
theorem GpOk.step {xs:List Ac} {s:GpSt} (h:GpOk xs s) {q:Ac} (hq:xs[s.k]? = some q) (hg:AcGood q) (hs:sumL xs≤5000) {W u m:Nat} (hpk:∀ x ∈ (doesS W u m (absK s.K) s.ops q).2,AskOk x) {K2:List CnG} {rv2:Value} {R2:List RnG} {vl2:Value} {T2:List NtG} {vn2:Value} {N2:List NtG}
    (h1:absK K2=(doesS W u m (absK s.K) s.ops q).1) (h2:absR R2=(doesS W u m (absK s.K) s.ops q).1) (h3:R2.length≤s.R.length+1) (h4:T2.map (·.1)=s.T.map (·.1)++(doesS W u m (absK s.K) s.ops q).2) (h5:N2.map (·.1)=s.T.map (·.1)++(doesS W u m (absK s.K) s.ops q).2) :
    GpOk xs ⟨K2,rv2,R2,vl2,T2,vn2,N2,s.ops+((doesS W u m (absK s.K) s.ops q).2.length:Int),s.k+1⟩:=by
  have hk:=(List.getElem?_eq_some_iff.1 hq).1;obtain ⟨_,hsum⟩:=take_act hq;have hst:=sum_take (xs:=xs) s.k;have hn:=does_notes W u m (absK s.K) s.ops q;have hG:=does_good (W:=W) (u:=u) (m:=m) (ops:=s.ops) h.good (by omega) hg;have hT:T2.length=s.T.length+(doesS W u m (absK s.K) s.ops q).2.length:=by have h:=congrArg List.length h4;rw [List.length_map,List.length_append,List.length_map] at h;exact h
  have a1:=h.rl;have a2:=h.o0;have a3:=h.o1;have a4:=h.tl;refine ⟨h2.trans h1.symm,h5.trans h4.symm,by simp only;omega,?_,?_,by simp only;omega,by simp only;omega,by simp only;omega,by simp only;omega,?_⟩
  · simp only
    rw [h1,hsum];exact fun c hc=>(hG c hc).up (by omega) (by omega)
  · simp only
    rw [h1];exact does_diff h.diff
  · simp only
    intro x hx;have hm:x.1 ∈ s.T.map (·.1)++(doesS W u m (absK s.K) s.ops q).2:=by rw [← h4];exact List.mem_map_of_mem (f:=fun y:NtG=>y.1) hx
    rcases List.mem_append.1 hm with hm | hm
    · obtain ⟨y,hy,e⟩:=List.mem_map.1 hm
      rw [← e];exact h.pk y hy
    · exact hpk _ hm
theorem GpOk.skip {xs:List Ac} {s:GpSt} (h:GpOk xs s) {q:Ac} (hq:xs[s.k]? = some q):GpOk xs { s with k:=s.k+1 }:=by
  have hk:=(List.getElem?_eq_some_iff.1 hq).1;obtain ⟨_,hsum⟩:=take_act hq;have a1:=h.rl;have a3:=h.o1;have a4:=h.tl;refine ⟨h.eq,h.nt,by simp only;omega,?_,h.diff,h.o0,by simp only;omega,by simp only;omega,by simp only;omega,h.pk⟩;simp only
  rw [hsum];exact fun c hc=>(h.good c hc).up (by omega) (by omega)
end Go.Proofs.YtehpihmgjbmoaaaGreatDoor
namespace Go.Proofs.YtehpihmgjbmoaaaGreatDoor
open Go.RowKit
attribute [local irreducible] Ok
end Go.Proofs.YtehpihmgjbmoaaaGreatDoor
