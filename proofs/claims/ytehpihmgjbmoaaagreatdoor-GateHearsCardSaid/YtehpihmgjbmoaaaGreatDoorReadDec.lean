import Derived.Test.YtehpihmgjbmoaaaGreatDoorReadCn
namespace Go.Proofs.YtehpihmgjbmoaaaGreatDoor
open Go.RowKit
attribute [local irreducible] Ok
def tailR (ty id:Nat) (c:Cur):Pk × Cur :=
  if ty=9 then ({ Pk.zero with ty:=ty,id:=id,codes:=baB c.1 },([],c.2))
  else if ty=8∨ty=10 then ({ Pk.zero with ty:=ty,id:=id,subs:=(subsR ty (c.1.length+1) c []).1 },(subsR ty (c.1.length+1) c []).2)
  else ({ Pk.zero with ty:=ty,id:=id },c)
theorem subs_end (ty:Nat) (f:Nat) (L:Bs) (k:Bool) (S:List Sb) (h:L=[]∨k=true):subsR ty f (L,k) S=(S,(L,k)):=by
  cases f with
  | zero=>rfl
  | succ f =>
    unfold subsR;rw [if_pos h]
def qR (ty:Nat) (c:Cur):Nat × Cur:=if ty=8 then oneR c else (0,c)
theorem subs_step (ty f:Nat) (L:Bs) (S:List Sb) (hne:L≠[]) (hf:L.length < f):∃ f',subsR ty f' (qR ty (textR (L,false)).2).2 (S++[((textR (L,false)).1,(qR ty (textR (L,false)).2).1)])=subsR ty f (L,false) S ∧
    ((qR ty (textR (L,false)).2).2.2=true∨(qR ty (textR (L,false)).2).2.1.length < f') ∧
    (((qR ty (textR (L,false)).2).2.2=true∧(qR ty (textR (L,false)).2).2.1.length≤L.length)∨(qR ty (textR (L,false)).2).2.1.length+2≤L.length)∧(qR ty (textR (L,false)).2).1 < 256:=by
  cases f with
  | zero=>omega
  | succ f =>
    have h1:=text_len (L,false);have h4:(qR ty (textR (L,false)).2).2.1.length≤(textR (L,false)).2.1.length∧(qR ty (textR (L,false)).2).1 < 256∧((textR (L,false)).2.2=true→(qR ty (textR (L,false)).2).2.2=true):=by
      unfold qR;split
      · exact ⟨one_len _,one_lt _,fun h=>one_bad h⟩
      · exact ⟨Nat.le_refl _,by show 0 < 256;omega,fun h=>h⟩
    have h5:(textR (L,false)).2.2=true∨(textR (L,false)).2.1.length+2≤L.length:=by
      rcases ht:textR (L,false) with ⟨s,L',k'⟩
      cases k' with
      | true=>left;rfl
      | false =>
        right
        obtain ⟨e,_⟩:=text_inv ht;rw [e];simp [dataB,wordB]
        try omega
    refine ⟨f,?_,?_,?_,h4.2.1⟩
    · conv=>rhs;rw [subsR]
      rw [if_neg (by simp [hne])];rfl
    · rcases h5 with h5 | h5
      · left;exact h4.2.2 h5
      · right;simp only at h1;omega
    · rcases h5 with h5 | h5
      · left;exact ⟨h4.2.2 h5,by simp only at h1;omega⟩
      · right;omega
theorem allR_lists (ty fl:Nat) (c:Cur) (h:ty≠1∧ty≠2∧ty≠3∧ty≠12∧ty≠13∧ty≠14):allR ty fl c=tailR ty (wordR c).1 (wordR c).2:=by
  obtain ⟨h1,h2,h3,h4,h5,h6⟩:=h;unfold allR tailR;rw [if_neg h1,if_neg h2,if_neg h3,if_neg (by omega)]
structure LsSt where
  L:Bs
  k:Bool
  S:List Sb
  a:Option Addr
  c:Nat
  f:Nat
structure LsOk (ty:Nat) (c0:Cur) (s:LsSt):Prop where
  fuel:s.k=true∨s.L.length < s.f
  len:s.L.length≤90000000
  sum:s.S.length+s.L.length≤90000000+(if s.k=true then 1 else 0)
  eq:subsR ty s.f (s.L,s.k) s.S=subsR ty (c0.1.length+1) c0 []
def lsM (s:LsSt):Nat:=2 * s.L.length+(if s.k=true then 0 else 1)
theorem ls_next {ty:Nat} {c0:Cur} {L:Bs} {S:List Sb} {a:Option Addr} {c f:Nat} (h:LsOk ty c0 ⟨L,false,S,a,c,f⟩) (hne:L≠[]) {t:ByteArray} {c1:Cur} (ht:textR (L,false)=(t,c1)) {q:Nat} {L2:Bs} {k2:Bool} (hq:qR ty c1=(q,(L2,k2))) (a2:Option Addr) (cc:Nat):∃ f',LsOk ty c0 ⟨L2,k2,S++[(t,q)],a2,cc,f'⟩∧lsM ⟨L2,k2,S++[(t,q)],a2,cc,f'⟩ < lsM ⟨L,false,S,a,c,f⟩:=by
  have hf:L.length < f:=by rcases h.fuel with e | e;cases e;exact e
  obtain ⟨f',h1,h2,h3,_⟩:=subs_step ty f L S hne hf;rw [ht] at h1 h2 h3;simp only at h1 h2 h3
  rw [hq] at h1 h2 h3;simp only at h1 h2 h3
  have l1:=h.len;have l2:=h.sum;simp only at l1 l2
  refine ⟨f',⟨h2,?_,?_,h1.trans h.eq⟩,?_⟩
  · simp only;omega
  · simp only [List.length_append,List.length_singleton]
    rcases h3 with ⟨e,h3⟩ | h3
    · rw [e];simp at l2 ⊢;omega
    · simp at l2;split <;> omega
  · unfold lsM
    simp only
    rcases h3 with ⟨e,h3⟩ | h3
    · rw [e];simp;omega
    · simp;split <;> omega
theorem and3T {f:Nat} (hf:f < 256):Value.int .u8 (bits BinOp.and IntKind.u8 ((f / 2 ^ 1:Nat):Int) 3)=.int .u8 ((f / 2 % 4:Nat):Int):=by
  have h:=and3_shr1 f hf;have e:((f / 2 ^ 1:Nat):Int)=(f:Int) / 2:=by simp
  rw [e,h]
theorem eqD (a:Nat):Value.bool (((a:Int)) == 1)=.bool (decide (a=1)):=by
  congr 1;rw [Bool.eq_iff_iff];simp
  omega
set_option maxRecDepth 100000 in
set_option maxHeartbeats 4000000 in
theorem restLists {wb:World} {X ty id:Nat} (c0:Cur) (hc:c0.1.length≤90000000):Spec Tryz.prog wb 99 #[.pointer (some ⟨X,0,none⟩)] [⟨X,curL c0 (pkV { Pk.zero with ty:=ty,id:=id } none 0).toList,141⟩] [] (fun _:Option Addr × Nat=>.tuple #[]) (fun y=>[⟨X,curL (tailR ty id c0).2 (pkV (tailR ty id c0).1 y.1 y.2).toList,141⟩]) (fun y=>[sbC ((tailR ty id c0).1,y)]):=by
  obtain ⟨z,hz⟩:∃ z,tailR ty id c0=z:=⟨_,rfl⟩
  rw [hz];unfold tailR at hz;intro w H;refine en_call Tryz.func99 H ?_;refine en E0 (eC 4 [.b 0 2]) ?_;by_cases h9:ty=9
  · rw [if_pos h9] at hz
    subst hz;refine en (EF [(.bool ((((ty:Int)):Int) == 9),.bool true)] ⟨eqI (by omega),trivial⟩) (.f 0::eC 5 []) ?_;refine en_spec0 (curEnd (wb:=wb) (X:=X) (p:={ Pk.zero with ty:=ty,id:=id }) (a:=none) (cc:=0) c0) [0] [] [] ?_;refine en E0 (eC 3 [.s 0 25]) ?_;refine en_row0 112 2 ?_;exact en_rets (none,0) [0] [0] []
  by_cases h8:¬ (ty=8∨ty=10)
  · rw [if_neg h9,if_neg h8] at hz
    subst hz;refine en (EF [(.bool ((((ty:Int)):Int) == 9),.bool false),(.bool ((((ty:Int)):Int) == 8),.bool false),(.bool ((((ty:Int)):Int) == 10),.bool false)] ⟨eqI' (by omega),eqI' (by omega),eqI' (by omega),trivial⟩) [.f 0,.c,.f 1,.c,.f 2,.c] ?_;refine en_row0 112 2 ?_;exact en_rets (none,0) [0] [0] []
  have h8:ty=8∨ty=10:=Decidable.byContradiction h8;rw [if_neg h9,if_pos h8] at hz;refine en (EF [(.bool ((((ty:Int)):Int) == 9),.bool false)] ⟨eqI' (by omega),trivial⟩) [.f 0,.c] ?_;refine en_meetP (codeOf Tryz.f99) [1,0,1,1,0] [] (α:=Unit) 1 (fun _=>[(0,.pointer (some ⟨X,0,none⟩)),(18,.bool true)]) (fun _=>[⟨X,curL c0 (pkV { Pk.zero with ty:=ty,id:=id } none 0).toList,141⟩]) (fun _=>many []) ?_ ?_
  · intro JT HJT
    by_cases e8:ty=8
    · refine en (EF [(.bool ((((ty:Int)):Int) == 8),.bool true)] ⟨eqI (by omega),trivial⟩) [.f 0,.c] ?_
      exact en_stopI (fun a w F HK=>HJT () a w F HK)
    · refine en (EF [(.bool ((((ty:Int)):Int) == 8),.bool false),(.bool ((((ty:Int)):Int) == 10),.bool true)] ⟨eqI' (by omega),eqI (by omega),trivial⟩) [.f 0,.c,.f 1,.c] ?_
      exact en_stopI (fun a w F HK=>HJT () a w F HK)
  intro _;refine en_row0 112 2 ?_;refine en_loopP (codeOf Tryz.f99) [1,0,1,1,1,0,0] [1,0,1,1,1,0,0,0] [] (α:={s:LsSt // LsOk ty c0 s}) (fun y=>lsM y.1) (fun y=>[(0,.pointer (some ⟨X,0,none⟩))]) (fun y=>[⟨X,[.string (baB y.1.L),.bool y.1.k,.int .u8 (ty:Int),.bool false,.int .u8 (0:Int),.bool false,.int .u16 (id:Int),.string e0,.string e0,.int .u8 (0:Int),.bool false,.int .u16 (0:Int),.string e0,.bool false,.string e0,.string e0,.int .u8 (0:Int),.bool false,.bool false,.bool false,.string e0,.string e0,.bool false,.int .u8 (0:Int),.slice y.1.a y.1.S.length y.1.c,.string e0],141⟩]) (fun y=>many [rowO 112 2 (.slice y.1.a y.1.S.length y.1.c) y.1.S.length (subCells y.1.S)]) ⟨⟨c0.1,c0.2,[],none,0,c0.1.length+1⟩,Or.inr (Nat.lt_succ_self _),hc,by simp only [List.length_nil];omega,rfl⟩ (by kernel_rfl) ?_;intro ⟨⟨L,k,S,a,cc,f⟩,hs⟩ J HJ;simp only at HJ
  by_cases hL:L=[]
  · have he:=hs.eq
    simp only at he
    rw [subs_end ty f L k S (Or.inl hL)] at he;rw [← he] at hz;simp only at hz
    subst hz;have hb0:baB L=⟨#[]⟩:=by rw [hL];rfl
    refine en (EF [(.bool (!(((baB L):ByteArray).toList == (⟨#[]⟩:ByteArray).toList)),.bool false)] ⟨neS' (hb0),trivial⟩) (eC 4 (.b 0 0::.f 0::eC 8 [])) ?_;exact en_rets (a,cc) [0] [0] []
  cases k
  · have l1:=hs.len
    have l2:=hs.sum;simp only at l1 l2
    have HT:=fun p a cc=>curText (wb:=wb) (X:=X) (p:=p) (a:=a) (cc:=cc) (L,false) (by simp only;omega)
    rcases ht:textR (L,false) with ⟨t,c1⟩
    rw [ht] at HT;have HO:=fun p a cc=>curOne (wb:=wb) (X:=X) (p:=p) (a:=a) (cc:=cc) c1
    rcases hq:qR ty c1 with ⟨q,L2,k2⟩
    obtain ⟨i0,hi,hz0,hz1,hz2⟩:=info_parts infoSub;refine en (EF [(.bool (!(((baB L):ByteArray).toList == (⟨#[]⟩:ByteArray).toList)),.bool true)] ⟨neS (fun e=>hL (by have h:=congrArg (fun s=>s.data.toList) e;exact h)),trivial⟩) (eC 4 (.b 0 0::.f 0::eC 5 (.b 0 1::eC 5 []))) ?_;refine en_spec0 (HT ({ Pk.zero with ty:=ty,id:=id,subs:=S }) a cc) [0] [] [] ?_;refine en1 E0 (.c::.n::.s 1 0::eC 4 [.b 0 2]) fun Y=>?_
    refine en_meetP (codeOf Tryz.f99) [1,0,1,1,1,0,0,0,1,0,1,0] [J] (α:=Unit) 1 (fun _=>[(0,.pointer (some ⟨X,0,none⟩)),(2,.pointer (some ⟨Y,0,none⟩))]) (fun _=>[⟨X,[.string (baB L2),.bool k2,.int .u8 (ty:Int),.bool false,.int .u8 (0:Int),.bool false,.int .u16 (id:Int),.string e0,.string e0,.int .u8 (0:Int),.bool false,.int .u16 (0:Int),.string e0,.bool false,.string e0,.string e0,.int .u8 (0:Int),.bool false,.bool false,.bool false,.string e0,.string e0,.bool false,.int .u8 (0:Int),.slice a S.length cc,.string e0],141⟩,⟨Y,[.string t,.int .u8 (q:Int)],112⟩]) (fun _=>many [rowO 112 2 (.slice a S.length cc) S.length (subCells S)]) ?_ ?_
    · intro JQ HJQ
      by_cases e8:ty=8
      · have hq2:oneR c1=(q,(L2,k2)):=by rw [← hq];unfold qR;rw [if_pos e8]
        rw [hq2] at HO;refine en (EF [(.bool ((((ty:Int)):Int) == 8),.bool true)] ⟨eqI (by omega),trivial⟩) (.f 0::eC 3 []) ?_;refine en_spec0 (HO ({ Pk.zero with ty:=ty,id:=id,subs:=S }) a cc) [0] [] [] ?_;refine en E0 [.c,.s 1 1] ?_;exact en_stopI (fun a w F HK=>HJQ () a w F HK)
      · have hq2:((0:Nat),c1)=(q,(L2,k2)):=by rw [← hq];unfold qR;rw [if_neg e8]
        injection hq2 with q1 q2
        subst q1 q2;refine en (EF [(.bool ((((ty:Int)):Int) == 8),.bool false)] ⟨eqI' (by omega),trivial⟩) [.f 0] ?_;exact en_stopI (fun a w F HK=>HJQ () a w F HK)
    intro _;refine en E0 [.g [(0,24,1),(1,0,2)] 12 false,.d (eN 0 (eC 5 [.l 0 0,.l 1 0]))] ?_;refine en_ops (ops_one 31 112 31 (.agg #[.string t,.int .u8 (q:Int)]) #[.string t,.int .u8 (q:Int)] rfl i0 _ hz1.symm Tryz.underlying31 hi hz0 (by rw [hz1];decide) (by rw [hz1];decide) (by rw [hz1];kernel_rfl) (by rw [hz1];rfl)) [] [] [(0,24,1),(1,0,2)] (fun b=>?_);refine en_ops (ops_app 31 31 112 i0 _ Tryz.underlying31 hi hz0 (hz1 ▸ rfl) (by rw [hz1];decide) (hz1.symm) (v:=.slice a S.length cc) (x:=.slice (some ⟨b,0,none⟩) 1 1) (n:=S.length) (m:=1) (xs:=subCells S) (news:=subCells [(t,q)]) (subCells_one _) (by unfold maxLen;simp at l2;omega) (by rw [hz2];simp at l2;omega)) [] [1,0] [(0,24,1),(1,0,2)] (fun v'=>?_);obtain ⟨S',hS'⟩:∃ S',S'=S++[(t,q)]:=⟨_,rfl⟩
    have e1:subCells S++subCells [(t,q)]=subCells S':=by rw [hS',subCells_append]
    have e2:S.length+1=S'.length:=by rw [hS'];simp
    rw [e1,e2];refine en_factK (p:=∃ a2 c2,v'=.slice a2 S'.length c2) (fun w h=>by obtain ⟨a,c,h1,_⟩:=own_form (is_at h.hp.is 0 (c:=rowO 112 2 v' S'.length (subCells S')) rfl);exact ⟨a,c,h1⟩) ?_;rintro ⟨a2,c2,rfl⟩;refine en E0 [.d (eN 9 (eC 3 [])),.s 0 24] ?_;obtain ⟨f',hok,hlt⟩:=ls_next hs hL ht hq a2 c2;rw [← hS'] at hok hlt;refine en_drop [0] [0] ?_;exact en_stopI (fun a w F HK=>HJ ⟨⟨L2,k2,S',a2,c2,f'⟩,hok⟩ a w (hlt) F HK)
  · have he:=hs.eq
    simp only at he
    rw [subs_end ty f L true S (Or.inr rfl)] at he;rw [← he] at hz;simp only at hz
    subst hz;refine en (EF [(.bool (!(((baB L):ByteArray).toList == (⟨#[]⟩:ByteArray).toList)),.bool true)] ⟨neS (fun e=>hL (by have h:=congrArg (fun s=>s.data.toList) e;exact h)),trivial⟩) (eC 4 (.b 0 0::.f 0::eC 5 [.b 0 1,.c,.c])) ?_;exact en_rets (a,cc) [0] [0] []
set_option maxRecDepth 100000 in
set_option maxHeartbeats 4000000 in
theorem restAll {wb:World} {X ty fl:Nat} (c0:Cur) (hfl:fl < 256) (hc:c0.1.length≤90000000):Spec Tryz.prog wb 80 #[.pointer (some ⟨X,0,none⟩),.int .u8 (fl:Int)] [⟨X,curL c0 (pkV { Pk.zero with ty:=ty } none 0).toList,141⟩] [] (fun _:Option Addr × Nat=>.tuple #[]) (fun y=>[⟨X,curL (allR ty fl c0).2 (pkV (allR ty fl c0).1 y.1 y.2).toList,141⟩]) (fun y=>[sbC ((allR ty fl c0).1,y)]):=by
  obtain ⟨z,hz⟩:∃ z,allR ty fl c0=z:=⟨_,rfl⟩
  rw [hz];intro w H;refine en_call Tryz.func80 H ?_;refine en E0 (eC 4 [.b 0 2]) ?_;by_cases h1:ty=1
  · subst h1
    have e:z=conR c0:=by rw [← hz];rfl
    subst e;refine en (EF [(.bool ((((1:Int)):Int) == 1),.bool true)] ⟨eqI (by omega),trivial⟩) [.f 0,.c,.c] ?_;refine en_spec0 (restConnect (wb:=wb) (X:=X) c0 hc) [0] [] [] ?_;refine en_new0 (sbC ((conR c0).1,none,0)) ?_ (fun w1=>by show World.ownsRow _ _ _ _ _ _ _;exact World.ownsRow_nil w1 0 _ _) (fun j h=>by cases h);exact en_rets (none,0) [0] [0] []
  refine en (EF [(.bool ((((ty:Int)):Int) == 1),.bool false)] ⟨eqI' (by omega),trivial⟩) [.f 0,.c] ?_;by_cases h2:ty=2
  · subst h2
    have H1:=fun p=>curOne (wb:=wb) (X:=X) (p:=p) (a:=none) (cc:=0) c0
    have ha:=one_lt c0;rcases h1:oneR c0 with ⟨a,L1,b1⟩
    rw [h1] at H1 ha;simp only at H1 ha
    obtain ⟨bad,hbad⟩:∃ b,(b1 || decide (1 < a))=b:=⟨_,rfl⟩
    have H2:=fun p=>curOne (wb:=wb) (X:=X) (p:=p) (a:=none) (cc:=0) (L1,bad)
    rcases h2:oneR (L1,bad) with ⟨q,c2⟩
    rw [h2] at H2;have e:z=({ Pk.zero with ty:=2,present:=decide (a=1),code:=q },c2):=by
      rw [← hz];unfold allR;rw [if_neg (by decide),if_pos rfl];simp only [h1,hbad,h2]
    subst e;refine en (EF [(.bool ((((2:Int)):Int) == 2),.bool true)] ⟨eqI (by omega),trivial⟩) (.f 0::eC 4 []) ?_;refine en_spec0 (H1 { Pk.zero with ty:=2 }) [0] [] [] ?_;refine en E0 [.c] ?_;refine en_meetP (codeOf Tryz.f80) [1,0,1,1,1,0,1,0] [] (α:=Unit) 0 (fun _=>[(0,.pointer (some ⟨X,0,none⟩)),(4,.int .u8 (a:Int))]) (fun _=>[⟨X,[.string (baB L1),.bool bad,.int .u8 (2:Int),.bool false,.int .u8 (0:Int),.bool false,.int .u16 (0:Int),.string e0,.string e0,.int .u8 (0:Int),.bool false,.int .u16 (0:Int),.string e0,.bool false,.string e0,.string e0,.int .u8 (0:Int),.bool false,.bool false,.bool false,.string e0,.string e0,.bool false,.int .u8 (0:Int),.slice none 0 0,.string e0],141⟩]) (fun _=>many []) ?_ ?_
    · intro JB HJB
      cases b1
      · by_cases hq:1 < a
        · have e:bad=true:=by rw [← hbad];simp [hq]
          subst e;refine en (EF [(.bool (decide ((((a:Int)):Int) > 1)),.bool true)] ⟨dcT (by omega),trivial⟩) (eC 5 (.b 0 1::.c::.c::.f 0::eC 4 [.s 0 1])) ?_;exact en_stopI (fun a w F HK=>HJB () a w F HK)
        · have e:bad=false:=by rw [← hbad];simp [hq]
          subst e;refine en (EF [(.bool (decide ((((a:Int)):Int) > 1)),.bool false)] ⟨dcF (by omega),trivial⟩) (eC 5 (.b 0 1::.c::.c::.f 0::eC 4 [.s 0 1])) ?_;exact en_stopI (fun a w F HK=>HJB () a w F HK)
      · have e:bad=true:=hbad.symm
        subst e;refine en E0 (eC 5 (.b 0 1::eC 7 [.s 0 1])) ?_;exact en_stopI (fun a w F HK=>HJB () a w F HK)
    intro _;refine en (EF [(.bool (((a:Int)) == 1),.bool (decide (a=1)))] ⟨eqD a,trivial⟩) (.c::.c::.f 0::eC 3 (.s 0 22::eC 4 [])) ?_;refine en_spec0 (H2 { Pk.zero with ty:=2,present:=(decide (a=1)) }) [0] [] [] ?_;refine en E0 (eC 3 [.s 0 23]) ?_;refine en_row0 112 2 ?_;exact en_rets (none,0) [0] [0] []
  refine en (EF [(.bool ((((ty:Int)):Int) == 2),.bool false)] ⟨eqI' (by omega),trivial⟩) [.f 0,.c] ?_;by_cases h3:ty=3
  · subst h3
    have H1:=fun p=>curText (wb:=wb) (X:=X) (p:=p) (a:=none) (cc:=0) c0 (by omega)
    have l1:=text_len c0;rcases h1:textR c0 with ⟨t,c1⟩
    rw [h1] at H1 l1;simp only at l1
    rcases h4:(if 0 < fl / 2 % 4 then wordR c1 else (0,c1)) with ⟨i,c2⟩
    have e:z=({ Pk.zero with ty:=3,dup:=decide (fl / 8 % 2=1),qos:=fl / 2 % 4,ret:=decide (fl % 2=1),topic:=t,id:=i,payload:=baB c2.1 },([],c2.2)):=by
      rw [← hz];unfold allR;rw [if_neg (by decide),if_neg (by decide),if_pos rfl];simp only [h1,h4]
    subst e;have HE:=fun p=>curEnd (wb:=wb) (X:=X) (p:=p) (a:=none) (cc:=0) c2
    refine en (EF [(.bool ((((3:Int)):Int) == 3),.bool true),(.int .u8 (bits BinOp.and IntKind.u8 (fl:Int) 8),.int .u8 ((bitM 8 fl:Nat):Int)),(.bool (decide (((bitM 8 fl:Nat):Int) > 0)),.bool (decide (fl / 8 % 2=1))),(.int .u8 (Int.fdiv (fl:Int) (2 ^ 1)),.int .u8 ((fl / 2 ^ 1:Nat):Int)),(.int .u8 (bits BinOp.and IntKind.u8 ((fl / 2 ^ 1:Nat):Int) 3),.int .u8 ((fl / 2 % 4:Nat):Int)),(.int .u8 (bits BinOp.and IntKind.u8 (fl:Int) 1),.int .u8 ((bitM 1 fl:Nat):Int)),(.bool (decide (((bitM 1 fl:Nat):Int) > 0)),.bool (decide (fl % 2=1)))] ⟨eqI (by omega),bit_m hfl (m:=8) (by simp),bit_gt (by decide) (rfl),shr_k fl 1,and3T hfl,bit_m hfl (m:=1) (by simp),bit_gt (by decide) (by rw [Nat.div_one]),trivial⟩) (.f 0::eC 5 (.f 1::.f 2::.c::.f 3::.f 4::.c::.f 5::.f 6::eC 3 (.s 0 3::eC 3 (.s 0 4::eC 3 (.s 0 5::eC 4 []))))) ?_;refine en_spec0 (H1 { Pk.zero with ty:=3,dup:=(decide (fl / 8 % 2=1)),qos:=(fl / 2 % 4:Nat),ret:=(decide (fl % 2=1)) }) [0] [] [] ?_;refine en E0 (eC 3 (.s 0 7::eC 4 [.b 0 4])) ?_;refine en_meetP (codeOf Tryz.f80) [1,0,1,1,1,1,1,0,1,1,0] [] (α:=Unit) 1 (fun _=>[(0,.pointer (some ⟨X,0,none⟩))]) (fun _=>[⟨X,[.string (baB c2.1),.bool c2.2,.int .u8 (3:Int),.bool (decide (fl / 8 % 2=1)),.int .u8 ((fl / 2 % 4:Nat):Int),.bool (decide (fl % 2=1)),.int .u16 (i:Int),.string t,.string e0,.int .u8 (0:Int),.bool false,.int .u16 (0:Int),.string e0,.bool false,.string e0,.string e0,.int .u8 (0:Int),.bool false,.bool false,.bool false,.string e0,.string e0,.bool false,.int .u8 (0:Int),.slice none 0 0,.string e0],141⟩]) (fun _=>many []) ?_ ?_
    · intro JI HJI
      by_cases hq:0 < fl / 2 % 4
      · have HW:=fun p=>curWord (wb:=wb) (X:=X) (p:=p) (a:=none) (cc:=0) c1 (by omega)
        rw [if_pos hq] at h4;rw [h4] at HW;refine en (EF [(.bool (decide (((((fl / 2 % 4:Nat):Int)):Int) > 0)),.bool true)] ⟨dcT (by omega),trivial⟩) (.f 0::eC 4 []) ?_;refine en_spec0 (HW { Pk.zero with ty:=3,dup:=(decide (fl / 8 % 2=1)),qos:=(fl / 2 % 4:Nat),ret:=(decide (fl % 2=1)),topic:=t }) [0] [] [] ?_;refine en E0 (eC 3 [.s 0 6]) ?_;exact en_stopI (fun a w F HK=>HJI () a w F HK)
      · rw [if_neg hq] at h4
        injection h4 with q1 q2
        subst q1 q2;refine en (EF [(.bool (decide (((((fl / 2 % 4:Nat):Int)):Int) > 0)),.bool false)] ⟨dcF (by omega),trivial⟩) [.f 0] ?_;exact en_stopI (fun a w F HK=>HJI () a w F HK)
    intro _;refine en E0 (eC 4 []) ?_;refine en_spec0 (HE { Pk.zero with ty:=3,dup:=(decide (fl / 8 % 2=1)),qos:=(fl / 2 % 4:Nat),ret:=(decide (fl % 2=1)),id:=i,topic:=t }) [0] [] [] ?_;refine en E0 (eC 3 [.s 0 8]) ?_;refine en_row0 112 2 ?_;exact en_rets (none,0) [0] [0] []
  refine en (EF [(.bool ((((ty:Int)):Int) == 3),.bool false)] ⟨eqI' (by omega),trivial⟩) [.f 0,.c] ?_;by_cases hb:ty=12∨ty=13∨ty=14
  · have e:z=({ Pk.zero with ty:=ty },c0):=by rw [← hz];unfold allR;rw [if_neg h1,if_neg h2,if_neg h3,if_pos hb]
    subst e;by_cases b1:ty=12
    · refine en (EF [(.bool ((((ty:Int)):Int) == 12),.bool true)] ⟨eqI (by omega),trivial⟩) [.f 0,.c] ?_
      refine en_row0 112 2 ?_;exact en_rets (none,0) [0] [0] []
    by_cases b2:ty=13
    · refine en (EF [(.bool ((((ty:Int)):Int) == 12),.bool false),(.bool ((((ty:Int)):Int) == 13),.bool true)] ⟨eqI' (by omega),eqI (by omega),trivial⟩) [.f 0,.c,.f 1,.c] ?_
      refine en_row0 112 2 ?_;exact en_rets (none,0) [0] [0] []
    refine en (EF [(.bool ((((ty:Int)):Int) == 12),.bool false),(.bool ((((ty:Int)):Int) == 13),.bool false),(.bool ((((ty:Int)):Int) == 14),.bool true)] ⟨eqI' (by omega),eqI' (by omega),eqI (by omega),trivial⟩) [.f 0,.c,.f 1,.c,.f 2,.c] ?_;refine en_row0 112 2 ?_;exact en_rets (none,0) [0] [0] []
  rw [allR_lists ty fl c0 (by omega)] at hz;have H1:=fun p=>curWord (wb:=wb) (X:=X) (p:=p) (a:=none) (cc:=0) c0 (by omega)
  have l1:=word_len c0;rcases h4:wordR c0 with ⟨i,c1⟩
  rw [h4] at H1 l1 hz;simp only at l1 hz
  have H2:=restLists (wb:=wb) (X:=X) (ty:=ty) (id:=i) c1 (by omega);rw [hz] at H2;refine en (EF [(.bool ((((ty:Int)):Int) == 12),.bool false),(.bool ((((ty:Int)):Int) == 13),.bool false),(.bool ((((ty:Int)):Int) == 14),.bool false)] ⟨eqI' (by omega),eqI' (by omega),eqI' (by omega),trivial⟩) (.f 0::.c::.f 1::.c::.f 2::eC 5 []) ?_;refine en_spec0 (H1 { Pk.zero with ty:=ty }) [0] [] [] ?_;refine en E0 (eC 3 [.s 0 6,.c]) ?_;refine en_spec (H2) [0] [] [] (fun y=>?_);obtain ⟨a,cc⟩:=y;exact en_rets (a,cc) [0] [0] []
theorem and15N {f:Nat} (hf:f < 256):Value.int .u8 (bits BinOp.and IntKind.u8 (f:Int) 15)=.int .u8 ((f % 16:Nat):Int):=congrArg (Value.int .u8) ((by decide +kernel:∀ c:Nat,c < 256→bits BinOp.and IntKind.u8 (c:Int) 15=((c % 16:Nat):Int)) f hf)
theorem shr16 (f:Nat):Value.int .u8 (Int.fdiv (f:Int) (2 ^ 4))=.int .u8 ((f / 16:Nat):Int):=shr_k f 4
set_option maxRecDepth 100000 in
set_option maxHeartbeats 4000000 in
theorem decS {wb:World} {L:Bs} (hL:L.length≤90000000) {p:Pk} {u9 e8:Nat} (hd:decR L=(p,u9,e8)):Spec Tryz.prog wb 61 #[.string (bB L)] [] [] (fun y:Option Addr × Nat=>.tuple #[.agg (pkV p y.1 y.2),.int .i64 (u9:Int),.int .i64 (e8:Int)]) (fun _=>[]) (fun y=>[sbC (p,y)]):=by
  cases L with
  | nil =>
    intro w H;refine en_call Tryz.func61 H ?_;have e9:(p,u9,e8)=(Pk.zero,0,2):=by rw [← hd];rfl
    injection e9 with q1 e9
    injection e9 with q2 q3
    subst q1 q2 q3;refine en1 (EF [(.bool (((bB []):ByteArray).toList == (⟨#[]⟩:ByteArray).toList),.bool true)] ⟨eqS (rfl),trivial⟩) (.n::eC 3 [.f 0,.c,.s 0 0,.c,.c]) fun Y=>?_
    refine en_row0 112 2 ?_;exact en_rets (none,0) [] [0] [0]
  | cons b t =>
    have hb:=b.toNat_lt;have hsz:(bB (b::t)).size=t.length+1:=rfl;simp only [List.length_cons] at hL;have HF:=fun w1=>read_First b.toNat hb w1
    have HN:=fun w1=>num_ReadLenG (bB t) w1
    rw [show bl (bB t)=t from rfl] at HN;rcases hlr:lenR t with ⟨n,u,e⟩
    rw [hlr] at HN;obtain ⟨fo,hfo⟩:∃ f,firstOk b.toNat=f:=⟨_,rfl⟩
    rw [hfo] at HF;intro w H;refine en_call Tryz.func61 H ?_;cases fo
    · have e9:(p,u9,e8)=(Pk.zero,0,4):=by rw [← hd];simp only [decR];rw [if_pos hfo]
      injection e9 with q1 e9
      injection e9 with q2 q3
      subst q1 q2 q3;refine en1 ⟨⟨[],[(ixT (.string (bB (b::t))) (.int .i64 ((0:Nat):Int)) 5,.int .u8 (b.toNat:Int))]⟩,[(.bool (((bB (b::t)):ByteArray).toList == (⟨#[]⟩:ByteArray).toList),.bool false)],[],[⟨78,#[.int .u8 (b.toNat:Int)],.bool false,[],[]⟩],fun _ _ h=>⟨trivial,⟨ix_run (L:=b::t) (i:=0) rfl 5,trivial⟩⟩,⟨eqS' (ne0 b t),trivial⟩,trivial,⟨fun _ w1 _ _=>(HF w1).mono (fun e w' h=>⟨h.1,h.2 ▸ Below.refl _ _⟩),trivial⟩⟩ (.n::eC 3 [.f 0,.c,.r 0,.k 0,.c,.c,.s 0 0,.c,.c]) fun Y=>?_
      refine en_row0 112 2 ?_;exact en_rets (none,0) [] [0] [0]
    by_cases he:e≠0
    · have e9:(p,u9,e8)=(Pk.zero,0,e):=by rw [← hd];simp only [decR];rw [if_neg (by rw [hfo];decide),hlr,if_pos he]
      injection e9 with q1 e9
      injection e9 with q2 q3
      subst q1 q2 q3;refine en1 ⟨⟨[],[(ixT (.string (bB (b::t))) (.int .i64 ((0:Nat):Int)) 5,.int .u8 (b.toNat:Int)),(tlT (.string (bB (b::t))) (.int .i64 ((1:Nat):Int)) 9,.string (bB t))]⟩,[(.bool (((bB (b::t)):ByteArray).toList == (⟨#[]⟩:ByteArray).toList),.bool false),(.bool ((((e8:Int)):Int) != 0),.bool true)],[],[⟨78,#[.int .u8 (b.toNat:Int)],.bool true,[],[]⟩,⟨79,#[.string (bB t)],.tuple #[.int .i64 (n:Int),.int .i64 (u:Int),.int .i64 (e8:Int)],[],[]⟩],fun _ _ h=>⟨trivial,⟨ix_run (L:=b::t) (i:=0) rfl 5,tl_run (L:=b::t) (i:=1) (Nat.le_add_left 1 t.length) 9,trivial⟩⟩,⟨eqS' (ne0 b t),neI (by omega),trivial⟩,trivial,⟨fun _ w1 _ _=>(HF w1).mono (fun e w' h=>⟨h.1,h.2 ▸ Below.refl _ _⟩),fun _ w1 _ _=>(HN w1).mono (fun e w' h=>⟨h.1,h.2 ▸ Below.refl _ _⟩),trivial⟩⟩ (.n::eC 3 (.f 0::.c::.r 0::.k 0::.c::.c::.r 1::.k 1::eC 8 [.f 1,.c,.c,.s 0 0,.c,.c])) fun Y=>?_
      refine en_row0 112 2 ?_;exact en_rets (none,0) [] [0] [0]
    have he0:e=0:=Decidable.byContradiction he;subst he0;obtain ⟨hu2,hu4,hu5,_,hn5⟩:=lenR_inv hlr;refine en1 ⟨⟨[],[(ixT (.string (bB (b::t))) (.int .i64 ((0:Nat):Int)) 5,.int .u8 (b.toNat:Int)),(tlT (.string (bB (b::t))) (.int .i64 ((1:Nat):Int)) 9,.string (bB t))]⟩,[(.bool (((bB (b::t)):ByteArray).toList == (⟨#[]⟩:ByteArray).toList),.bool false),(.bool (((((0:Nat):Int)):Int) != 0),.bool false),(.int .i64 (IntKind.i64.wrap ((u:Int)+1)),.int .i64 ((u+1:Nat):Int)),(.int .i64 (IntKind.i64.wrap (((bB (b::t)).size:Int) - ((u+1:Nat):Int))),.int .i64 ((t.length:Int) - (u:Int)))],[],[⟨78,#[.int .u8 (b.toNat:Int)],.bool true,[],[]⟩,⟨79,#[.string (bB t)],.tuple #[.int .i64 (n:Int),.int .i64 (u:Int),.int .i64 ((0:Nat):Int)],[],[]⟩],fun _ _ h=>⟨trivial,⟨ix_run (L:=b::t) (i:=0) rfl 5,tl_run (L:=b::t) (i:=1) (Nat.le_add_left 1 t.length) 9,trivial⟩⟩,⟨eqS' (ne0 b t),neI' (by omega),addI (by omega),wrR (by rw [hsz];omega) (by rw [hsz];omega) (by rw [hsz];omega),trivial⟩,trivial,⟨fun _ w1 _ _=>(HF w1).mono (fun e w' h=>⟨h.1,h.2 ▸ Below.refl _ _⟩),fun _ w1 _ _=>(HN w1).mono (fun e w' h=>⟨h.1,h.2 ▸ Below.refl _ _⟩),trivial⟩⟩ (.n::eC 3 (.f 0::.c::.r 0::.k 0::.c::.c::.r 1::.k 1::eC 8 (.f 1::.c::.f 2::eC 4 [.f 3,.c]))) fun Y=>?_
    refine en_norm (runP (codeOf Tryz.f61) [1,1,1,1,1,1,0,0] [] 5) [(0,.string (bB (b::t))),(2,.pointer (some ⟨Y,0,none⟩)),(3,.int .i64 0),(4,.int .i64 ((0:Nat):Int)),(5,.int .i64 (n:Int)),(6,.int .i64 ((u+1:Nat):Int)),(32,.int .i64 ((t.length:Int) - (u:Int))),(33,.int .i64 (n:Int))] [⟨Y,(pkV Pk.zero none 0).toList,33⟩] ?_;by_cases hsh:t.length - u < n
    · have e9:(p,u9,e8)=(Pk.zero,0,2):=by rw [← hd];simp only [decR];rw [if_neg (by rw [hfo];decide),hlr,if_neg (by simp),if_pos hsh]
      injection e9 with q1 e9
      injection e9 with q2 q3
      subst q1 q2 q3;refine en (EF [(.bool (decide (((((t.length:Int) - (u:Int))):Int) < (n:Int))),.bool true)] ⟨dcT (by omega),trivial⟩) [.f 0,.c,.s 0 0,.c,.c] ?_;refine en_row0 112 2 ?_;exact en_rets (none,0) [] [0] [0]
    obtain ⟨M,hM⟩:∃ M,(t.drop u).take n=M:=⟨_,rfl⟩
    have hMl:M.length=n:=by rw [← hM,List.length_take,List.length_drop];omega
    have hM2:((b::t).drop (u+1)).take (u+1+n - (u+1))=M:=by rw [List.drop_succ_cons,show u+1+n - (u+1)=n by omega];exact hM
    refine en1 ⟨⟨[],[(mdT (.string (bB (b::t))) (.int .i64 ((u+1:Nat):Int)) (.int .i64 ((u+1+n:Nat):Int)) 9,.string (bB M)),(ixT (.string (bB (b::t))) (.int .i64 ((0:Nat):Int)) 5,.int .u8 (b.toNat:Int))]⟩,[(.bool (decide (((((t.length:Int) - (u:Int))):Int) < (n:Int))),.bool false),(.int .i64 (IntKind.i64.wrap (((u+1:Nat):Int)+(n:Int))),.int .i64 ((u+1+n:Nat):Int)),(.int .u8 (Int.fdiv (b.toNat:Int) (2 ^ 4)),.int .u8 ((b.toNat / 16:Nat):Int))],[],[],fun _ _ h=>⟨trivial,⟨md_run' (L:=b::t) (i:=u+1) (j:=u+1+n) (by omega) (by show _≤t.length+1;omega) (by show t.length+1≤_;omega) hM2 9,ix_run (L:=b::t) (i:=0) rfl 5,trivial⟩⟩,⟨dcF (by omega),wrK (by omega) (by omega),shr16 b.toNat,trivial⟩,trivial,trivial⟩ (.f 0::eC 4 (.f 1::.r 0::.c::.c::.x::eC 3 (.r 1::.f 2::eC 3 [.s 1 2,.c]))) fun X=>?_
    refine en_norm (runP (codeOf Tryz.f61) [1,1,1,1,1,1,1,1,1,0,0] [] 1) [(0,.string (bB (b::t))),(2,.pointer (some ⟨Y,0,none⟩)),(3,.int .i64 0),(4,.int .i64 ((0:Nat):Int)),(5,.int .i64 (n:Int)),(6,.int .i64 ((u+1:Nat):Int)),(7,.pointer (some ⟨X,0,none⟩)),(52,.pointer (some ⟨X,0,none⟩))] [⟨Y,(pkV Pk.zero none 0).toList,33⟩,⟨X,[.string (bB M),.bool false,.int .u8 ((b.toNat / 16:Nat):Int),.bool false,.int .u8 0,.bool false,.int .u16 0,.string ⟨#[]⟩,.string ⟨#[]⟩,.int .u8 0,.bool false,.int .u16 0,.string ⟨#[]⟩,.bool false,.string ⟨#[]⟩,.string ⟨#[]⟩,.int .u8 0,.bool false,.bool false,.bool false,.string ⟨#[]⟩,.string ⟨#[]⟩,.bool false,.int .u8 0,.slice none 0 0,.string ⟨#[]⟩],141⟩] ?_;by_cases hlev:b.toNat / 16=1∧6 < M.length∧M.take 6=dataB mqtt∧M[6]?≠some 4
    · obtain ⟨k1,k2,k3,k4⟩:=hlev
      obtain ⟨l,hl⟩:∃ l,M[6]? = some l:=⟨_,List.getElem?_eq_getElem k2⟩
      have hl4:l.toNat≠4:=fun h=>k4 (by rw [hl,show l=4 from UInt8.toNat_inj.1 h])
      have hq6:bB (M.take 6)=⟨#[0,4,77,81,84,84]⟩:=by rw [k3];rfl
      have e9:(p,u9,e8)=({ Pk.zero with ty:=1,level:=l.toNat },u+1+n,0):=by rw [← hd];simp only [decR];rw [if_neg (by rw [hfo];decide),hlr,if_neg (by simp),if_neg hsh];simp only [hM];rw [show bodyR b.toNat M=({ Pk.zero with ty:=1,level:=l.toNat },0) from (by unfold bodyR;rw [if_pos ⟨k1,k2,k3,k4⟩,List.getD_eq_getElem?_getD,hl];rfl),if_neg (by simp)];simp only [Prod.mk.injEq,true_and,and_true];omega
      injection e9 with q1 e9
      injection e9 with q2 q3
      subst q1 q2 q3;refine en ⟨⟨[],[(hdT' (.string (bB M)) (.int .i64 ((6:Nat):Int)) 9,.string (bB (M.take 6))),(ixT (.string (bB M)) (.int .i64 ((6:Nat):Int)) 5,.int .u8 (l.toNat:Int))]⟩,[(.bool (((((b.toNat / 16:Nat):Int)):Int) == 1),.bool true),(.bool (decide ((((n:Int)):Int) > 6)),.bool true),(.bool (((bB (M.take 6)):ByteArray).toList == (⟨#[0,4,77,81,84,84]⟩:ByteArray).toList),.bool true),(.bool ((((l.toNat:Int)):Int) != 4),.bool true),(.int .i64 (IntKind.i64.wrap (((u+1:Nat):Int)+(n:Int))),.int .i64 ((u+1+n:Nat):Int))],[],[],fun _ _ h=>⟨trivial,⟨hd_run (L:=M) (j:=6) (by omega) (by omega) 9,ix_run (L:=M) (i:=6) hl 5,trivial⟩⟩,⟨eqI (by omega),dcT (by omega),eqS (hq6),neI (by omega),wrK (by omega) (by omega),trivial⟩,trivial,trivial⟩ (eC 3 (.b 1 2::.f 0::.c::.c::.f 1::eC 6 (.b 1 0::.r 0::.f 2::eC 6 (.b 1 0::.r 1::.f 3::eC 5 (.b 1 0::.r 1::eC 3 [.f 4,.s 0 0,.c,.c]))))) ?_;refine en_row0 112 2 ?_;exact en_rets (none,0) [] [0] [0]
    refine en_meetP (codeOf Tryz.f61) [1,1,1,1,1,1,1,1,1,0] [] (α:=Unit) 1 (fun _=>[(0,.string (bB (b::t))),(2,.pointer (some ⟨Y,0,none⟩)),(5,.int .i64 (n:Int)),(6,.int .i64 ((u+1:Nat):Int)),(7,.pointer (some ⟨X,0,none⟩))]) (fun _=>[⟨Y,(pkV Pk.zero none 0).toList,33⟩,⟨X,[.string (bB M),.bool false,.int .u8 ((b.toNat / 16:Nat):Int),.bool false,.int .u8 0,.bool false,.int .u16 0,.string ⟨#[]⟩,.string ⟨#[]⟩,.int .u8 0,.bool false,.int .u16 0,.string ⟨#[]⟩,.bool false,.string ⟨#[]⟩,.string ⟨#[]⟩,.int .u8 0,.bool false,.bool false,.bool false,.string ⟨#[]⟩,.string ⟨#[]⟩,.bool false,.int .u8 0,.slice none 0 0,.string ⟨#[]⟩],141⟩]) (fun _=>many []) ?_ ?_
    · intro JL HJL
      by_cases k1:¬ b.toNat / 16=1
      · refine en (EF [(.bool (((((b.toNat / 16:Nat):Int)):Int) == 1),.bool false)] ⟨eqI' (by omega),trivial⟩) (eC 3 (.b 1 2::.f 0::eC 22 [])) ?_
        exact en_stopI (fun a w F HK=>HJL () a w F HK)
      have k1:=Decidable.byContradiction k1;by_cases k2:¬ 6 < n
      · refine en (EF [(.bool (((((b.toNat / 16:Nat):Int)):Int) == 1),.bool true),(.bool (decide ((((n:Int)):Int) > 6)),.bool false)] ⟨eqI (by omega),dcF (by omega),trivial⟩) (eC 3 (.b 1 2::.f 0::.c::.c::.f 1::eC 19 [])) ?_
        exact en_stopI (fun a w F HK=>HJL () a w F HK)
      have k2:=Decidable.byContradiction k2;by_cases k3:¬ M.take 6=dataB mqtt
      · refine en ⟨⟨[],[(hdT' (.string (bB M)) (.int .i64 ((6:Nat):Int)) 9,.string (bB (M.take 6)))]⟩,[(.bool (((((b.toNat / 16:Nat):Int)):Int) == 1),.bool true),(.bool (decide ((((n:Int)):Int) > 6)),.bool true),(.bool (((bB (M.take 6)):ByteArray).toList == (⟨#[0,4,77,81,84,84]⟩:ByteArray).toList),.bool false)],[],[],fun _ _ h=>⟨trivial,⟨hd_run (L:=M) (j:=6) (by omega) (by omega) 9,trivial⟩⟩,⟨eqI (by omega),dcT (by omega),eqS' (fun h=>k3 (by have h2:=congrArg (fun s=>s.data.toList) h;exact h2)),trivial⟩,trivial,trivial⟩ (eC 3 (.b 1 2::.f 0::.c::.c::.f 1::eC 6 (.b 1 0::.r 0::.f 2::eC 10 []))) ?_
        exact en_stopI (fun a w F HK=>HJL () a w F HK)
      have k3:=Decidable.byContradiction k3;obtain ⟨l,hl⟩:∃ l,M[6]? = some l:=⟨_,List.getElem?_eq_getElem (by omega)⟩
      have hl4:l.toNat=4:=Decidable.byContradiction fun h=>hlev ⟨k1,by omega,k3,fun e=>h (by rw [hl] at e;injection e with e;rw [e];rfl)⟩
      have hq6:bB (M.take 6)=⟨#[0,4,77,81,84,84]⟩:=by rw [k3];rfl
      refine en ⟨⟨[],[(hdT' (.string (bB M)) (.int .i64 ((6:Nat):Int)) 9,.string (bB (M.take 6))),(ixT (.string (bB M)) (.int .i64 ((6:Nat):Int)) 5,.int .u8 (l.toNat:Int))]⟩,[(.bool (((((b.toNat / 16:Nat):Int)):Int) == 1),.bool true),(.bool (decide ((((n:Int)):Int) > 6)),.bool true),(.bool (((bB (M.take 6)):ByteArray).toList == (⟨#[0,4,77,81,84,84]⟩:ByteArray).toList),.bool true),(.bool ((((l.toNat:Int)):Int) != 4),.bool false)],[],[],fun _ _ h=>⟨trivial,⟨hd_run (L:=M) (j:=6) (by omega) (by omega) 9,ix_run (L:=M) (i:=6) hl 5,trivial⟩⟩,⟨eqI (by omega),dcT (by omega),eqS (hq6),neI' (by omega),trivial⟩,trivial,trivial⟩ (eC 3 (.b 1 2::.f 0::.c::.c::.f 1::eC 6 (.b 1 0::.r 0::.f 2::eC 6 [.b 1 0,.r 1,.f 3,.c]))) ?_;exact en_stopI (fun a w F HK=>HJL () a w F HK)
    intro _;have hpk:=allR_pk (b.toNat / 16) (b.toNat % 16) (by omega) (M,false) (by simp only;omega);have HA:=restAll (wb:=wb) (X:=X) (ty:=b.toNat / 16) (fl:=b.toNat % 16) (M,false) (by omega) (by simp only;omega);rcases hal:allR (b.toNat / 16) (b.toNat % 16) (M,false) with ⟨q,L2,k2⟩
    rw [hal] at hpk HA;simp only at hpk
    obtain ⟨rr,hrr⟩:∃ r,decide (0≤restP q)=r:=⟨_,rfl⟩
    have HR:=fun a cc w1 hE ha=>packet_Right q a cc w1 hE hpk ha
    rw [hrr] at HR;have hbody:bodyR b.toNat M=if k2=true∨L2≠[]∨restP q < 0 then (Pk.zero,4) else (q,0):=by
      unfold bodyR;rw [if_neg hlev,hal]
    refine en ⟨⟨[],[(ixT (.string (bB (b::t))) (.int .i64 ((0:Nat):Int)) 5,.int .u8 (b.toNat:Int))]⟩,[(.int .u8 (bits BinOp.and IntKind.u8 (b.toNat:Int) 15),.int .u8 ((b.toNat % 16:Nat):Int))],[],[],fun _ _ h=>⟨trivial,⟨ix_run (L:=b::t) (i:=0) rfl 5,trivial⟩⟩,⟨and15N hb,trivial⟩,trivial,trivial⟩ [.c,.c,.r 0,.f 0] ?_;refine en_spec (HA) [1] [] [] (fun y=>?_);obtain ⟨a,cc⟩:=y;refine en_norm (runP (codeOf Tryz.f61) [1,1,1,1,1,1,1,1,1,1,1,0,0] [] 0) [(2,.pointer (some ⟨Y,0,none⟩)),(5,.int .i64 (n:Int)),(6,.int .i64 ((u+1:Nat):Int)),(7,.pointer (some ⟨X,0,none⟩))] [⟨X,curL (L2,k2) (pkV q a cc).toList,141⟩,⟨Y,(pkV Pk.zero none 0).toList,33⟩] ?_;cases k2
    · by_cases hl2:L2≠[]
      · have e9:(p,u9,e8)=(Pk.zero,0,4):=by rw [← hd];simp only [decR];rw [if_neg (by rw [hfo];decide),hlr,if_neg (by simp),if_neg hsh];simp only [hM];rw [show bodyR b.toNat M=(Pk.zero,4) from (by rw [hbody,if_pos (Or.inr (Or.inl hl2))]),if_pos (by simp)]
        injection e9 with q1 e9
        injection e9 with q2 q3
        subst q1 q2 q3;refine en (EF [(.bool (!(((baB L2):ByteArray).toList == (⟨#[]⟩:ByteArray).toList)),.bool true)] ⟨neS (fun e=>hl2 (by have h:=congrArg (fun s=>s.data.toList) e;exact h)),trivial⟩) (eC 4 (.b 0 1::eC 5 (.b 0 0::.f 0::eC 10 [.s 1 0,.c,.c]))) ?_;refine en_row0 112 2 ?_;exact en_rets (none,0) [] [0] [1]
      have hl2:L2=[]:=Decidable.byContradiction hl2;have hb0:baB L2=⟨#[]⟩:=by rw [hl2];rfl
      cases rr
      · have hr0:restP q < 0:=by have h:=of_decide_eq_false hrr;omega
        have e9:(p,u9,e8)=(Pk.zero,0,4):=by rw [← hd];simp only [decR];rw [if_neg (by rw [hfo];decide),hlr,if_neg (by simp),if_neg hsh];simp only [hM];rw [show bodyR b.toNat M=(Pk.zero,4) from (by rw [hbody,if_pos (Or.inr (Or.inr hr0))]),if_pos (by simp)]
        injection e9 with q1 e9
        injection e9 with q2 q3
        subst q1 q2 q3;refine en (EK [(.bool (!(((baB L2):ByteArray).toList == (⟨#[]⟩:ByteArray).toList)),.bool false)] ⟨neS' (hb0),trivial⟩ [⟨81,#[.agg (pkV q a cc)],.bool false,[],[]⟩] ⟨fun _ w1 h _=>HR a cc w1 h.hp.env (own_cells (show w1.ownsRow 0 112 2 (.slice a q.subs.length cc) q.subs.length (subCells q.subs) from is_at h.hp.is 0 (c:=sbC (q,a,cc)) rfl)),trivial⟩) (eC 4 (.b 0 1::eC 5 (.b 0 0::.f 0::eC 5 (.b 0 2::.k 0::eC 3 [.s 1 0,.c,.c])))) ?_;refine en_row0 112 2 ?_;exact en_rets (none,0) [] [0] [1]
      · have hr0:¬ restP q < 0:=by have h:=of_decide_eq_true hrr;omega
        have e9:(p,u9,e8)=(q,u+1+n,0):=by rw [← hd];simp only [decR];rw [if_neg (by rw [hfo];decide),hlr,if_neg (by simp),if_neg hsh];simp only [hM];rw [show bodyR b.toNat M=(q,0) from (by rw [hbody,if_neg (by rintro (h | h | h);cases h;exact h hl2;exact hr0 h)]),if_neg (by simp)];simp only [Prod.mk.injEq,true_and,and_true];omega
        injection e9 with q1 e9
        injection e9 with q2 q3
        subst q1 q2 q3;refine en (EK [(.bool (!(((baB L2):ByteArray).toList == (⟨#[]⟩:ByteArray).toList)),.bool false),(.int .i64 (IntKind.i64.wrap (((u+1:Nat):Int)+(n:Int))),.int .i64 ((u+1+n:Nat):Int))] ⟨neS' (hb0),wrK (by omega) (by omega),trivial⟩ [⟨81,#[.agg (pkV p a cc)],.bool true,[],[]⟩] ⟨fun _ w1 h _=>HR a cc w1 h.hp.env (own_cells (show w1.ownsRow 0 112 2 (.slice a p.subs.length cc) p.subs.length (subCells p.subs) from is_at h.hp.is 0 (c:=sbC (p,a,cc)) rfl)),trivial⟩) (eC 4 (.b 0 1::eC 5 (.b 0 0::.f 0::eC 5 (.b 0 2::.k 0::eC 5 [.b 0 2,.c,.c,.f 1,.s 1 0,.c,.c])))) ?_;exact en_rets (a,cc) [] [0] [1]
    · have e9:(p,u9,e8)=(Pk.zero,0,4):=by rw [← hd];simp only [decR];rw [if_neg (by rw [hfo];decide),hlr,if_neg (by simp),if_neg hsh];simp only [hM];rw [show bodyR b.toNat M=(Pk.zero,4) from (by rw [hbody,if_pos (Or.inl rfl)]),if_pos (by simp)]
      injection e9 with q1 e9
      injection e9 with q2 q3
      subst q1 q2 q3;refine en E0 (eC 4 (.b 0 1::eC 17 [.s 1 0,.c,.c])) ?_;refine en_row0 112 2 ?_;exact en_rets (none,0) [] [0] [1]
theorem read_DecodeS {wb:World} (s:ByteArray) (hs:s.size≤90000000) {p:Pk} {u e:Nat} (hd:decR (bl s)=(p,u,e)):Spec Tryz.prog wb 61 #[.string s] [] [] (fun y:Option Addr × Nat=>.tuple #[.agg (pkV p y.1 y.2),.int .i64 (u:Int),.int .i64 (e:Int)]) (fun _=>[]) (fun y=>[sbC (p,y)]):=decS (L:=bl s) hs hd
end Go.Proofs.YtehpihmgjbmoaaaGreatDoor
