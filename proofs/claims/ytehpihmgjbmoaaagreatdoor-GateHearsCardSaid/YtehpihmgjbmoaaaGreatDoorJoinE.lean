import Derived.Test.YtehpihmgjbmoaaaGreatDoorJoinB
namespace Go.Proofs.YtehpihmgjbmoaaaGreatDoor
theorem ba_ne {a b:ByteArray} (h:a≠b):(a != b)=true:=by
  show (!(a.data == b.data))=true;have:a.data≠b.data:=by
    intro e;apply h
    cases a;cases b;simp only at e
    rw [e]
  simp [this]
theorem ba_eq {a b:ByteArray} (h:(a != b)=false):a=b:=by
  by_cases e:a=b
  · exact e
  · rw [ba_ne e] at h;cases h
theorem data_cons (a b:UInt8) (t:Bs) (k:Bool):dataR (a::b::t,k)=if a.toNat * 256+b.toNat≤t.length then (baB (t.take (a.toNat * 256+b.toNat)),(t.drop (a.toNat * 256+b.toNat),k)) else (e0,(a::b::t,true)):=rfl
theorem one_bad {c:Cur} (h:c.2=true):(oneR c).2.2=true:=by
  obtain ⟨L,k⟩:=c;cases L with
  | nil=>rfl
  | cons b t=>exact h
theorem data_inv {L:Bs} {k:Bool} {s:ByteArray} {L':Bs} (h:dataR (L,k)=(s,(L',false))):L=dataB s++L'∧k=false∧s.size≤65535:=by
  rcases L with _ | ⟨a,_ | ⟨b,t⟩⟩
  · cases h
  · cases h
  · rw [data_cons] at h
    split at h
    · rename_i hle
      simp only [Prod.mk.injEq] at h;obtain ⟨rfl,rfl,rfl⟩:=h;have ha:=a.toNat_lt;have hb:=b.toNat_lt;have hsz:(baB (t.take (a.toNat * 256+b.toNat))).size=a.toNat * 256+b.toNat:=by
        show (t.take (a.toNat * 256+b.toNat)).toArray.size=_;simp;omega
      refine ⟨?_,rfl,by omega⟩;unfold dataB wordB;rw [hsz,bl_baB];have e1:byteN ((a.toNat * 256+b.toNat) / 256)=a:=by
        apply UInt8.toNat_inj.1
        rw [byteN_nat _ (by omega)];omega
      have e2:byteN ((a.toNat * 256+b.toNat) % 256)=b:=by
        apply UInt8.toNat_inj.1
        rw [byteN_nat _ (by omega)];omega
      rw [e1,e2];simp
    · cases h
theorem text_inv {L:Bs} {k:Bool} {s:ByteArray} {L':Bs} (h:textR (L,k)=(s,(L',false))):L=dataB s++L'∧k=false∧s.size≤65535∧validL (bl s)=true:=by
  unfold textR at h;split at h
  · rename_i hv
    have:=data_inv h;rw [h] at hv;exact ⟨this.1,this.2.1,this.2.2,hv⟩
  · cases h
theorem one_inv {L:Bs} {k:Bool} {n:Nat} {L':Bs} (h:oneR (L,k)=(n,(L',false))):L=byteN n::L'∧k=false∧n < 256:=by
  rcases L with _ | ⟨a,t⟩
  · cases h
  · simp only [oneR,Prod.mk.injEq] at h
    obtain ⟨rfl,rfl,rfl⟩:=h;exact ⟨by congr 1;apply UInt8.toNat_inj.1;rw [byteN_nat _ a.toNat_lt],rfl,a.toNat_lt⟩
theorem word_inv {L:Bs} {k:Bool} {n:Nat} {L':Bs} (h:wordR (L,k)=(n,(L',false))):L=wordB n++L'∧k=false∧n < 65536:=by
  rcases L with _ | ⟨a,_ | ⟨b,t⟩⟩
  · cases h
  · cases h
  · simp only [wordR,Prod.mk.injEq] at h
    obtain ⟨rfl,rfl,rfl⟩:=h;have ha:=a.toNat_lt;have hb:=b.toNat_lt;refine ⟨?_,rfl,by omega⟩;unfold wordB;have e1:byteN ((a.toNat * 256+b.toNat) / 256)=a:=by
      apply UInt8.toNat_inj.1
      rw [byteN_nat _ (by omega)];omega
    have e2:byteN ((a.toNat * 256+b.toNat) % 256)=b:=by
      apply UInt8.toNat_inj.1
      rw [byteN_nat _ (by omega)];omega
    rw [e1,e2];rfl
end Go.Proofs.YtehpihmgjbmoaaaGreatDoor
namespace Go.Proofs.YtehpihmgjbmoaaaGreatDoor
theorem data_size (c:Cur):(dataR c).1.size≤65535:=by
  obtain ⟨L,k⟩:=c;rcases L with _ | ⟨a,_ | ⟨b,t⟩⟩
  · exact Nat.zero_le _
  · exact Nat.zero_le _
  · rw [data_cons]
    split
    · have ha:=a.toNat_lt
      have hb:=b.toNat_lt;show (t.take (a.toNat * 256+b.toNat)).toArray.size≤_;simp;omega
    · exact Nat.zero_le _
theorem text_size (c:Cur):(textR c).1.size≤65535:=by
  unfold textR;split
  · exact data_size c
  · exact Nat.zero_le _
theorem opt_size {P:Prop} [Decidable P] {x:ByteArray × Cur} {c:Cur} (h:x.1.size≤65535):(if P then x else (e0,c)).1.size≤65535:=by
  split
  · exact h
  · exact Nat.zero_le _
theorem one_lt (c:Cur):(oneR c).1 < 256:=by
  obtain ⟨L,k⟩:=c;cases L with
  | nil=>exact Nat.zero_lt_succ _
  | cons b t=>exact b.toNat_lt
theorem word_lt (c:Cur):(wordR c).1 < 65536:=by
  obtain ⟨L,k⟩:=c;rcases L with _ | ⟨a,_ | ⟨b,t⟩⟩
  · exact Nat.zero_lt_succ _
  · exact Nat.zero_lt_succ _
  · have ha:=a.toNat_lt
    have hb:=b.toNat_lt;show a.toNat * 256+b.toNat < _;omega
theorem word_len (c:Cur):(wordR c).2.1.length≤c.1.length:=by
  obtain ⟨L,k⟩:=c;rcases L with _ | ⟨a,_ | ⟨b,t⟩⟩
  · exact Nat.le_refl _
  · exact Nat.le_refl _
  · show t.length≤t.length+1+1
    omega
theorem data_len (c:Cur):(dataR c).2.1.length≤c.1.length:=by
  obtain ⟨L,k⟩:=c;rcases L with _ | ⟨a,_ | ⟨b,t⟩⟩
  · exact Nat.le_refl _
  · exact Nat.le_refl _
  · rw [data_cons]
    split
    · show (t.drop _).length≤t.length+1+1
      rw [List.length_drop];omega
    · exact Nat.le_refl _
theorem text_len (c:Cur):(textR c).2.1.length≤c.1.length:=by
  unfold textR;split
  · exact data_len c
  · exact Nat.le_refl _
theorem subsR_pk (ty:Nat):∀ (f:Nat) (c:Cur) (acc:List Sb),(∀ x ∈ acc,x.1.size≤65535∧x.2 < 256)→(subsR ty f c acc).1.length≤acc.length+f∧∀ x ∈ (subsR ty f c acc).1,x.1.size≤65535∧x.2 < 256
  | 0,c,acc,h=>⟨Nat.le_refl _,h⟩
  | f+1,c,acc,h=>by
    unfold subsR;split
    · exact ⟨by simp only;omega,h⟩
    · have ih:=subsR_pk ty f (if ty=8 then oneR (textR c).2 else (0,(textR c).2)).2 (acc++[((textR c).1,(if ty=8 then oneR (textR c).2 else (0,(textR c).2)).1)]) (by
        intro x hx;rcases List.mem_append.1 hx with hx | hx
        · exact h x hx
        · simp at hx
          subst hx;refine ⟨text_size c,?_⟩;split
          · exact one_lt _
          · exact Nat.zero_lt_succ _)
      refine ⟨?_,ih.2⟩;have:=ih.1;rw [List.length_append] at this;simp only [List.length_singleton] at this;simp only
      omega
theorem pk_con (b f k:Nat) (n wt wp u s:ByteArray) (h1:b < 256) (h3:k < 65536) (h4:n.size≤65535) (h5:wt.size≤65535) (h6:wp.size≤65535) (h7:u.size≤65535) (h8:s.size≤65535) :
    PkOk { Pk.zero with ty:=1,level:=b,clean:=decide (f / 2 % 2=1),hasWill:=decide (f / 4 % 2=1),wqos:=f / 8 % 4,wret:=decide (f / 32 % 2=1),hasPass:=decide (f / 64 % 2=1),hasUser:=decide (f / 128 % 2=1),keep:=k,client:=n,wtopic:=wt,wpayload:=wp,user:=u,pass:=s }:=by
  simp only [Pk.zero];constructor
  all_goals dsimp only
  all_goals first
    | omega
    | (show (0:Nat)≤_;omega)
    | (intro x hx;cases hx)
theorem conR_pk (c:Cur):PkOk (conR c).1:=by
  refine pk_con _ _ _ _ _ _ _ _ (one_lt _) (word_lt _) (text_size _) (opt_size (text_size _)) (opt_size (data_size _)) (opt_size (text_size _)) (opt_size (data_size _))
theorem baB_size (L:Bs):(baB L).size=L.length:=rfl
theorem allR_pk (ty fl:Nat) (hty:ty < 16) (c:Cur) (hc:c.1.length≤90000000):PkOk (allR ty fl c).1:=by
  have hw:=word_len c;have ht:=word_len (textR c).2;have ht2:=text_len c;unfold allR;split
  · exact conR_pk c
  split
  · simp only [Pk.zero]
    constructor
    all_goals dsimp only
    all_goals first
      | omega
      | exact one_lt _
      | (show (0:Nat)≤_;omega)
      | (intro x hx;cases hx)
  split
  · have hi:(if 0 < fl / 2 % 4 then wordR (textR c).2 else (0,(textR c).2)).1 < 65536:=by
      split
      · exact word_lt _
      · exact Nat.zero_lt_succ _
    have hp:(if 0 < fl / 2 % 4 then wordR (textR c).2 else (0,(textR c).2)).2.1.length≤90000000:=by
      split
      · omega
      · show (textR c).2.1.length≤_
        omega
    dsimp only
    generalize (if 0 < fl / 2 % 4 then wordR (textR c).2 else (0,(textR c).2))=x at hi hp ⊢;simp only [Pk.zero];constructor
    all_goals dsimp only
    all_goals first
      | omega
      | exact Nat.le_trans (text_size _) (by omega)
      | (show (0:Nat)≤_;omega)
      | (intro x hx;cases hx)
      | exact Nat.le_trans (Nat.le_of_eq (baB_size _)) (by omega)
  split
  · simp only [Pk.zero]
    constructor
    all_goals dsimp only
    all_goals first
      | omega
      | (show (0:Nat)≤_;omega)
      | (intro x hx;cases hx)
  simp only [];have hi:=word_lt c;generalize wordR c=x at hi hw ⊢;split
  · simp only [Pk.zero]
    constructor
    all_goals dsimp only
    all_goals first
      | omega
      | (show (0:Nat)≤_;omega)
      | (intro x hx;cases hx)
      | exact Nat.le_trans (Nat.le_of_eq (baB_size _)) (by omega)
  split
  · have hs:=subsR_pk ty (x.2.1.length+1) x.2 [] (fun x hx=>by cases hx)
    generalize subsR ty (x.2.1.length+1) x.2 []=y at hs ⊢;simp only [List.length_nil] at hs;simp only [Pk.zero];constructor
    all_goals dsimp only
    all_goals first
      | omega
      | (show (0:Nat)≤_;omega)
      | exact fun z hz=>⟨Nat.le_trans (hs.2 z hz).1 (by omega),(hs.2 z hz).2⟩
  · simp only [Pk.zero]
    constructor
    all_goals dsimp only
    all_goals first
      | omega
      | (show (0:Nat)≤_;omega)
      | (intro x hx;cases hx)
theorem opt_data {P:Prop} [Decidable P] {L:Bs} {k:Bool} {s:ByteArray} {L':Bs} (h:(if P then dataR (L,k) else (e0,(L,k)))=(s,(L',false))):L=(if P then dataB s else [])++L'∧k=false:=by
  split at h
  · rename_i hp
    have:=data_inv h;exact ⟨by rw [if_pos hp];exact this.1,this.2.1⟩
  · rename_i hp
    simp only [Prod.mk.injEq] at h;exact ⟨by rw [if_neg hp,h.2.1];rfl,h.2.2⟩
theorem opt_text {P:Prop} [Decidable P] {L:Bs} {k:Bool} {s:ByteArray} {L':Bs} (h:(if P then textR (L,k) else (e0,(L,k)))=(s,(L',false))):L=(if P then dataB s else [])++L'∧k=false:=by
  split at h
  · rename_i hp
    have:=text_inv h;exact ⟨by rw [if_pos hp];exact this.1,this.2.1⟩
  · rename_i hp
    simp only [Prod.mk.injEq] at h;exact ⟨by rw [if_neg hp,h.2.1];rfl,h.2.2⟩
theorem flags_inv:∀ f,f < 256→f % 2=0→bitN (decide (f / 128 % 2=1)) 128+bitN (decide (f / 64 % 2=1)) 64+bitN (decide (f / 32 % 2=1)) 32+8 * (f / 8 % 4)+bitN (decide (f / 4 % 2=1)) 4+bitN (decide (f / 2 % 2=1)) 2=f:=by decide +kernel
theorem pubflags_inv:∀ f,f < 16→bitN (decide (f / 8 % 2=1)) 8+2 * (f / 2 % 4)+bitN (decide (f % 2=1)) 1=f:=by decide +kernel
theorem conR_inv {R:Bs} {p:Pk} (h:conR (R,false)=(p,([],false))):connectB p=R∧p.ty=1:=by
  unfold conR at h;simp only [] at h;rcases ha:textR (R,false) with ⟨a,L1,k1⟩
  rw [ha] at h;simp only [] at h;rcases hb:oneR (L1,k1) with ⟨b,L2,k2⟩
  rw [hb] at h;simp only [] at h;rcases hf:oneR (L2,k2) with ⟨f,L3,k3⟩
  rw [hf] at h;simp only [] at h;rcases hk:wordR (L3,k3 || (a != mqtt) || decide (f % 2=1)) with ⟨k,L4,k4⟩
  rw [hk] at h;simp only [] at h;rcases hn:textR (L4,k4) with ⟨n,L5,k5⟩
  rw [hn] at h;simp only [] at h;rcases hwt:(if f / 4 % 2=1 then textR (L5,k5) else (e0,(L5,k5))) with ⟨wt,L6,k6⟩
  rw [hwt] at h;simp only [] at h;rcases hwp:(if f / 4 % 2=1 then dataR (L6,k6) else (e0,(L6,k6))) with ⟨wp,L7,k7⟩
  rw [hwp] at h;simp only [] at h;rcases hu:(if f / 128 % 2=1 then textR (L7,k7) else (e0,(L7,k7))) with ⟨u,L8,k8⟩
  rw [hu] at h;simp only [] at h;rcases hs:(if f / 64 % 2=1 then dataR (L8,k8) else (e0,(L8,k8))) with ⟨s,L9,k9⟩
  rw [hs] at h;simp only [Prod.mk.injEq] at h;obtain ⟨rfl,rfl,rfl⟩:=h;obtain ⟨rfl,rfl⟩:=opt_data hs;obtain ⟨rfl,rfl⟩:=opt_text hu;obtain ⟨rfl,rfl⟩:=opt_data hwp;obtain ⟨rfl,rfl⟩:=opt_text hwt;obtain ⟨rfl,rfl,_,_⟩:=text_inv hn;obtain ⟨rfl,hk3,_⟩:=word_inv hk;simp only [Bool.or_eq_false_iff,decide_eq_false_iff_not] at hk3;obtain ⟨⟨rfl,ham⟩,hodd⟩:=hk3;obtain rfl:=ba_eq ham;obtain ⟨rfl,rfl,hf2⟩:=one_inv hf;obtain ⟨rfl,rfl,_⟩:=one_inv hb;obtain ⟨rfl,_,_,_⟩:=text_inv ha;refine ⟨?_,rfl⟩;have hfl:=flags_inv f hf2 (by omega);unfold connectB conFlags;simp only [hfl,decide_eq_true_eq];split <;> simp
theorem subsR_inv (ty:Nat):∀ (f:Nat) (L:Bs) (k:Bool) (acc S:List Sb),subsR ty f (L,k) acc=(S,([],false))→∃ T,S=acc++T∧L=T.flatMap (subB ty)∧k=false
  | 0,L,k,acc,S,h=>by
    simp only [subsR,Prod.mk.injEq] at h;obtain ⟨rfl,rfl,rfl⟩:=h;exact ⟨[],by simp,rfl,rfl⟩
  | f+1,L,k,acc,S,h=>by
    unfold subsR at h;split at h
    · simp only [Prod.mk.injEq] at h
      obtain ⟨rfl,rfl,rfl⟩:=h;exact ⟨[],by simp,rfl,rfl⟩
    · simp only [] at h
      rcases ht:textR (L,k) with ⟨t,L1,k1⟩
      rw [ht] at h;simp only [] at h;rcases hq:(if ty=8 then oneR (L1,k1) else (0,(L1,k1))) with ⟨q,L2,k2⟩
      rw [hq] at h;simp only [] at h;obtain ⟨T,hS,hL,rfl⟩:=subsR_inv ty f L2 k2 _ S h;have h3:L1=(if ty=8 then [byteN q] else [])++L2∧k1=false:=by
        split at hq
        · rename_i h8
          have:=one_inv hq;exact ⟨by rw [if_pos h8];exact this.1,this.2.1⟩
        · rename_i h8
          simp only [Prod.mk.injEq] at hq;exact ⟨by rw [if_neg h8,hq.2.1];rfl,hq.2.2⟩
      obtain ⟨rfl,rfl⟩:=h3;obtain ⟨rfl,rfl,_,_⟩:=text_inv ht;refine ⟨(t,q)::T,by rw [hS];simp,?_,rfl⟩;rw [List.flatMap_cons,hL];unfold subB;simp
theorem allR_inv (ty fl:Nat) (hty:ty < 16) (hfl:fl < 16) (hfirst:firstOk (16 * ty+fl)=true) (R:Bs) (p:Pk) (h:allR ty fl (R,false)=(p,([],false))) (h0:0≤restP p):restB p=R∧flagsN p=fl∧p.ty=ty:=by
  have e1:(16 * ty+fl) / 16=ty:=by omega
  have e2:(16 * ty+fl) % 16=fl:=by omega
  have hfo:ty≠0∧ty≠15∧(ty≠3→fl=if ty=6∨ty=8∨ty=10 then 2 else 0):=by
    unfold firstOk at hfirst;rw [e1,e2] at hfirst
    (repeat' split at hfirst) <;> simp_all
  obtain ⟨n0,n15,hfg⟩:=hfo;unfold allR at h;split at h
  · rename_i h1
    obtain ⟨hc,ht⟩:=conR_inv h;refine ⟨by unfold restB;rw [if_pos ht];exact hc,?_,by rw [ht,h1]⟩;rw [hfg (by omega)];unfold flagsN;rw [ht,h1];rfl
  rename_i h1
  split at h
  · rename_i h2
    simp only [] at h;rcases ha:oneR (R,false) with ⟨a,L1,k1⟩
    rw [ha] at h;simp only [] at h;rcases hb:oneR (L1,k1 || decide (1 < a)) with ⟨b,L2,k2⟩
    rw [hb] at h;simp only [Prod.mk.injEq] at h;obtain ⟨rfl,rfl,rfl⟩:=h;obtain ⟨rfl,hk,_⟩:=one_inv hb;simp only [Bool.or_eq_false_iff,decide_eq_false_iff_not] at hk;obtain ⟨rfl,ha1⟩:=hk;obtain ⟨rfl,_,_⟩:=one_inv ha;refine ⟨?_,?_,h2.symm⟩
    · unfold restB
      simp only [show ¬ ((2:Nat)=1) by omega,if_false,if_true];have:bitN (decide (a=1)) 1=a:=by
        have:a=0∨a=1:=by omega
        rcases this with rfl | rfl <;> rfl
      rw [this]
    · rw [hfg (by omega),h2]
      rfl
  rename_i h2
  split at h
  · rename_i h3
    simp only [] at h;rcases ha:textR (R,false) with ⟨a,L1,k1⟩
    rw [ha] at h;simp only [] at h;rcases hb:(if 0 < fl / 2 % 4 then wordR (L1,k1) else (0,(L1,k1))) with ⟨b,L2,k2⟩
    rw [hb] at h;simp only [Prod.mk.injEq] at h;obtain ⟨rfl,_,rfl⟩:=h;have hq:=(pub_parts rfl h0).2.2;simp only [] at hq;have h4:L1=(if b=0 then [] else wordB b)++L2∧k1=false:=by
      split at hb
      · rename_i hqq
        have:=word_inv hb;refine ⟨?_,this.2.1⟩;rw [if_neg (by omega)];exact this.1
      · simp only [Prod.mk.injEq] at hb
        obtain ⟨rfl,rfl,rfl⟩:=hb;exact ⟨rfl,rfl⟩
    obtain ⟨rfl,rfl⟩:=h4;obtain ⟨rfl,_,_,_⟩:=text_inv ha;refine ⟨?_,?_,h3.symm⟩
    · unfold restB otherB
      simp only [show ¬ ((3:Nat)=1) by omega,show ¬ ((3:Nat)=2) by omega,if_false,if_true];show dataB a++(if b=0 then [] else wordB b)++[]++[]++bl (baB L2)=_;rw [bl_baB];simp
    · unfold flagsN
      simp only [if_true];exact pubflags_inv fl hfl
  rename_i h3
  have hfl2:∀ q:Pk,q.ty=ty→flagsN q=fl:=by
    intro q hq;rw [hfg h3];unfold flagsN;rw [hq,if_neg h3]
  split at h
  · rename_i hd
    simp only [Prod.mk.injEq] at h;obtain ⟨rfl,rfl,_⟩:=h;refine ⟨?_,hfl2 _ rfl,rfl⟩;unfold restB otherB;simp only [if_neg h1,if_neg h2,if_neg h3];rfl
  rename_i hd
  simp only [] at h;rcases hi:wordR (R,false) with ⟨i,L1,k1⟩
  rw [hi] at h;simp only [] at h;have hgo:∀ (S:List Sb) (cd:ByteArray),0≤restP { Pk.zero with ty:=ty,id:=i,subs:=S,codes:=cd }→R=wordB i++L1→L1=S.flatMap (subB ty)++bl cd→restB { Pk.zero with ty:=ty,id:=i,subs:=S,codes:=cd }=R:=by
    intro S cd h0 e1 e2;have hid:=ids_parts (p:={ Pk.zero with ty:=ty,id:=i,subs:=S,codes:=cd }) h3 (by simp only;omega) h0;simp only [] at hid;unfold restB otherB;simp only [if_neg h1,if_neg h2,if_neg h3,if_neg hid];rw [e1,e2];show []++wordB i++S.flatMap (subB ty)++bl cd++[]=_;simp
  split at h
  · rename_i h9
    simp only [Prod.mk.injEq] at h;obtain ⟨rfl,_,rfl⟩:=h;obtain ⟨hR,_,_⟩:=word_inv hi;exact ⟨hgo [] (baB L1) h0 hR (by rw [bl_baB];rfl),hfl2 _ rfl,rfl⟩
  split at h
  · rename_i h8
    rcases hs:subsR ty (L1.length+1) (L1,k1) [] with ⟨S,L2,k2⟩
    rw [hs] at h;simp only [Prod.mk.injEq] at h;obtain ⟨rfl,rfl,rfl⟩:=h;obtain ⟨T,hS,hL,rfl⟩:=subsR_inv ty _ _ _ _ _ hs;rw [List.nil_append] at hS;subst hS;obtain ⟨hR,_,_⟩:=word_inv hi;exact ⟨hgo S e0 h0 hR (by rw [hL];show _=_++[];simp),hfl2 _ rfl,rfl⟩
  · simp only [Prod.mk.injEq] at h
    obtain ⟨rfl,rfl,rfl⟩:=h;obtain ⟨hR,_,_⟩:=word_inv hi;exact ⟨hgo [] e0 h0 hR rfl,hfl2 _ rfl,rfl⟩
theorem lenRf_inv:∀ (f sc acc u:Nat) (L:Bs) (m u':Nat),lenRf f sc acc u L=(m,u',0)→∃ j,1≤j∧j≤f∧u'=u+j∧j≤L.length∧m+sc≤acc+sc * 128 ^ j
  | 0,sc,acc,u,L,m,u',h=>by simp [lenRf] at h
  | f+1,sc,acc,u,[],m,u',h=>by simp [lenRf] at h
  | f+1,sc,acc,u,c::t,m,u',h=>by
    unfold lenRf at h;split at h
    · rename_i hc
      simp only [Prod.mk.injEq] at h;obtain ⟨rfl,rfl,_⟩:=h;refine ⟨1,by omega,by omega,rfl,by simp,?_⟩;have:c.toNat % 128 * sc≤127 * sc:=Nat.mul_le_mul_right _ (by omega);rw [Nat.pow_one,Nat.mul_comm sc 128];omega
    · obtain ⟨j,h1,h2,h3,h4,h5⟩:=lenRf_inv f _ _ _ t m u' h
      refine ⟨j+1,by omega,by omega,by omega,by rw [List.length_cons];omega,?_⟩;have:c.toNat % 128 * sc≤127 * sc:=Nat.mul_le_mul_right _ (by omega);have e:sc * 128 ^ (j+1)=sc * 128 * 128 ^ j:=by rw [Nat.pow_succ,Nat.mul_comm (128 ^ j) 128,Nat.mul_assoc]
      rw [e];omega
theorem lenR_inv {L:Bs} {m u:Nat} (h:lenR L=(m,u,0)):1≤u∧u≤4∧u≤L.length∧lenS m≤u∧m≤268435455:=by
  obtain ⟨j,h1,h2,h3,h4,h5⟩:=lenRf_inv _ _ _ _ _ _ _ h;have:u=j:=by omega
  subst this;have hu:u=1∨u=2∨u=3∨u=4:=by omega
  unfold lenS;rcases hu with rfl | rfl | rfl | rfl <;> simp only [Nat.reducePow] at h5 <;> refine ⟨by omega,by omega,by omega,?_,by omega⟩ <;> (repeat' split) <;> omega
theorem lenRf_err:∀ (f sc acc u:Nat) (L:Bs),(lenRf f sc acc u L).2.2≠0→(lenRf f sc acc u L).2.2=2∨(lenRf f sc acc u L).2.2=4
  | 0,sc,acc,u,L,h=>Or.inr rfl
  | f+1,sc,acc,u,[],h=>Or.inl rfl
  | f+1,sc,acc,u,c::t,h=>by
    unfold lenRf at h ⊢;split at h
    · exact absurd rfl h
    · rename_i hc
      rw [if_neg hc];exact lenRf_err f _ _ _ t h
theorem lenRf_zero:∀ (f sc acc u:Nat) (L:Bs),(lenRf f sc acc u L).2.2≠0→(lenRf f sc acc u L).1=0∧(lenRf f sc acc u L).2.1=0
  | 0,sc,acc,u,L,h=>⟨rfl,rfl⟩
  | f+1,sc,acc,u,[],h=>⟨rfl,rfl⟩
  | f+1,sc,acc,u,c::t,h=>by
    unfold lenRf at h ⊢;split at h
    · exact absurd rfl h
    · rename_i hc
      rw [if_neg hc];exact lenRf_zero f _ _ _ t h
theorem bodyR_bad {b:Nat} {R:Bs} (h:(bodyR b R).2≠0):bodyR b R=(Pk.zero,4):=by
  unfold bodyR at h ⊢;split
  · rename_i h1
    rw [if_pos h1] at h;exact absurd rfl h
  · rename_i h1
    rw [if_neg h1] at h;simp only [] at h ⊢;split
    · rfl
    · rename_i h2
      rw [if_neg h2] at h;exact absurd rfl h
theorem dec_again (L:Bs) (p:Pk) (n:Nat) (h:decR L=(p,n,0)) (hL:L.length≤90000000):∃ b t m u,L=b::t∧firstOk b.toNat=true∧lenR t=(m,u,0)∧n=1+u+m∧u+m≤t.length∧1≤u∧PkOk p∧p.ty=b.toNat / 16 ∧
    ((p.ty=1∧p.level≠4∧p={ Pk.zero with ty:=1,level:=p.level })∨(¬ (p.ty=1∧p.level≠4)∧restP p=(m:Int)∧lenS m≤u∧encB p=b::(lenB m++(t.drop u).take m))):=by
  cases L with
  | nil=>cases h
  | cons b t =>
    simp only [decR] at h;split at h
    · cases h
    rename_i h1
    split at h
    · rename_i h2
      simp only [Prod.mk.injEq] at h;exact absurd h.2.2 h2
    rename_i h2
    split at h
    · cases h
    rename_i h3
    rcases hl:lenR t with ⟨m,u,e⟩
    rw [hl] at h h2 h3;simp only [] at h h2 h3;have he:e=0:=by omega
    subst he;obtain ⟨l1,l2,l3,l4,l5⟩:=lenR_inv hl;split at h
    · rename_i h4
      simp only [Prod.mk.injEq] at h;exact absurd h.2.2 h4
    rename_i h4
    simp only [Prod.mk.injEq] at h;obtain ⟨hp,rfl,_⟩:=h;have hb:=b.toNat_lt;have hlen:((t.drop u).take m).length=m:=by rw [List.length_take,List.length_drop];omega
    rw [List.length_cons] at hL;generalize hR:(t.drop u).take m=R at hp h4 hlen;have hf:firstOk b.toNat=true:=by simpa using h1
    refine ⟨b,t,m,u,rfl,hf,hl,by omega,by omega,l1,?_⟩;unfold bodyR at hp h4;split at hp
    · rename_i h5
      simp only [] at hp;subst hp;obtain ⟨q1,q2,q3,q4⟩:=h5;refine ⟨?_,by simp only;omega,Or.inl ⟨rfl,?_,rfl⟩⟩
      · have hx:=(R.getD 6 0).toNat_lt
        simp only [Pk.zero];constructor
        all_goals dsimp only
        all_goals first
          | omega
          | (show (0:Nat)≤_;omega)
          | (intro x hx;cases hx)
      · simp only []
        intro h6;apply q4
        have:R[6]? = some (R.getD 6 0):=by
          rw [List.getD_eq_getElem?_getD,List.getElem?_eq_getElem q2];rfl
        rw [this];congr 1;apply UInt8.toNat_inj.1
        rw [h6];rfl
    · rename_i h5
      rw [if_neg h5] at h4;simp only [] at hp h4;split at hp
      · rename_i h6
        rw [if_pos h6] at h4;simp at h4
      · rename_i h6
        simp only [not_or] at h6;simp only [] at hp;rcases ha:allR (b.toNat / 16) (b.toNat % 16) (R,false) with ⟨q,M,k⟩
        rw [ha] at hp h6;simp only [] at hp h6;subst hp;have hM:M=[]:=by simpa using h6.2.1
        have hk:k=false:=by simpa using h6.1
        subst hM hk;have h0:0≤restP q:=by omega
        have hpk:=allR_pk (b.toNat / 16) (b.toNat % 16) (by omega) (R,false) (by simp only;omega);rw [ha] at hpk;have hbb:16 * (b.toNat / 16)+b.toNat % 16=b.toNat:=by omega
        obtain ⟨i1,i2,i3⟩:=allR_inv (b.toNat / 16) (b.toNat % 16) (by omega) (by omega) (by rw [hbb];exact hf) R q ha h0;have hrl:=restB_len q hpk h0;rw [i1,hlen] at hrl;refine ⟨hpk,i3,Or.inr ⟨?_,hrl.symm,l4,?_⟩⟩
        · rintro ⟨t1,t2⟩
          exact t2 (con_fields (con_parts t1 h0).1).1
        · unfold encB
          rw [i1,i2,i3,hbb,← hrl];simp only [Int.toNat_natCast,hR];congr 1;apply UInt8.toNat_inj.1
          rw [byteN_nat _ hb]
end Go.Proofs.YtehpihmgjbmoaaaGreatDoor
namespace Go.Proofs.YtehpihmgjbmoaaaGreatDoor
theorem lenRf_take:∀ (f sc acc u k:Nat) (L:Bs),f≤k→lenRf f sc acc u (L.take k)=lenRf f sc acc u L
  | 0,_,_,_,_,_,_=>rfl
  | _+1,_,_,_,k,[],_=>by rw [List.take_nil]
  | f+1,sc,acc,u,0,c::t,h=>absurd h (by omega)
  | f+1,sc,acc,u,k+1,c::t,h=>by
    rw [List.take_succ_cons];simp only [lenRf];split
    · rfl
    · exact lenRf_take f _ _ _ k t (by omega)
theorem lenR_take (L:Bs) (k:Nat) (h:4≤k):lenR (L.take k)=lenR L:=lenRf_take 4 1 0 0 k L h
theorem lenRf_used:∀ (f sc acc u:Nat) (L:Bs) (k:Nat),(lenRf f sc acc u L).2.2=0→(lenRf f sc acc u L).2.1≤u+k→lenRf f sc acc u (L.take k)=lenRf f sc acc u L
  | 0,_,_,_,_,_,h,_=>by cases h
  | _+1,_,_,_,[],_,h,_=>by cases h
  | f+1,sc,acc,u,c::t,0,h,hu=>by
    obtain ⟨j,h1,_,h2,_⟩:=lenRf_inv (f+1) sc acc u (c::t) _ _ (by rw [← h]);have h3:(lenRf (f+1) sc acc u (c::t)).2.1=u+j:=h2;omega
  | f+1,sc,acc,u,c::t,k+1,h,hu=>by
    rw [List.take_succ_cons];simp only [lenRf] at h hu ⊢;split
    · rfl
    · rename_i hc
      rw [if_neg hc] at h hu;exact lenRf_used f _ _ _ t k h (by omega)
theorem len_whole (t:Bs) (k:Nat) (hk:(lenR t).2.1≤k) (h:(lenR t).2.2=0):lenR (t.take k)=lenR t:=lenRf_used 4 1 0 0 t k h (by show (lenR t).2.1≤0+k;omega)
def wholeR (m:Nat):Bs→Nat × Nat
  | []=>(0,0)
  | b::t =>
    if firstOk b.toNat=false then (0,4)
    else if (lenR t).2.2=2 then (0,0)
    else if (lenR t).2.2≠0 then (0,(lenR t).2.2)
    else if m < 1+(lenR t).2.1+(lenR t).1 then (0,3)
    else if t.length+1 < 1+(lenR t).2.1+(lenR t).1 then (0,0)
    else (1+(lenR t).2.1+(lenR t).1,0)
def nextR (m:Nat) (L:Bs):Option Pk × Bs × Nat :=
  if (wholeR m L).2≠0 then (none,[],(wholeR m L).2)
  else if (wholeR m L).1=0 then (none,L,0)
  else if (decR (L.take (wholeR m L).1)).2.2≠0 then (none,[],(decR (L.take (wholeR m L).1)).2.2)
  else (some (decR (L.take (wholeR m L).1)).1,L.drop (wholeR m L).1,0)
theorem whole_le {m:Nat} {L:Bs}:(wholeR m L).1≤L.length∧((wholeR m L).1≠0→2≤(wholeR m L).1∧(wholeR m L).2=0∧(wholeR m L).1≤m):=by
  cases L with
  | nil=>exact ⟨Nat.le_refl _,fun h=>absurd rfl h⟩
  | cons b t =>
    simp only [wholeR];split
    · exact ⟨Nat.zero_le _,fun h=>absurd rfl h⟩
    split
    · exact ⟨Nat.zero_le _,fun h=>absurd rfl h⟩
    split
    · exact ⟨Nat.zero_le _,fun h=>absurd rfl h⟩
    split
    · exact ⟨Nat.zero_le _,fun h=>absurd rfl h⟩
    split
    · exact ⟨Nat.zero_le _,fun h=>absurd rfl h⟩
    · rename_i h1 h2 h3 h4 h5
      have h6:=lenR_inv (L:=t) (m:=(lenR t).1) (u:=(lenR t).2.1) (by
        have:(lenR t).2.2=0:=by simpa using h3
        rw [← this])
      refine ⟨by rw [List.length_cons];simp only;omega,fun _=>⟨by simp only;omega,rfl,by simp only;omega⟩⟩
theorem next_some {m:Nat} {L:Bs} {p:Pk} {t:Bs} {e:Nat} (h:nextR m L=(some p,t,e)):e=0∧(wholeR m L).1≠0∧(wholeR m L).2=0∧t=L.drop (wholeR m L).1∧(decR (L.take (wholeR m L).1)).2.2=0∧p=(decR (L.take (wholeR m L).1)).1:=by
  unfold nextR at h;split at h
  · cases h
  split at h
  · cases h
  split at h
  · cases h
  · rename_i h1 h2 h3
    simp only [Prod.mk.injEq,Option.some.injEq] at h;exact ⟨h.2.2.symm,h2,by simpa using h1,h.2.1.symm,by simpa using h3,h.1.symm⟩
end Go.Proofs.YtehpihmgjbmoaaaGreatDoor
namespace Go.Proofs.YtehpihmgjbmoaaaGreatDoor
end Go.Proofs.YtehpihmgjbmoaaaGreatDoor
namespace Go.Proofs.YtehpihmgjbmoaaaGreatDoor
end Go.Proofs.YtehpihmgjbmoaaaGreatDoor
