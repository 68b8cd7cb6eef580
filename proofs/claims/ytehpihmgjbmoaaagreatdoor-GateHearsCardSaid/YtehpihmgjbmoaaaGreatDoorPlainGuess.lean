import Derived.Test.YtehpihmgjbmoaaaGreatDoorJoinE
namespace Go.Proofs.YtehpihmgjbmoaaaGreatDoor
def conG (c0:Cur):Pk × Cur :=
  let a:=dataR c0
  let b:=oneR a.2
  let f:=oneR b.2
  let k:=wordR f.2
  let n:=dataR k.2
  let wt:=if f.1 / 4 % 2=1 then dataR n.2 else (e0,n.2)
  let wp:=if f.1 / 4 % 2=1 then dataR wt.2 else (e0,wt.2)
  let u:=if f.1 / 128 % 2=1 then dataR wp.2 else (e0,wp.2)
  let s:=if f.1 / 64 % 2=1 then dataR u.2 else (e0,u.2)
  ({ Pk.zero with ty:=1,level:=b.1,clean:=decide (f.1 / 2 % 2=1),hasWill:=decide (f.1 / 4 % 2=1),wqos:=f.1 / 8 % 4,wret:=decide (f.1 / 32 % 2=1),hasPass:=decide (f.1 / 64 % 2=1),hasUser:=decide (f.1 / 128 % 2=1),keep:=k.1,client:=n.1,wtopic:=wt.1,wpayload:=wp.1,user:=u.1,pass:=s.1 },s.2)
def subsG (ty:Nat):Nat→Nat→Cur→List Sb→List Sb × Cur
  | 0,_,c,acc=>(acc,c)
  | f+1,was,c,acc=>if c.1=[]∨¬ c.1.length < was then (acc,c) else
    let t:=dataR c
    let q:=if ty=8 then oneR t.2 else (0,t.2)
    subsG ty f c.1.length q.2 (acc++[(t.1,q.1)])
def allG (ty fl:Nat) (c:Cur):Pk × Cur :=
  if ty=1 then conG c
  else if ty=2 then
    let a:=oneR c
    let b:=oneR a.2
    ({ Pk.zero with ty:=2,present:=decide (a.1=1),code:=b.1 },b.2)
  else if ty=3 then
    let t:=dataR c
    let i:=if 0 < fl / 2 % 4 then wordR t.2 else (0,t.2)
    ({ Pk.zero with ty:=3,dup:=decide (fl / 8 % 2=1),qos:=fl / 2 % 4,ret:=decide (fl % 2=1),topic:=t.1,id:=i.1,payload:=baB i.2.1 },([],i.2.2))
  else if ty=12∨ty=13∨ty=14 then ({ Pk.zero with ty:=ty },c)
  else
    let i:=wordR c
    if ty=9 then ({ Pk.zero with ty:=ty,id:=i.1,codes:=baB i.2.1 },([],i.2.2))
    else if ty=8∨ty=10 then
      let s:=subsG ty (i.2.1.length+1) (i.2.1.length+1) i.2 []
      ({ Pk.zero with ty:=ty,id:=i.1,subs:=s.1 },s.2)
    else ({ Pk.zero with ty:=ty,id:=i.1 },i.2)
def guessR (b:Nat) (L:Bs):Pk:=(allG (b / 16) (b % 16) (L,false)).1
theorem dataD {s:ByteArray} (h:validL (bl s)=true) (r:Bs) (k:Bool):dataR (dataB s++r,k)=(s,(r,k)):=dataR_data s (by have h2:=valid_some h;rw [blen] at h2;exact h2) r k
theorem conG_ok (p:Pk) (hp:PkOk p) (h1:p.ty=1) (h0:0≤restP p):conG (connectB p,false)=(p,([],false)):=by
  obtain ⟨h,_⟩:=con_parts h1 h0;obtain ⟨hl,hc,hw,hu,hs,hv,hz⟩:=con_fields h;have zz:=(zeros_iff p).1 (rest_bare h0);have z3:=zz.z3 (by omega);have z2:=zz.z2 (by omega);have z9:=zz.z9 (by omega);have zi:=zz.zi (by omega);have zs:=zz.zs (by omega) (by omega);have hq:p.wqos≤2:=by
    unfold willOk at hw;split at hw
    · simp only [Bool.and_eq_true,decide_eq_true_eq] at hw;exact hw.2
    · simp only [decide_eq_true_eq] at hw
      have:=hw.2.2.1;omega
  obtain ⟨f1,f2,f3,f4,f5,f6,f7,f8⟩:=flags_con p.hasUser p.hasPass p.wret p.hasWill p.clean p.wqos hq (conFlags p) rfl;have hk:=hp.keep;unfold conG connectB;simp only [List.append_assoc,List.cons_append,List.nil_append];rw [dataD mqtt_valid];simp only [];rw [oneR_byte p.level (by omega)];simp only [];rw [oneR_byte _ f1];simp only [];rw [wordR_word _ hk];simp only [];rw [dataD hc];simp only [];have g4:(conFlags p / 4 % 2=1)=(p.hasWill=true):=by rw [← f4];simp
  have g8:(conFlags p / 128 % 2=1)=(p.hasUser=true):=by rw [← f8];simp
  have g7:(conFlags p / 64 % 2=1)=(p.hasPass=true):=by rw [← f7];simp
  simp only [f3,f5,f6,g4,g8,g7];clear f1 f2 f3 f4 f5 f6 f7 f8 g4 g8 g7;have st1:∀ r,(if p.hasWill=true then dataR ((if p.hasWill=true then dataB p.wtopic++dataB p.wpayload else [])++r,false) else (e0,((if p.hasWill=true then dataB p.wtopic++dataB p.wpayload else [])++r,false)))=(p.wtopic,((if p.hasWill=true then dataB p.wpayload else [])++r,false)):=by
    intro r;unfold willOk at hw;cases h:p.hasWill
    · rw [h] at hw
      simp only [Bool.false_eq_true,if_false,decide_eq_true_eq] at hw;simp [hw.1]
    · rw [h] at hw
      simp only [if_true,Bool.and_eq_true,decide_eq_true_eq] at hw;simp only [if_true,List.append_assoc];rw [dataD (name_valid hw.1.1)]
  have st2:∀ r,(if p.hasWill=true then dataR ((if p.hasWill=true then dataB p.wpayload else [])++r,false) else (e0,((if p.hasWill=true then dataB p.wpayload else [])++r,false)))=(p.wpayload,(r,false)):=by
    intro r;unfold willOk at hw;cases h:p.hasWill
    · rw [h] at hw
      simp only [Bool.false_eq_true,if_false,decide_eq_true_eq] at hw;simp [hw.2.1]
    · rw [h] at hw
      simp only [if_true,Bool.and_eq_true,decide_eq_true_eq] at hw;simp only [if_true];rw [dataR_data _ hw.1.2]
  have st3:∀ r,(if p.hasUser=true then dataR ((if p.hasUser=true then dataB p.user else [])++r,false) else (e0,((if p.hasUser=true then dataB p.user else [])++r,false)))=(p.user,(r,false)):=by
    intro r;unfold userOk at hu;cases h:p.hasUser
    · rw [h] at hu
      simp only [Bool.false_or,Bool.and_eq_true] at hu;simp [empty_bl _ hu.1]
    · simp only [if_true]
      rw [dataD hv]
  have st4:(if p.hasPass=true then dataR ((if p.hasPass=true then dataB p.pass else []),false) else (e0,((if p.hasPass=true then dataB p.pass else []),false)))=(p.pass,(([]:Bs),false)):=by
    unfold passOk at hs;cases h:p.hasPass
    · rw [h] at hs
      simp only [Bool.false_or] at hs;simp [empty_bl _ hs]
    · simp only [if_true]
      have:=dataR_data p.pass hz [] false;rw [List.append_nil] at this;exact this
  rw [st1];simp only [];rw [st2];simp only [];rw [st3];simp only [];rw [st4];clear st1 st2 st3 st4 hw hu hs hv hz hq hk hc h h0 zz hp;obtain ⟨ty,dup,qos,ret,id,topic,payload,level,clean,keep,client,hasWill,wtopic,wpayload,wqos,wret,hasUser,hasPass,user,pass,present,code,subs,codes⟩:=p;simp only at *
  obtain ⟨rfl,rfl,rfl,rfl,rfl⟩:=z3;obtain ⟨rfl,rfl⟩:=z2;subst z9 zi zs h1 hl;cases hasWill <;> cases hasUser <;> cases hasPass <;> rfl
theorem subsG_ok (ty:Nat):∀ (S:List Sb) (f was:Nat) (acc:List Sb),S.length < f→(S.flatMap (subB ty)).length < was→(∀ x ∈ S,validL (bl x.1)=true∧x.2 < 256∧(ty≠8→x.2=0))→subsG ty f was (S.flatMap (subB ty),false) acc=(acc++S,([],false))
  | [],f,was,acc,hf,_,_=>by
    cases f with
    | zero=>simp [subsG]
    | succ f=>simp [subsG]
  | x::r,f,was,acc,hf,hw,h=>by
    cases f with
    | zero=>simp at hf
    | succ f =>
      obtain ⟨hv,hq,h8⟩:=h x (by simp);have hlt:(r.flatMap (subB ty)).length < ((x::r).flatMap (subB ty)).length:=by
        rw [List.flatMap_cons,List.length_append];unfold subB dataB wordB;simp
      have ih:=subsG_ok ty r f _ (acc++[x]) (by simp at hf;omega) hlt (fun y hy=>h y (by simp [hy]));have hne:¬ (((x::r).flatMap (subB ty))=[]∨¬ ((x::r).flatMap (subB ty)).length < was):=by
        rintro (h1 | h1)
        · rw [h1] at hlt;simp at hlt
        · exact h1 hw
      unfold subsG;rw [if_neg hne];have e1:(x::r).flatMap (subB ty)=dataB x.1++((if ty=8 then [byteN x.2] else [])++r.flatMap (subB ty)):=by
        rw [List.flatMap_cons];unfold subB;rw [List.append_assoc]
      simp only [];have e2:dataR ((x::r).flatMap (subB ty),false)=(x.1,((if ty=8 then [byteN x.2] else [])++r.flatMap (subB ty),false)):=by rw [e1];exact dataD hv _ _
      rw [e2];simp only [];by_cases h:ty=8
      · simp only [if_pos h,List.singleton_append]
        rw [oneR_byte _ hq];simp only [];rw [ih];simp
      · simp only [if_neg h,List.nil_append]
        have e3:((x.1,0):Sb)=x:=by rw [← h8 h]
        rw [e3,ih];simp
theorem allG_ok (p:Pk) (hp:PkOk p) (h0:0≤restP p):allG p.ty (flagsN p) (restB p,false)=(p,([],false)):=by
  have zz:=(zeros_iff p).1 (rest_bare h0);have hty:=rest_types h0;unfold allG restB;by_cases h1:p.ty=1
  · rw [if_pos h1,if_pos h1,conG_ok p hp h1 h0]
  rw [if_neg h1,if_neg h1];have z1:=zz.z1 h1;by_cases h2:p.ty=2
  · have z3:=zz.z3 (by omega)
    have z9:=zz.z9 (by omega);have zi:=zz.zi (by omega);have zs:=zz.zs (by omega) (by omega);have hc:=hp.code;rw [if_pos h2,if_pos h2];have hb:bitN p.present 1 < 256:=by unfold bitN;split <;> omega
    simp only [oneR_byte _ hb];have e2:decide (bitN p.present 1=1)=p.present:=by unfold bitN;cases p.present <;> rfl
    simp only [e2,oneR_byte _ hc];clear h0 hp zz hty e2 hb hc;obtain ⟨ty,dup,qos,ret,id,topic,payload,level,clean,keep,client,hasWill,wtopic,wpayload,wqos,wret,hasUser,hasPass,user,pass,present,code,subs,codes⟩:=p;simp only at *
    obtain ⟨rfl,rfl,rfl,rfl,rfl⟩:=z3;obtain ⟨rfl,rfl,rfl,rfl,rfl,rfl,rfl,rfl,rfl,rfl,rfl,rfl,rfl⟩:=z1;subst z9 zi zs h2;rfl
  rw [if_neg h2,if_neg h2];have z2:=zz.z2 h2;unfold otherB;by_cases h3:p.ty=3
  · have z9:=zz.z9 (by omega)
    have zs:=zz.zs (by omega) (by omega);obtain ⟨hn,hq,hid⟩:=pub_parts h3 h0;have hi:=hp.id;obtain ⟨f1,f2,f3,f4⟩:=flags_pub p.dup p.ret p.qos hq (flagsN p) (by unfold flagsN;rw [if_pos h3]);rw [if_pos h3];simp only [if_pos h3,List.append_assoc];rw [dataD (name_valid hn)];simp only [f2,f3,f4,z9,zs,e0_bl,List.flatMap_nil,List.nil_append];have e1:(if 0 < p.qos then wordR ((if p.id=0 then [] else wordB p.id)++bl p.payload,false) else (0,((if p.id=0 then [] else wordB p.id)++bl p.payload,false)))=(p.id,(bl p.payload,false)):=by
      rcases hid with ⟨q0,i0,_⟩ | ⟨q0,i0,_⟩
      · rw [if_neg (by omega),i0];rfl
      · rw [if_pos q0,if_neg (by omega),wordR_word _ hi]
    rw [e1];simp only [baB_bl];clear h0 hp zz hty e1 hi f1 f2 f3 f4 hid hn hq h1 h2;obtain ⟨ty,dup,qos,ret,id,topic,payload,level,clean,keep,client,hasWill,wtopic,wpayload,wqos,wret,hasUser,hasPass,user,pass,present,code,subs,codes⟩:=p;simp only at *
    obtain ⟨rfl,rfl,rfl,rfl,rfl,rfl,rfl,rfl,rfl,rfl,rfl,rfl,rfl⟩:=z1;obtain ⟨rfl,rfl⟩:=z2;subst z9 zs h3;rfl
  rw [if_neg h3];simp only [if_neg h3,List.nil_append];have z3:=zz.z3 h3;by_cases hd:p.ty=12∨p.ty=13∨p.ty=14
  · rw [if_pos hd]
    have z9:=zz.z9 (by omega);have zi:=zz.zi (by omega);have zs:=zz.zs (by omega) (by omega);simp only [zi,zs,z9,z3.2.2.2.2,e0_bl,if_true,List.flatMap_nil,List.append_nil];clear h0 hp zz hty h1 h2 h3 hd;obtain ⟨ty,dup,qos,ret,id,topic,payload,level,clean,keep,client,hasWill,wtopic,wpayload,wqos,wret,hasUser,hasPass,user,pass,present,code,subs,codes⟩:=p;simp only at *
    obtain ⟨rfl,rfl,rfl,rfl,rfl,rfl,rfl,rfl,rfl,rfl,rfl,rfl,rfl⟩:=z1;obtain ⟨rfl,rfl⟩:=z2;obtain ⟨rfl,rfl,rfl,rfl,rfl⟩:=z3;subst z9 zs zi;rfl
  rw [if_neg hd];have hid:=ids_parts h3 (by omega) h0;have hi:=hp.id;simp only [if_neg hid,List.append_assoc];rw [wordR_word _ hi];simp only [z3.2.2.2.2,e0_bl,List.append_nil];by_cases h9:p.ty=9
  · rw [if_pos h9]
    have zs:=zz.zs (by omega) (by omega);simp only [zs,List.flatMap_nil,List.nil_append,baB_bl];clear h0 hp zz hty h1 h2 h3 hd hid hi h9;obtain ⟨ty,dup,qos,ret,id,topic,payload,level,clean,keep,client,hasWill,wtopic,wpayload,wqos,wret,hasUser,hasPass,user,pass,present,code,subs,codes⟩:=p;simp only at *
    obtain ⟨rfl,rfl,rfl,rfl,rfl,rfl,rfl,rfl,rfl,rfl,rfl,rfl,rfl⟩:=z1;obtain ⟨rfl,rfl⟩:=z2;obtain ⟨rfl,rfl,rfl,rfl,rfl⟩:=z3;subst zs;rfl
  rw [if_neg h9];have z9:=zz.z9 h9;simp only [z9,e0_bl,List.append_nil];by_cases h8:p.ty=8∨p.ty=10
  · rw [if_pos h8]
    obtain ⟨_,_,hall,_⟩:=subs_parts h8 h0;have hS:∀ x ∈ p.subs,validL (bl x.1)=true∧x.2 < 256∧(p.ty≠8→x.2=0):=by
      intro x hx;have h5:=List.all_eq_true.1 hall x hx;unfold subOk at h5;simp only [Bool.and_eq_true,decide_eq_true_eq] at h5;refine ⟨filter_valid h5.1,(hp.each x hx).2,fun h=>?_⟩;have h10:p.ty=10:=by omega
      unfold mostN at h5;rw [if_pos h10] at h5;omega
    have hlen:p.subs.length < (p.subs.flatMap (subB p.ty)).length+1:=by
      rw [subsB_len];have:∀ (m:Nat) (S:List Sb),S.length≤subsLen m S:=by
        intro m S;unfold subsLen;induction S with
        | nil=>simp
        | cons x r ih=>simp only [List.length_cons,List.map_cons,List.sum_cons];omega
      have:=this (if p.ty=8 then 1 else 0) p.subs;omega
    have hr:=subsG_ok p.ty p.subs _ _ [] hlen (Nat.le_refl _) hS;rw [hr];simp only [List.nil_append];clear h0 hp zz hty h1 h2 h3 hd hid hi h9 hall hS hlen hr h8;obtain ⟨ty,dup,qos,ret,id,topic,payload,level,clean,keep,client,hasWill,wtopic,wpayload,wqos,wret,hasUser,hasPass,user,pass,present,code,subs,codes⟩:=p;simp only at *
    obtain ⟨rfl,rfl,rfl,rfl,rfl,rfl,rfl,rfl,rfl,rfl,rfl,rfl,rfl⟩:=z1;obtain ⟨rfl,rfl⟩:=z2;obtain ⟨rfl,rfl,rfl,rfl,rfl⟩:=z3;subst z9;rfl
  · rw [if_neg h8]
    have zs:=zz.zs (by omega) (by omega);simp only [zs,List.flatMap_nil];clear h0 hp zz hty h1 h2 h3 hd hid hi h9 h8;obtain ⟨ty,dup,qos,ret,id,topic,payload,level,clean,keep,client,hasWill,wtopic,wpayload,wqos,wret,hasUser,hasPass,user,pass,present,code,subs,codes⟩:=p;simp only at *
    obtain ⟨rfl,rfl,rfl,rfl,rfl,rfl,rfl,rfl,rfl,rfl,rfl,rfl,rfl⟩:=z1;obtain ⟨rfl,rfl⟩:=z2;obtain ⟨rfl,rfl,rfl,rfl,rfl⟩:=z3;subst zs z9;rfl
theorem guess_rest (p:Pk) (hp:PkOk p) (h0:0≤restP p):guessR (16 * p.ty+flagsN p) (restB p)=p:=by
  have hq:p.ty=3→p.qos≤2:=fun h3=>(pub_parts h3 h0).2.1
  have hf:=flags_lt' p hq;unfold guessR;rw [show (16 * p.ty+flagsN p) / 16=p.ty by omega,show (16 * p.ty+flagsN p) % 16=flagsN p by omega,allG_ok p hp h0]
theorem subsG_pk (ty:Nat):∀ (f was:Nat) (c:Cur) (acc:List Sb),(∀ x ∈ acc,x.1.size≤65535∧x.2 < 256)→(subsG ty f was c acc).1.length≤acc.length+f∧∀ x ∈ (subsG ty f was c acc).1,x.1.size≤65535∧x.2 < 256
  | 0,_,c,acc,h=>⟨Nat.le_refl _,h⟩
  | f+1,was,c,acc,h=>by
    unfold subsG;split
    · exact ⟨by simp only;omega,h⟩
    · have ih:=subsG_pk ty f c.1.length (if ty=8 then oneR (dataR c).2 else (0,(dataR c).2)).2 (acc++[((dataR c).1,(if ty=8 then oneR (dataR c).2 else (0,(dataR c).2)).1)]) (by
        intro x hx;rcases List.mem_append.1 hx with hx | hx
        · exact h x hx
        · simp at hx
          subst hx;refine ⟨data_size c,?_⟩;split
          · exact one_lt _
          · exact Nat.zero_lt_succ _)
      refine ⟨?_,ih.2⟩;have:=ih.1;rw [List.length_append] at this;simp only [List.length_singleton] at this;simp only
      omega
theorem conG_pk (c:Cur):PkOk (conG c).1:=by
  refine pk_con _ _ _ _ _ _ _ _ (one_lt _) (word_lt _) (data_size _) (opt_size (data_size _)) (opt_size (data_size _)) (opt_size (data_size _)) (opt_size (data_size _))
theorem allG_pk (ty fl:Nat) (hty:ty < 16) (c:Cur) (hc:c.1.length≤90000000):PkOk (allG ty fl c).1:=by
  have hw:=word_len c;have ht:=word_len (dataR c).2;have ht2:=data_len c;unfold allG;split
  · exact conG_pk c
  split
  · simp only [Pk.zero]
    constructor
    all_goals dsimp only
    all_goals first
      | omega
      | exact one_lt _
      | (show (0:Nat)≤_;omega)
      | (intro x hx;cases hx)
  split
  · have hi:(if 0 < fl / 2 % 4 then wordR (dataR c).2 else (0,(dataR c).2)).1 < 65536:=by
      split
      · exact word_lt _
      · exact Nat.zero_lt_succ _
    have hp:(if 0 < fl / 2 % 4 then wordR (dataR c).2 else (0,(dataR c).2)).2.1.length≤90000000:=by
      split
      · omega
      · show (dataR c).2.1.length≤_
        omega
    dsimp only
    generalize (if 0 < fl / 2 % 4 then wordR (dataR c).2 else (0,(dataR c).2))=x at hi hp ⊢;simp only [Pk.zero];constructor
    all_goals dsimp only
    all_goals first
      | omega
      | exact Nat.le_trans (data_size _) (by omega)
      | (show (0:Nat)≤_;omega)
      | (intro x hx;cases hx)
      | exact Nat.le_trans (Nat.le_of_eq (baB_size _)) (by omega)
  split
  · simp only [Pk.zero]
    constructor
    all_goals dsimp only
    all_goals first
      | omega
      | (show (0:Nat)≤_;omega)
      | (intro x hx;cases hx)
  simp only [];have hi:=word_lt c;generalize wordR c=x at hi hw ⊢;split
  · simp only [Pk.zero]
    constructor
    all_goals dsimp only
    all_goals first
      | omega
      | (show (0:Nat)≤_;omega)
      | (intro x hx;cases hx)
      | exact Nat.le_trans (Nat.le_of_eq (baB_size _)) (by omega)
  split
  · have hs:=subsG_pk ty (x.2.1.length+1) (x.2.1.length+1) x.2 [] (fun x hx=>by cases hx)
    generalize subsG ty (x.2.1.length+1) (x.2.1.length+1) x.2 []=y at hs ⊢;simp only [List.length_nil] at hs;simp only [Pk.zero];constructor
    all_goals dsimp only
    all_goals first
      | omega
      | (show (0:Nat)≤_;omega)
      | exact fun z hz=>⟨Nat.le_trans (hs.2 z hz).1 (by omega),(hs.2 z hz).2⟩
  · simp only [Pk.zero]
    constructor
    all_goals dsimp only
    all_goals first
      | omega
      | (show (0:Nat)≤_;omega)
      | (intro x hx;cases hx)
theorem guess_pk {b:Nat} (hb:b < 256) {L:Bs} (hL:L.length≤90000000):PkOk (guessR b L):=allG_pk _ _ (by omega) _ hL
def saysR (b:Nat) (L:Bs):Bool:=rightR (guessR b L) && (decide (16 * (guessR b L).ty+flagsN (guessR b L)=b) && decide (restB (guessR b L)=L))
theorem body_guess {b:Nat} (hb:b < 256) (hf:firstOk b=true) {L:Bs} (hL:L.length≤90000000) (hn:¬ (b / 16=1∧6 < L.length∧L.take 6=dataB mqtt∧L[6]?≠some 4)):bodyR b L=if saysR b L=true then (guessR b L,0) else (Pk.zero,4):=by
  have hpk:=guess_pk hb hL;split
  · rename_i h
    unfold saysR at h;simp only [Bool.and_eq_true,decide_eq_true_eq] at h;obtain ⟨h1,h2,h3⟩:=h;have h0:0≤restP (guessR b L):=by rw [(right_rest _ hpk).1] at h1;exact of_decide_eq_true h1
    have h4:=bodyR_ok _ hpk h0;rw [h2,h3] at h4;exact h4
  · rename_i h
    by_cases he:(bodyR b L).2=0
    · exfalso
      apply h
      unfold bodyR at he;rw [if_neg hn] at he;simp only [] at he;split at he
      · cases he
      rename_i hk
      rcases ha:allR (b / 16) (b % 16) (L,false) with ⟨p,r,k⟩
      rw [ha] at hk;simp only [not_or,Decidable.not_not,Bool.not_eq_true] at hk;obtain ⟨rfl,rfl,h0⟩:=hk;have h0:0≤restP p:=by omega
      have hf2:firstOk (16 * (b / 16)+b % 16)=true:=by rw [show 16 * (b / 16)+b % 16=b by omega];exact hf
      obtain ⟨i1,i2,i3⟩:=allR_inv _ _ (by omega) (by omega) hf2 L p ha h0;have hp:PkOk p:=by have h:=allR_pk (b / 16) (b % 16) (by omega) (L,false) hL;rw [ha] at h;exact h
      have hg:=guess_rest p hp h0;rw [i1,i2,i3,show 16 * (b / 16)+b % 16=b by omega] at hg;unfold saysR;rw [hg,(right_rest p hp).1,i1,i2,i3];simp only [Bool.and_eq_true,decide_eq_true_eq];exact ⟨h0,by omega,trivial⟩
    · exact bodyR_bad he
def refD:Bs→Pk × Nat × Nat
  | []=>(Pk.zero,0,2)
  | b::t =>
    if firstOk b.toNat=false then (Pk.zero,0,4)
    else if (lenR t).2.2≠0 then (Pk.zero,0,(lenR t).2.2)
    else if t.length < (lenR t).2.1+(lenR t).1 then (Pk.zero,0,2)
    else if b.toNat=16∧6 < ((t.drop (lenR t).2.1).take (lenR t).1).length∧((t.drop (lenR t).2.1).take (lenR t).1).take 6=dataB mqtt∧((t.drop (lenR t).2.1).take (lenR t).1)[6]?≠some 4 then ({ Pk.zero with ty:=1,level:=(((t.drop (lenR t).2.1).take (lenR t).1).getD 6 0).toNat },1+(lenR t).2.1+(lenR t).1,0)
    else if saysR b.toNat ((t.drop (lenR t).2.1).take (lenR t).1)=true then (guessR b.toNat ((t.drop (lenR t).2.1).take (lenR t).1),1+(lenR t).2.1+(lenR t).1,0)
    else (Pk.zero,0,4)
theorem ref_dec (L:Bs) (hL:L.length≤90000000):refD L=decR L:=by
  cases L with
  | nil=>rfl
  | cons b t =>
    have hb:=b.toNat_lt;simp only [refD,decR];by_cases h1:firstOk b.toNat=false
    · rw [if_pos h1,if_pos h1]
    rw [if_neg h1,if_neg h1];have h1':firstOk b.toNat=true:=by simpa using h1
    by_cases h2:(lenR t).2.2≠0
    · rw [if_pos h2,if_pos h2]
    rw [if_neg h2,if_neg h2];rcases hlen:lenR t with ⟨n,u,e⟩
    rw [hlen] at h2;simp only [ne_eq,Decidable.not_not] at h2;subst h2;obtain ⟨u1,u2,u3,u4,u5⟩:=lenR_inv hlen;simp only
    by_cases h3:t.length < u+n
    · have h3':t.length - u < n:=by omega
      rw [if_pos h3,if_pos h3']
    have h3':¬ t.length - u < n:=by omega
    rw [if_neg h3,if_neg h3'];have hl:((t.drop u).take n).length≤90000000:=by
      rw [List.length_take];simp only [List.length_cons] at hL;rw [List.length_drop];omega
    have h16:b.toNat=16↔b.toNat / 16=1:=by
      unfold firstOk at h1';constructor
      · intro h;omega
      · intro h
        rw [h] at h1';simp at h1'
        omega
    by_cases h4:b.toNat / 16=1∧6 < ((t.drop u).take n).length∧((t.drop u).take n).take 6=dataB mqtt∧((t.drop u).take n)[6]?≠some 4
    · rw [if_pos ⟨h16.2 h4.1,h4.2⟩]
      unfold bodyR;rw [if_pos h4];simp
    · rw [if_neg (fun h=>h4 ⟨h16.1 h.1,h.2⟩),body_guess hb h1' hl h4]
      by_cases h5:saysR b.toNat ((t.drop u).take n)=true
      · rw [if_pos h5,if_pos h5];simp
      · rw [if_neg h5,if_neg h5];simp
end Go.Proofs.YtehpihmgjbmoaaaGreatDoor
