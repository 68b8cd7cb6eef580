import Derived.Test.YtehpihmgjbmoaaaGreatDoorJoinA
namespace Go.Proofs.YtehpihmgjbmoaaaGreatDoor
open Go.Lib
end Go.Proofs.YtehpihmgjbmoaaaGreatDoor
namespace Go.Proofs.YtehpihmgjbmoaaaGreatDoor
structure Pk where
  ty:Nat
  dup:Bool
  qos:Nat
  ret:Bool
  id:Nat
  topic:ByteArray
  payload:ByteArray
  level:Nat
  clean:Bool
  keep:Nat
  client:ByteArray
  hasWill:Bool
  wtopic:ByteArray
  wpayload:ByteArray
  wqos:Nat
  wret:Bool
  hasUser:Bool
  hasPass:Bool
  user:ByteArray
  pass:ByteArray
  present:Bool
  code:Nat
  subs:List Sb
  codes:ByteArray
deriving DecidableEq
def e0:ByteArray:=⟨#[]⟩
def Pk.zero:Pk:=⟨0,false,0,false,0,e0,e0,0,false,0,e0,false,e0,e0,0,false,false,false,e0,e0,false,0,[],e0⟩
structure PkOk (p:Pk):Prop where
  ty:p.ty < 256
  qos:p.qos < 256
  id:p.id < 65536
  level:p.level < 256
  keep:p.keep < 65536
  wqos:p.wqos < 256
  code:p.code < 256
  topic:p.topic.size≤300000000
  payload:p.payload.size≤300000000
  client:p.client.size≤300000000
  wtopic:p.wtopic.size≤300000000
  wpayload:p.wpayload.size≤300000000
  user:p.user.size≤300000000
  pass:p.pass.size≤300000000
  codes:p.codes.size≤300000000
  few:p.subs.length≤100000000
  each:∀ x ∈ p.subs,x.1.size≤300000000∧x.2 < 256
def idN (p:Pk):Int:=if p.id=0 then -1 else 2
def publishN (p:Pk):Int :=
  if nameL (bl p.topic)=false∨2 < p.qos then -1
  else if 0 < p.qos∧0 < p.id then 2+(p.topic.size:Int)+p.payload.size+2
  else if 0 < p.qos∨0 < p.id∨p.dup=true then -1
  else 2+(p.topic.size:Int)+p.payload.size
def codeOk (b:UInt8):Bool:=decide (b.toNat≤2) || decide (b.toNat=128)
def codesN (p:Pk):Int:=if p.id=0∨(bl p.codes).isEmpty=true then -1 else if (bl p.codes).all codeOk=true then 2+(p.codes.size:Int) else -1
def mostN (p:Pk):Nat:=if p.ty=10 then 0 else 2
def moreN (p:Pk):Nat:=if p.ty=10 then 0 else 1
def subOk (most:Nat) (x:Sb):Bool:=filterL (fB x) && decide (x.2≤most)
def subsLen (more:Nat) (S:List Sb):Nat:=(S.map fun x=>2+x.1.size+more).sum
def subsN (p:Pk):Int:=if p.id=0∨p.subs=[] then -1 else if p.subs.all (subOk (mostN p))=true then 2+(subsLen (moreN p) p.subs:Int) else -1
def willZero (p:Pk):Prop:=p.wtopic=e0∧p.wpayload=e0∧p.wqos=0∧p.wret=false
instance (p:Pk):Decidable (willZero p):=inferInstanceAs (Decidable (_∧_∧_∧_))
def willOk (p:Pk):Bool:=if p.hasWill then nameL (bl p.wtopic) && decide (p.wpayload.size≤65535) && decide (p.wqos≤2) else decide (willZero p)
def userOk (p:Pk):Bool:=p.hasUser || ((bl p.user).isEmpty && !p.hasPass)
def passOk (p:Pk):Bool:=p.hasPass || (bl p.pass).isEmpty
def connectOk (p:Pk):Bool:=decide (p.level=4) && validL (bl p.client) && willOk p && userOk p && passOk p && validL (bl p.user) && decide (p.pass.size≤65535)
def connectLen (p:Pk):Nat:=12+p.client.size+(if p.hasWill then 4+p.wtopic.size+p.wpayload.size else 0)+(if p.hasUser then 2+p.user.size else 0)+(if p.hasPass then 2+p.pass.size else 0)
def connectN (p:Pk):Int:=if connectOk p then (connectLen p:Int) else -1
def Pk.bare (p:Pk):Pk:={ p with subs:=[] }
def onlyF (p:Pk):Pk :=
  if p.ty=1 then { Pk.zero with ty:=p.ty,level:=p.level,clean:=p.clean,keep:=p.keep,client:=p.client,hasWill:=p.hasWill,wtopic:=p.wtopic,wpayload:=p.wpayload,wqos:=p.wqos,wret:=p.wret,hasUser:=p.hasUser,hasPass:=p.hasPass,user:=p.user,pass:=p.pass }
  else if p.ty=2 then { Pk.zero with ty:=p.ty,present:=p.present,code:=p.code }
  else if p.ty=3 then { Pk.zero with ty:=p.ty,dup:=p.dup,qos:=p.qos,ret:=p.ret,id:=p.id,topic:=p.topic,payload:=p.payload }
  else if p.ty=9 then { Pk.zero with ty:=p.ty,id:=p.id,codes:=p.codes }
  else if p.ty=12∨p.ty=13∨p.ty=14 then { Pk.zero with ty:=p.ty }
  else { Pk.zero with ty:=p.ty,id:=p.id }
def bareB (p:Pk):Bool:=(p.subs.isEmpty || decide (p.ty=8) || decide (p.ty=10)) && decide (p.bare=onlyF p)
theorem onlyF_ok {p:Pk} (h:PkOk p):PkOk (onlyF p):=by
  have hz:e0.size=0:=rfl;unfold onlyF;obtain ⟨h1,h2,h3,h4,h5,h6,h7,h8,h9,h10,h11,h12,h13,h14,h15,h16,h17⟩:=h
  (repeat' split) <;> (constructor <;> simp [Pk.zero,hz] <;> omega)
end Go.Proofs.YtehpihmgjbmoaaaGreatDoor
namespace Go.Proofs.YtehpihmgjbmoaaaGreatDoor
def restOf (n:Int) (b:Bool):Int:=if n < 0∨268435455 < n∨b=false then -1 else n
def connackN (p:Pk):Int:=if p.code≤5∧(p.code=0∨p.present=false) then 2 else -1
def typeN (p:Pk):Int :=
  if p.ty=1 then connectN p else if p.ty=2 then connackN p else if p.ty=3 then publishN p
  else if p.ty=4∨p.ty=5∨p.ty=6∨p.ty=7∨p.ty=11 then idN p else if p.ty=8∨p.ty=10 then subsN p else if p.ty=9 then codesN p
  else if p.ty=12∨p.ty=13∨p.ty=14 then 0 else -1
def restP (p:Pk):Int:=restOf (typeN p) (bareB p)
theorem restP_neg (p:Pk) (h:restP p < 0):restP p=-1:=by
  unfold restP restOf at *;split at h
  · rw [if_pos ‹_›]
  · rename_i h2
    omega
def onlyS (p:Pk):Pk:={ (onlyF p) with subs:=if p.ty=8∨p.ty=10 then p.subs else [] }
def subR (p:Pk) (x:Sb):Bool:=filterL (fB x) && decide (x.2≤2) && !(decide (p.ty=10) && decide (0 < x.2))
def listsR (p:Pk):Bool:=p.subs.all (subR p) && (bl p.codes).all codeOk && (decide (p.ty=8∨p.ty=10) == !p.subs.isEmpty) && (decide (p.ty=9) == !(bl p.codes).isEmpty)
def connectR (p:Pk):Bool:=decide (p.level=4) && validL (bl p.client) && willOk p && (if p.hasUser then validL (bl p.user) else (bl p.user).isEmpty && !p.hasPass) && (if p.hasPass then decide (p.pass.size≤65535) else (bl p.pass).isEmpty)
def restR (p:Pk):Nat :=
  p.payload.size+p.codes.size+(if p.id=0 then 0 else 2)+subsLen (if p.ty=8 then 1 else 0) p.subs +
    (if p.ty=1 then connectLen p else if p.ty=2 then 2 else if p.ty=3 then 2+p.topic.size else 0)
def hasI (ty:Nat):Bool:=decide (3≤ty∧ty≤11)
def rightR (p:Pk):Bool :=
  decide (1≤p.ty∧p.ty≤14) && decide (p=onlyS p) && listsR p && decide (p.qos≤2) && (!decide (p.ty=1) || connectR p) && (!decide (p.ty=2) || decide (p.code≤5) && !(p.present && decide (0 < p.code))) &&
    (if p.ty=3 then nameL (bl p.topic) && !(decide (p.qos=0) && (p.dup || decide (p.id≠0))) && !(decide (0 < p.qos) && decide (p.id=0)) else !(hasI p.ty && decide (p.id=0))) && decide (restR p≤268435455)
theorem onlyF_subs (p:Pk):(onlyF p).subs=[]:=by unfold onlyF;(repeat' split) <;> rfl
theorem bare_only (p:Pk):decide (p=onlyS p)=bareB p:=by
  have h0:(p.subs.isEmpty || decide (p.ty=8) || decide (p.ty=10))=decide ((if p.ty=8∨p.ty=10 then p.subs else [])=p.subs):=by
    by_cases h:p.ty=8∨p.ty=10
    · rw [if_pos h]
      rcases h with h | h <;> simp [h]
    · rw [if_neg h]
      have h8:p.ty≠8:=fun e=>h (Or.inl e)
      have h10:p.ty≠10:=fun e=>h (Or.inr e)
      cases p.subs <;> simp [h8,h10]
  rw [Bool.eq_iff_iff];unfold bareB;rw [h0];simp only [decide_eq_true_eq,Bool.and_eq_true];constructor
  · intro h
    have e1:p.subs=_:=congrArg Pk.subs h;have e2:p.bare=(onlyS p).bare:=congrArg Pk.bare h;refine ⟨e1.symm,e2.trans ?_⟩;have h3:=onlyF_subs p;unfold onlyS Pk.bare;generalize onlyF p=q at *;rw [← h3]
  · rintro ⟨h1,h2⟩
    unfold onlyS;rw [h1,← h2];rfl
structure Zeros (p:Pk):Prop where
  z3:p.ty≠3→p.dup=false∧p.qos=0∧p.ret=false∧p.topic=e0∧p.payload=e0
  z1:p.ty≠1→p.level=0∧p.clean=false∧p.keep=0∧p.client=e0∧p.hasWill=false∧p.wtopic=e0∧p.wpayload=e0∧p.wqos=0∧p.wret=false∧p.hasUser=false∧p.hasPass=false∧p.user=e0∧p.pass=e0
  z2:p.ty≠2→p.present=false∧p.code=0
  z9:p.ty≠9→p.codes=e0
  zi:p.ty=1∨p.ty=2∨p.ty=12∨p.ty=13∨p.ty=14→p.id=0
  zs:p.ty≠8→p.ty≠10→p.subs=[]
theorem zeros_iff (p:Pk):bareB p=true↔Zeros p:=by
  unfold bareB;constructor
  · intro h
    simp only [Bool.and_eq_true,Bool.or_eq_true,decide_eq_true_eq,List.isEmpty_iff] at h;obtain ⟨h1,h2⟩:=h;have hs:p.ty≠8→p.ty≠10→p.subs=[]:=fun h8 h10=>by
      rcases h1 with (h | h) | h
      · exact h
      · exact absurd h h8
      · exact absurd h h10
    clear h1;have f1:=congrArg Pk.dup h2;have f2:=congrArg Pk.qos h2;have f3:=congrArg Pk.ret h2;have f4:=congrArg Pk.topic h2;have f5:=congrArg Pk.payload h2;have g1:=congrArg Pk.level h2;have g2:=congrArg Pk.clean h2;have g3:=congrArg Pk.keep h2;have g4:=congrArg Pk.client h2;have g5:=congrArg Pk.hasWill h2;have g6:=congrArg Pk.wtopic h2;have g7:=congrArg Pk.wpayload h2;have g8:=congrArg Pk.wqos h2;have g9:=congrArg Pk.wret h2;have g10:=congrArg Pk.hasUser h2;have g11:=congrArg Pk.hasPass h2;have g12:=congrArg Pk.user h2;have g13:=congrArg Pk.pass h2;have i1:=congrArg Pk.present h2;have i2:=congrArg Pk.code h2;have i3:=congrArg Pk.codes h2;have i4:=congrArg Pk.id h2;simp only [Pk.bare] at f1 f2 f3 f4 f5 g1 g2 g3 g4 g5 g6 g7 g8 g9 g10 g11 g12 g13 i1 i2 i3 i4;clear h2;unfold onlyF at *;refine ⟨fun h=>?_,fun h=>?_,fun h=>?_,fun h=>?_,fun h=>?_,hs⟩
    · refine ⟨f1.trans ?_,f2.trans ?_,f3.trans ?_,f4.trans ?_,f5.trans ?_⟩ <;> (repeat' split) <;> first | rfl | contradiction
    · refine ⟨g1.trans ?_,g2.trans ?_,g3.trans ?_,g4.trans ?_,g5.trans ?_,g6.trans ?_,g7.trans ?_,g8.trans ?_,g9.trans ?_,g10.trans ?_,g11.trans ?_,g12.trans ?_,g13.trans ?_⟩ <;> (repeat' split) <;> first | rfl | contradiction
    · refine ⟨i1.trans ?_,i2.trans ?_⟩ <;> (repeat' split) <;> first | rfl | contradiction
    · refine i3.trans ?_;(repeat' split) <;> first | rfl | contradiction
    · refine i4.trans ?_;(repeat' split) <;> first | rfl | omega
  · rintro ⟨z3,z1,z2,z9,zi,zs⟩
    obtain ⟨ty,dup,qos,ret,id,topic,payload,level,clean,keep,client,hasWill,wtopic,wpayload,wqos,wret,hasUser,hasPass,user,pass,present,code,subs,codes⟩:=p;simp only at z3 z1 z2 z9 zi zs
    unfold onlyF Pk.bare;simp only [Bool.and_eq_true,Bool.or_eq_true,decide_eq_true_eq,List.isEmpty_iff];refine ⟨?_,?_⟩
    · by_cases h8:ty=8
      · exact Or.inl (Or.inr h8)
      · by_cases h10:ty=10
        · exact Or.inr h10
        · exact Or.inl (Or.inl (zs h8 h10))
    · (repeat' split) <;> simp_all [Pk.zero]
theorem e0_bl:bl e0=[]:=rfl
theorem e0_size:e0.size=0:=rfl
theorem valid_nil:validL []=true:=by kernel_rfl
theorem rest_fin (b:Bool) (L:Nat) (n:Int) (hn:n=if b then (L:Int) else -1):(b && decide (L≤268435455))=decide (0≤restOf n true)∧(0≤restOf n true→restOf n true=(L:Int)):=by
  subst hn;unfold restOf;cases b with
  | false=>simp
  | true =>
    by_cases hl:L≤268435455
    · have h1:¬ (268435455:Int) < (L:Int):=by omega
      have h2:¬ (L:Int) < 0:=by omega
      simp [hl,h1,h2]
    · have h1:(268435455:Int) < (L:Int):=by omega
      simp [hl,h1]
theorem empty_bl (s:ByteArray) (h:(bl s).isEmpty=true):s=e0:=bl_inj (by rw [List.isEmpty_iff.1 h];rfl)
theorem connectR_ok (p:Pk):connectR p=connectOk p:=by
  unfold connectR connectOk userOk passOk;cases hu:p.hasUser <;> cases hp:p.hasPass <;> simp
  · cases h1:(bl p.user).isEmpty
    · simp
    · have e1:=empty_bl _ h1
      cases h2:(bl p.pass).isEmpty
      · simp
      · have e2:=empty_bl _ h2
        rw [e1,e2,e0_bl,valid_nil,e0_size];simp
  · cases h2:(bl p.pass).isEmpty
    · simp
    · have e2:=empty_bl _ h2
      rw [e2,e0_size];simp
theorem right_rest (p:Pk) (_hp:PkOk p):rightR p=decide (0≤restP p)∧(0≤restP p→restP p=(restR p:Int)):=by
  cases hb:bareB p with
  | false =>
    have h1:rightR p=false:=by unfold rightR;rw [bare_only,hb];simp
    have h2:restP p=-1:=by unfold restP restOf;rw [hb];simp
    rw [h1,h2];exact ⟨rfl,by omega⟩
  | true =>
    obtain ⟨z3,z1,z2,z9,zi,zs⟩:=(zeros_iff p).1 hb;have hR:restP p=restOf (typeN p) true:=by unfold restP;rw [hb]
    have hO:decide (p=onlyS p)=true:=by rw [bare_only,hb]
    have go:∀ (b:Bool) (L:Nat),typeN p=(if b then (L:Int) else -1)→(rightR p=(b && decide (restR p≤268435455)))→(b=true→restR p=L)→rightR p=decide (0≤restP p)∧(0≤restP p→restP p=(restR p:Int)):=by
      intro b L h1 h2 h3;rw [hR,h2];cases b with
      | false=>rw [h1];simp [restOf]
      | true =>
        rw [h3 rfl];exact rest_fin true L _ h1
    clear hR;by_cases h1:p.ty=1
    · obtain ⟨a1,a2,a3,a4,a5⟩:=z3 (by omega)
      have c1:=z9 (by omega);have d1:=zi (by omega);have s1:=zs (by omega) (by omega);refine go (connectOk p) (connectLen p) (by unfold typeN;rw [if_pos h1];rfl) ?_ (fun _=>?_)
      · unfold rightR listsR;rw [hO,connectR_ok];simp [h1,a2,c1,d1,s1,e0_bl,hasI]
      · unfold restR;simp [h1,a5,c1,d1,s1,e0_size,subsLen]
    by_cases h2:p.ty=2
    · obtain ⟨a1,a2,a3,a4,a5⟩:=z3 (by omega)
      have c1:=z9 (by omega);have d1:=zi (by omega);have s1:=zs (by omega) (by omega);refine go (decide (p.code≤5) && !(p.present && decide (0 < p.code))) 2 ?_ ?_ (fun _=>?_)
      · unfold typeN connackN
        rw [if_neg h1,if_pos h2];cases p.present <;> by_cases hc:p.code=0 <;> by_cases h5:p.code≤5 <;> simp [hc,h5] <;> omega
      · unfold rightR listsR;rw [hO];simp [h2,a2,c1,d1,s1,e0_bl,hasI]
      · unfold restR;simp [h2,a5,c1,d1,s1,e0_size,subsLen]
    by_cases h3:p.ty=3
    · have c1:=z9 (by omega)
      have s1:=zs (by omega) (by omega);refine go (nameL (bl p.topic) && decide (p.qos≤2) && !(decide (p.qos=0) && (p.dup || decide (p.id≠0))) && !(decide (0 < p.qos) && decide (p.id=0))) (2+p.topic.size+p.payload.size+if p.id=0 then 0 else 2) ?_ ?_ (fun _=>?_)
      · unfold typeN publishN
        rw [if_neg h1,if_neg h2,if_pos h3];cases nameL (bl p.topic) <;> cases p.dup <;> by_cases hq:p.qos=0 <;> by_cases hi:p.id=0 <;> by_cases h5:p.qos≤2 <;> simp [hq,hi,h5] <;> omega
      · unfold rightR listsR;rw [hO];simp [h3,c1,s1,e0_bl]
        cases nameL (bl p.topic) <;> by_cases h5:p.qos≤2 <;> simp [h5,Bool.and_assoc]
      · unfold restR;simp [h3,c1,s1,e0_size,subsLen];omega
    obtain ⟨a1,a2,a3,a4,a5⟩:=z3 h3;by_cases h9:p.ty=9
    · have s1:=zs (by omega) (by omega)
      refine go (!decide (p.id=0) && !(bl p.codes).isEmpty && (bl p.codes).all codeOk) (2+p.codes.size) ?_ ?_ (fun h=>?_)
      · unfold typeN codesN
        rw [if_neg h1,if_neg h2,if_neg h3,if_neg (by omega),if_neg (by omega),if_pos h9];cases (bl p.codes).isEmpty <;> by_cases hi:p.id=0 <;> cases (bl p.codes).all codeOk <;> simp [hi]
      · unfold rightR listsR;rw [hO]
        cases (bl p.codes).isEmpty <;> by_cases hi:p.id=0 <;> cases (bl p.codes).all codeOk <;> simp [h9,a2,s1,hasI,hi]
      · have hi:p.id≠0:=by intro e;simp [e] at h
        unfold restR;simp [h9,a5,s1,e0_size,subsLen,hi];omega
    have c1:=z9 h9;by_cases h8:p.ty=8∨p.ty=10
    · have hm:(mostN p=2∧moreN p=1∧p.ty=8)∨(mostN p=0∧moreN p=0∧p.ty=10):=by
        unfold mostN moreN;rcases h8 with h | h
        · left;simp [h]
        · right;simp [h]
      have hall:p.subs.all (subR p)=p.subs.all (subOk (mostN p)):=by
        congr 1;funext x
        unfold subR subOk;cases filterL (fB x) with
        | false=>simp
        | true =>
          rcases hm with ⟨m1,_,m3⟩ | ⟨m1,_,m3⟩
          · rw [m1,m3];simp
          · rw [m1,m3]
            by_cases hx:x.2=0
            · simp [hx]
            · have:0 < x.2:=by omega
              simp [this,hx]
      refine go (!decide (p.id=0) && !p.subs.isEmpty && p.subs.all (subOk (mostN p))) (2+subsLen (moreN p) p.subs) ?_ ?_ (fun h=>?_)
      · unfold typeN subsN
        rw [if_neg h1,if_neg h2,if_neg h3,if_neg (by omega),if_pos h8];cases hs:p.subs with
        | nil=>simp
        | cons x r =>
          by_cases hi:p.id=0
          · simp [hi]
          · cases (x::r).all (subOk (mostN p)) <;> simp [hi]
      · unfold rightR listsR;rw [hO,hall]
        have hI:hasI p.ty=true:=by unfold hasI;rcases h8 with h | h <;> simp [h]
        cases p.subs.isEmpty <;> by_cases hi:p.id=0 <;> cases p.subs.all (subOk (mostN p)) <;> rcases h8 with h | h <;> simp [h,a2,c1,hasI,hi,e0_bl]
      · have hi:p.id≠0:=by intro e;simp [e] at h
        unfold restR;rcases hm with ⟨_,m2,m3⟩ | ⟨_,m2,m3⟩
        · rw [m2];simp [m3,a5,c1,e0_size,hi]
        · rw [m2];simp [m3,a5,c1,e0_size,hi]
    have s1:=zs (fun e=>h8 (Or.inl e)) (fun e=>h8 (Or.inr e));by_cases hd:p.ty=12∨p.ty=13∨p.ty=14
    · have d1:=zi (by omega)
      refine go true 0 ?_ ?_ (fun _=>?_)
      · unfold typeN
        rw [if_neg h1,if_neg h2,if_neg h3,if_neg (by omega),if_neg h8,if_neg h9,if_pos hd];rfl
      · unfold rightR listsR;rw [hO]
        rcases hd with h | h | h <;> simp [h,a2,c1,d1,s1,e0_bl,hasI]
      · unfold restR
        rcases hd with h | h | h <;> simp [h,a5,c1,d1,s1,e0_size,subsLen]
    by_cases hi:p.ty=4∨p.ty=5∨p.ty=6∨p.ty=7∨p.ty=11
    · refine go (!decide (p.id=0)) 2 ?_ ?_ (fun h=>?_)
      · unfold typeN idN
        rw [if_neg h1,if_neg h2,if_neg h3,if_pos hi];by_cases h0:p.id=0 <;> simp [h0]
      · unfold rightR listsR;rw [hO]
        rcases hi with h | h | h | h | h <;> by_cases h0:p.id=0 <;> simp [h,h0,a2,c1,s1,e0_bl,hasI]
      · have h0:p.id≠0:=by intro e;simp [e] at h
        unfold restR;rcases hi with h | h | h | h | h <;> simp [h,h0,a5,c1,s1,e0_size,subsLen]
    · refine go false 0 ?_ ?_ (fun h=>by cases h)
      · unfold typeN
        rw [if_neg h1,if_neg h2,if_neg h3,if_neg hi,if_neg h8,if_neg h9,if_neg hd];rfl
      · unfold rightR
        have:¬ (1≤p.ty∧p.ty≤14):=by omega
        simp [this]
end Go.Proofs.YtehpihmgjbmoaaaGreatDoor
namespace Go.Proofs.YtehpihmgjbmoaaaGreatDoor
structure PkTy (p:Pk):Prop where
  ty:p.ty < 256
  qos:p.qos < 256
  id:p.id < 65536
  level:p.level < 256
  keep:p.keep < 65536
  wqos:p.wqos < 256
  code:p.code < 256
  each:∀ x ∈ p.subs,x.2 < 256
def sizesL (p:Pk):List Nat:=[p.topic.size,p.payload.size,p.client.size,p.wtopic.size,p.wpayload.size,p.user.size,p.pass.size,p.codes.size]++p.subs.map (·.1.size)
structure Small (p:Pk):Prop where
  few:p.subs.length≤100
  sum:(sizesL p).sum≤10000
theorem Small.parts {p:Pk} (h:Small p):p.topic.size+p.payload.size+p.client.size+p.wtopic.size+p.wpayload.size+p.user.size+p.pass.size+p.codes.size+(p.subs.map (·.1.size)).sum≤10000:=by
  have:=h.sum;unfold sizesL at this;simp at this
  omega
theorem le_sum {α:Type} (f:α→Nat):∀ (L:List α) (x:α),x ∈ L→f x≤(L.map f).sum
  | [],x,h=>by cases h
  | y::r,x,h=>by
    rw [List.map_cons,List.sum_cons];rcases List.mem_cons.1 h with rfl | h
    · omega
    · have:=le_sum f r x h;omega
theorem Small.ok {p:Pk} (h:Small p) (t:PkTy p):PkOk p:=by
  have hp:=h.parts;have hf:=h.few;refine ⟨t.ty,t.qos,t.id,t.level,t.keep,t.wqos,t.code,by omega,by omega,by omega,by omega,by omega,by omega,by omega,by omega,by omega,fun x hx=>⟨?_,t.each x hx⟩⟩;have:=le_sum (fun x:Sb=>x.1.size) p.subs x hx;omega
theorem name_len {s:Bs} (h:nameL s=true):s.length≤65535:=by
  unfold nameL validL at h;simp at h
  exact h.1.2.1
theorem filter_len {s:Bs} (h:filterL s=true):s.length≤65535:=by
  unfold filterL validL at h;simp at h
  exact h.1.2.1
theorem blen (s:ByteArray):(bl s).length=s.size:=by simp [bl]
theorem valid_some {s:Bs} (h:validL s=true):s.length≤65535:=by
  unfold validL at h;simp at h;exact h.1
end Go.Proofs.YtehpihmgjbmoaaaGreatDoor
namespace Go.Proofs.YtehpihmgjbmoaaaGreatDoor
theorem rest_bare {p:Pk} (h:0≤restP p):bareB p=true:=by
  unfold restP restOf at h;cases hb:bareB p with
  | true=>rfl
  | false=>rw [hb] at h;simp at h
theorem rest_type {p:Pk} (h:0≤restP p):restP p=typeN p:=by
  unfold restP restOf at *;split at h
  · omega
  · rename_i h2;rw [if_neg h2]
theorem ty3 {p:Pk} (h:p.ty=3):typeN p=publishN p:=by unfold typeN;simp [h]
theorem ty1 {p:Pk} (h:p.ty=1):typeN p=connectN p:=by unfold typeN;simp [h]
theorem pub_parts {p:Pk} (h:p.ty=3) (h0:0≤restP p):nameL (bl p.topic)=true∧p.qos≤2∧((p.qos=0∧p.id=0∧p.dup=false∧restP p=2+(p.topic.size:Int)+p.payload.size)∨(0 < p.qos∧0 < p.id∧restP p=2+(p.topic.size:Int)+p.payload.size+2)):=by
  have e:=(rest_type h0).trans (ty3 h);rw [e] at h0;rw [e];clear e;unfold publishN at *;by_cases hn:nameL (bl p.topic)=false∨2 < p.qos
  · rw [if_pos hn] at h0;omega
  · rw [if_neg hn] at h0
    rw [if_neg hn];refine ⟨?_,by omega,?_⟩
    · cases hc:nameL (bl p.topic) with
      | true=>rfl
      | false=>exact absurd (Or.inl hc) hn
    by_cases h1:0 < p.qos∧0 < p.id
    · rw [if_pos h1]
      exact Or.inr ⟨h1.1,h1.2,rfl⟩
    · rw [if_neg h1] at h0
      rw [if_neg h1];by_cases h2:0 < p.qos∨0 < p.id∨p.dup=true
      · rw [if_pos h2] at h0;omega
      · rw [if_neg h2]
        refine Or.inl ⟨by omega,by omega,?_,rfl⟩;cases hd:p.dup with
        | false=>rfl
        | true=>exact absurd (Or.inr (Or.inr hd)) h2
theorem con_parts {p:Pk} (h:p.ty=1) (h0:0≤restP p):connectOk p=true∧restP p=(connectLen p:Int):=by
  have e:=(rest_type h0).trans (ty1 h);rw [e] at h0;rw [e];unfold connectN at *;cases hn:connectOk p with
  | false=>rw [hn] at h0;simp at h0
  | true=>exact ⟨rfl,if_pos rfl⟩
theorem rest_types {p:Pk} (h:0≤restP p):1≤p.ty∧p.ty≤14:=by
  have e:=rest_type h;rw [e] at h;unfold typeN at h
  (repeat' split at h) <;> omega
theorem subLen_more (m:Nat) (S:List Sb) (x:Sb):subsLen m (S++[x])=subsLen m S+(2+x.1.size+m):=by
  unfold subsLen;rw [List.map_append,List.sum_append];simp
end Go.Proofs.YtehpihmgjbmoaaaGreatDoor
namespace Go.Proofs.YtehpihmgjbmoaaaGreatDoor
def fA:Bool→Bs→Bool
  | _,[]=>true
  | st,b::t=>(if b=43∨b=35 then st && (t.isEmpty || (!(b == 35) && t.head? == some 47)) else true) && fA (b == 47) t
theorem fA_levels:∀ (s x:Bs) (r:List Bs),levelsL s=x::r→fA false s=(plainL x && filterLv r)∧fA true s=(levelL x r.isEmpty && filterLv r)
  | [],x,r,h=>by
    simp [levelsL] at h
    obtain ⟨rfl,rfl⟩:=h;exact ⟨rfl,rfl⟩
  | b::t,x,r,h=>by
    obtain ⟨y,q,hy⟩:∃ y q,levelsL t=y::q:=by
      cases hl:levelsL t with
      | nil=>exact absurd hl (levelsL_ne t)
      | cons y q=>exact ⟨y,q,rfl⟩
    have ih:=fA_levels t y q hy;by_cases hb:b=47
    · subst hb
      unfold levelsL at h;rw [if_pos rfl] at h;injection h with h1 h2
      subst h1 h2;have e:filterLv (levelsL t)=(levelL y q.isEmpty && filterLv q):=by rw [hy];rfl
      have hne:(levelsL t).isEmpty=false:=by rw [hy];rfl
      have hf:∀ st,fA st (47::t)=fA true t:=fun st=>by
        show ((if (47:UInt8)=43∨(47:UInt8)=35 then _ else true) && fA ((47:UInt8) == 47) t)=_;rw [if_neg (by decide)];rfl
      rw [hf,hf,ih.2,e,hne];exact ⟨rfl,rfl⟩
    · unfold levelsL at h
      rw [if_neg hb,hy] at h;have h':(b::y)::q=x::r:=h;injection h' with h1 h2
      subst h1 h2;have hb47:(b == 47)=false:=beq_eq_false_iff_ne.2 hb;by_cases hw:b=43∨b=35
      · have hp:plainL (b::y)=false:=by
          unfold plainL;rcases hw with rfl | rfl <;> rfl
        have hf:∀ st,fA st (b::t)=((st && (t.isEmpty || (!(b == 35) && t.head? == some 47))) && fA false t):=fun st=>by
          show ((if b=43∨b=35 then _ else true) && fA (b == 47) t)=_;rw [if_pos hw,hb47]
        rw [hf,hf,hp,ih.1];refine ⟨by simp,?_⟩;unfold levelL;rw [hp];cases t with
        | nil =>
          simp [levelsL] at hy
          obtain ⟨rfl,rfl⟩:=hy;rcases hw with rfl | rfl <;> rfl
        | cons d t' =>
          by_cases hd:d=47
          · subst hd
            unfold levelsL at hy;rw [if_pos rfl] at hy;injection hy with h1 h2
            subst h1 h2;have hne:(levelsL t').isEmpty=false:=by
              cases hl:levelsL t' with
              | nil=>exact absurd hl (levelsL_ne t')
              | cons=>rfl
            rw [hne];rcases hw with rfl | rfl
            · rfl
            · rfl
          · have hy2:y≠[]:=by
              unfold levelsL at hy;rw [if_neg hd] at hy;cases hl:levelsL t' with
              | nil=>exact absurd hl (levelsL_ne t')
              | cons u v =>
                rw [hl] at hy;have:(d::u)::v=y::q:=hy;injection this with h1 _
                rw [← h1];simp
            have e1:((b::y) == [43])=false:=by rw [beq_eq_false_iff_ne];intro e;injection e with _ e2;exact hy2 e2
            have e2:((b::y) == [35])=false:=by rw [beq_eq_false_iff_ne];intro e;injection e with _ e2;exact hy2 e2
            have e3:((d::t').head? == some 47)=false:=by
              rw [beq_eq_false_iff_ne];intro e;injection e with e;exact hd e
            rw [e1,e2,e3];simp
      · have hp:plainL (b::y)=plainL y:=by
          unfold plainL;rw [List.all_cons];have h43:(b == 43)=false:=beq_eq_false_iff_ne.2 (fun e=>hw (Or.inl e));have h35:(b == 35)=false:=beq_eq_false_iff_ne.2 (fun e=>hw (Or.inr e));rw [h43,h35];rfl
        have hf:∀ st,fA st (b::t)=fA false t:=fun st=>by
          show ((if b=43∨b=35 then _ else true) && fA (b == 47) t)=_;rw [if_neg hw,hb47,Bool.true_and]
        have e1:((b::y) == [43])=false:=by rw [beq_eq_false_iff_ne];intro e;injection e with e2 _;exact hw (Or.inl e2)
        have e2:((b::y) == [35])=false:=by rw [beq_eq_false_iff_ne];intro e;injection e with e2 _;exact hw (Or.inr e2)
        rw [hf,hf,ih.1,hp];unfold levelL;rw [e1,e2,hp];exact ⟨rfl,rfl⟩
theorem fA_filter (s:Bs):filterLv (levelsL s)=fA true s:=by
  obtain ⟨y,q,hy⟩:∃ y q,levelsL s=y::q:=by
    cases hl:levelsL s with
    | nil=>exact absurd hl (levelsL_ne s)
    | cons y q=>exact ⟨y,q,rfl⟩
  rw [(fA_levels s y q hy).2,hy];rfl
theorem fA_drop (s:Bs) (st:Bool) (k:Nat) (b:UInt8) (h:s[k]? = some b):fA st (s.drop k)=((if b=43∨b=35 then st && (decide (s.length≤k+1) || (!(b == 35) && s[k+1]? == some 47)) else true) && fA (b == 47) (s.drop (k+1))):=by
  obtain ⟨hk,hx⟩:=List.getElem?_eq_some_iff.1 h;rw [List.drop_eq_getElem_cons hk,hx];have e1:(s.drop (k+1)).isEmpty=decide (s.length≤k+1):=by rw [Bool.eq_iff_iff];simp
  have e2:(s.drop (k+1)).head? = s[k+1]? := by rw [List.head?_drop]
  rw [← e1,← e2];rfl
end Go.Proofs.YtehpihmgjbmoaaaGreatDoor
namespace Go.Proofs.YtehpihmgjbmoaaaGreatDoor
def byteN (n:Nat):UInt8:=UInt8.ofNat n
def wordB (n:Nat):Bs:=[byteN (n / 256),byteN (n % 256)]
def dataB (s:ByteArray):Bs:=wordB s.size++bl s
def lenF:Nat→Nat→Bs
  | 0,n=>[byteN n]
  | f+1,n=>if n < 128 then [byteN n] else byteN (n % 128+128)::lenF f (n / 128)
def lenB (n:Nat):Bs:=lenF 3 n
def lenS (n:Nat):Nat:=if n < 128 then 1 else if n < 16384 then 2 else if n < 2097152 then 3 else 4
theorem lenB_len (n:Nat) (h:n≤268435455):(lenB n).length=lenS n:=by
  unfold lenB lenS lenF lenF lenF lenF;by_cases h1:n < 128
  · simp [h1]
  · by_cases h2:n < 16384
    · have:n / 128 < 128:=by omega
      simp [h1,h2,this]
    · by_cases h3:n < 2097152
      · have a1:¬ n / 128 < 128:=by omega
        have a2:n / 128 / 128 < 128:=by omega
        simp [h1,h2,h3,a1,a2]
      · have a1:¬ n / 128 < 128:=by omega
        have a2:¬ n / 128 / 128 < 128:=by omega
        simp [h1,h2,h3,a1,a2]
def bitN (b:Bool) (v:Nat):Nat:=if b then v else 0
def flagsN (p:Pk):Nat:=if p.ty=3 then bitN p.dup 8+2 * p.qos+bitN p.ret 1 else if p.ty=6∨p.ty=8∨p.ty=10 then 2 else 0
def conFlags (p:Pk):Nat:=bitN p.hasUser 128+bitN p.hasPass 64+bitN p.wret 32+8 * p.wqos+bitN p.hasWill 4+bitN p.clean 2
def mqtt:ByteArray:=⟨#[77,81,84,84]⟩
def connectB (p:Pk):Bs :=
  dataB mqtt++[byteN p.level,byteN (conFlags p)]++wordB p.keep++dataB p.client++(if p.hasWill then dataB p.wtopic++dataB p.wpayload else [])++(if p.hasUser then dataB p.user else [])++(if p.hasPass then dataB p.pass else [])
def subB (t:Nat) (x:Sb):Bs:=dataB x.1++(if t=8 then [byteN x.2] else [])
def otherB (p:Pk):Bs:=(if p.ty=3 then dataB p.topic else [])++(if p.id=0 then [] else wordB p.id)++p.subs.flatMap (subB p.ty)++bl p.codes++bl p.payload
def restB (p:Pk):Bs:=if p.ty=1 then connectB p else if p.ty=2 then [byteN (bitN p.present 1),byteN p.code] else otherB p
def encB (p:Pk):Bs:=byteN (16 * p.ty+flagsN p)::(lenB (restP p).toNat++restB p)
theorem dataB_len (s:ByteArray):(dataB s).length=2+s.size:=by
  unfold dataB wordB;simp [blen];omega
theorem connectB_len (p:Pk):(connectB p).length=connectLen p:=by
  have hm:mqtt.size=4:=rfl;unfold connectB connectLen;cases p.hasWill <;> cases p.hasUser <;> cases p.hasPass <;> simp [dataB_len,wordB,hm] <;> omega
theorem subsB_len (t:Nat) (S:List Sb):(S.flatMap (subB t)).length=subsLen (if t=8 then 1 else 0) S:=by
  unfold subsLen;induction S with
  | nil=>rfl
  | cons x r ih =>
    rw [List.flatMap_cons,List.length_append,ih,List.map_cons,List.sum_cons];unfold subB;rw [List.length_append,dataB_len];by_cases h:t=8
    · simp [h]
    · simp [h]
theorem restB_len (p:Pk) (hp:PkOk p) (h:0≤restP p):((restB p).length:Int)=restP p:=by
  rw [(right_rest p hp).2 h];congr 1;have hz:=(zeros_iff p).1 (rest_bare h);unfold restB restR;by_cases h1:p.ty=1
  · rw [if_pos h1,connectB_len]
    have a:=hz.z3 (by omega);have b:=hz.z9 (by omega);have c:=hz.zi (by omega);have d:=hz.zs (by omega) (by omega);simp [h1,a.2.2.2.2,b,c,d,e0_size,subsLen]
  · by_cases h2:p.ty=2
    · rw [if_neg h1,if_pos h2]
      have a:=hz.z3 (by omega);have b:=hz.z9 (by omega);have c:=hz.zi (by omega);have d:=hz.zs (by omega) (by omega);simp [h2,a.2.2.2.2,b,c,d,e0_size,subsLen]
    · rw [if_neg h1,if_neg h2]
      unfold otherB;by_cases h3:p.ty=3
      · have d:=hz.zs (by omega) (by omega)
        by_cases hi:p.id=0 <;> simp [h3,hi,d,dataB_len,wordB,subsLen,blen] <;> omega
      · have a:=hz.z3 h3
        have hs:=subsB_len p.ty p.subs;by_cases hi:p.id=0 <;> simp [h1,h2,h3,hi,wordB,blen,hs,a.2.2.2.2,e0_size,e0_bl] <;> omega
theorem encB_len (p:Pk) (hp:PkOk p) (h:0≤restP p):(encB p).length=1+lenS (restP p).toNat+(restP p).toNat:=by
  have h1:=restB_len p hp h;have h2:restP p≤268435455:=by unfold restP restOf;split <;> omega
  unfold encB;rw [List.length_cons,List.length_append,lenB_len _ (by omega)];omega
end Go.Proofs.YtehpihmgjbmoaaaGreatDoor
namespace Go.Proofs.YtehpihmgjbmoaaaGreatDoor
abbrev Cur:=Bs × Bool
def baB (L:Bs):ByteArray:=⟨L.toArray⟩
theorem baB_bl (s:ByteArray):baB (bl s)=s:=bl_inj rfl
theorem bl_baB (L:Bs):bl (baB L)=L:=rfl
def oneR:Cur→Nat × Cur
  | ([],_)=>(0,([],true))
  | (b::t,k)=>(b.toNat,(t,k))
def wordR:Cur→Nat × Cur
  | (a::b::t,k)=>(a.toNat * 256+b.toNat,(t,k))
  | (l,_)=>(0,(l,true))
def dataR:Cur→ByteArray × Cur
  | (a::b::t,k)=>if a.toNat * 256+b.toNat≤t.length then (baB (t.take (a.toNat * 256+b.toNat)),(t.drop (a.toNat * 256+b.toNat),k)) else (e0,(a::b::t,true))
  | (l,_)=>(e0,(l,true))
def textR (c:Cur):ByteArray × Cur:=if validL (bl (dataR c).1)=true then dataR c else (e0,(c.1,true))
def conR (c0:Cur):Pk × Cur :=
  let a:=textR c0
  let b:=oneR a.2
  let f:=oneR b.2
  let k:=wordR (f.2.1,f.2.2 || (a.1 != mqtt) || decide (f.1 % 2=1))
  let n:=textR k.2
  let wt:=if f.1 / 4 % 2=1 then textR n.2 else (e0,n.2)
  let wp:=if f.1 / 4 % 2=1 then dataR wt.2 else (e0,wt.2)
  let u:=if f.1 / 128 % 2=1 then textR wp.2 else (e0,wp.2)
  let s:=if f.1 / 64 % 2=1 then dataR u.2 else (e0,u.2)
  ({ Pk.zero with ty:=1,level:=b.1,clean:=decide (f.1 / 2 % 2=1),hasWill:=decide (f.1 / 4 % 2=1),wqos:=f.1 / 8 % 4,wret:=decide (f.1 / 32 % 2=1),hasPass:=decide (f.1 / 64 % 2=1),hasUser:=decide (f.1 / 128 % 2=1),keep:=k.1,client:=n.1,wtopic:=wt.1,wpayload:=wp.1,user:=u.1,pass:=s.1 },s.2)
def subsR (ty:Nat):Nat→Cur→List Sb→List Sb × Cur
  | 0,c,acc=>(acc,c)
  | f+1,c,acc=>if c.1=[]∨c.2=true then (acc,c) else
    let t:=textR c
    let q:=if ty=8 then oneR t.2 else (0,t.2)
    subsR ty f q.2 (acc++[(t.1,q.1)])
def allR (ty fl:Nat) (c:Cur):Pk × Cur :=
  if ty=1 then conR c
  else if ty=2 then
    let a:=oneR c
    let b:=oneR (a.2.1,a.2.2 || decide (1 < a.1))
    ({ Pk.zero with ty:=2,present:=decide (a.1=1),code:=b.1 },b.2)
  else if ty=3 then
    let t:=textR c
    let i:=if 0 < fl / 2 % 4 then wordR t.2 else (0,t.2)
    ({ Pk.zero with ty:=3,dup:=decide (fl / 8 % 2=1),qos:=fl / 2 % 4,ret:=decide (fl % 2=1),topic:=t.1,id:=i.1,payload:=baB i.2.1 },([],i.2.2))
  else if ty=12∨ty=13∨ty=14 then ({ Pk.zero with ty:=ty },c)
  else
    let i:=wordR c
    if ty=9 then ({ Pk.zero with ty:=ty,id:=i.1,codes:=baB i.2.1 },([],i.2.2))
    else if ty=8∨ty=10 then
      let s:=subsR ty (i.2.1.length+1) i.2 []
      ({ Pk.zero with ty:=ty,id:=i.1,subs:=s.1 },s.2)
    else ({ Pk.zero with ty:=ty,id:=i.1 },i.2)
def firstOk (b:Nat):Bool :=
  if b / 16=0∨b / 16=15 then false else if b / 16=3 then decide (b / 2 % 4 < 3)
  else if b / 16=6∨b / 16=8∨b / 16=10 then decide (b % 16=2) else decide (b % 16=0)
def lenRf:Nat→Nat→Nat→Nat→Bs→Nat × Nat × Nat
  | 0,_,_,_,_=>(0,0,4)
  | _+1,_,_,_,[]=>(0,0,2)
  | f+1,sc,acc,u,c::t=>if c.toNat < 128 then (acc+c.toNat % 128 * sc,u+1,0) else lenRf f (sc * 128) (acc+c.toNat % 128 * sc) (u+1) t
def lenR (L:Bs):Nat × Nat × Nat:=lenRf 4 1 0 0 L
def bodyR (b:Nat) (L:Bs):Pk × Nat :=
  if b / 16=1∧6 < L.length∧L.take 6=dataB mqtt∧L[6]?≠some 4 then ({ Pk.zero with ty:=1,level:=(L.getD 6 0).toNat },0)
  else
    let r:=allR (b / 16) (b % 16) (L,false)
    if r.2.2=true∨r.2.1≠[]∨restP r.1 < 0 then (Pk.zero,4) else (r.1,0)
def decR:Bs→Pk × Nat × Nat
  | []=>(Pk.zero,0,2)
  | b::t =>
    if firstOk b.toNat=false then (Pk.zero,0,4)
    else if (lenR t).2.2≠0 then (Pk.zero,0,(lenR t).2.2)
    else if t.length - (lenR t).2.1 < (lenR t).1 then (Pk.zero,0,2)
    else
      let r:=bodyR b.toNat ((t.drop (lenR t).2.1).take (lenR t).1)
      if r.2≠0 then (Pk.zero,0,r.2) else (r.1,1+(lenR t).2.1+(lenR t).1,0)
theorem byteN_nat (n:Nat) (h:n < 256):(byteN n).toNat=n:=by
  unfold byteN;rw [UInt8.toNat_ofNat'];omega
theorem oneR_byte (n:Nat) (h:n < 256) (r:Bs) (k:Bool):oneR (byteN n::r,k)=(n,(r,k)):=by
  show ((byteN n).toNat,(r,k))=_;rw [byteN_nat n h]
theorem wordR_word (n:Nat) (h:n < 65536) (r:Bs) (k:Bool):wordR (wordB n++r,k)=(n,(r,k)):=by
  show ((byteN (n / 256)).toNat * 256+(byteN (n % 256)).toNat,(r,k))=_;rw [byteN_nat _ (by omega),byteN_nat _ (by omega)];congr 1;omega
theorem dataR_data (s:ByteArray) (h:s.size≤65535) (r:Bs) (k:Bool):dataR (dataB s++r,k)=(s,(r,k)):=by
  have e:dataB s++r=byteN (s.size / 256)::byteN (s.size % 256)::(bl s++r):=rfl;rw [e];unfold dataR;have e2:(byteN (s.size / 256)).toNat * 256+(byteN (s.size % 256)).toNat=s.size:=by
    rw [byteN_nat _ (by omega),byteN_nat _ (by omega)];omega
  have e3:s.size=(bl s).length:=(blen s).symm;simp only [e2];rw [if_pos (by rw [List.length_append,blen];omega)];rw [e3,List.take_left,List.drop_left,baB_bl]
theorem textR_data (s:ByteArray) (h:validL (bl s)=true) (r:Bs) (k:Bool):textR (dataB s++r,k)=(s,(r,k)):=by
  have h2:=valid_some h;rw [blen] at h2;unfold textR;rw [dataR_data s h2,if_pos h]
theorem name_valid {s:Bs} (h:nameL s=true):validL s=true:=by
  unfold nameL at h;simp at h;exact h.1.2
theorem filter_valid {s:Bs} (h:filterL s=true):validL s=true:=by
  unfold filterL at h;simp at h;exact h.1.2
theorem flags_con:∀ (a b c d e:Bool) (q:Nat),q≤2→∀ f,f=bitN a 128+bitN b 64+bitN c 32+8 * q+bitN d 4+bitN e 2 →
    f < 256∧f % 2=0∧decide (f / 2 % 2=1)=e∧decide (f / 4 % 2=1)=d∧f / 8 % 4=q∧decide (f / 32 % 2=1)=c∧decide (f / 64 % 2=1)=b∧decide (f / 128 % 2=1)=a:=by
  intro a b c d e q hq f hf;subst hf;have:q=0∨q=1∨q=2:=by omega
  rcases this with rfl | rfl | rfl <;> revert a b c d e <;> decide
theorem flags_pub:∀ (a b:Bool) (q:Nat),q≤2→∀ f,f=bitN a 8+2 * q+bitN b 1→f < 16∧decide (f / 8 % 2=1)=a∧f / 2 % 4=q∧decide (f % 2=1)=b:=by
  intro a b q hq f hf;subst hf;have:q=0∨q=1∨q=2:=by omega
  rcases this with rfl | rfl | rfl <;> revert a b <;> decide
theorem mqtt_valid:validL (bl mqtt)=true:=by kernel_rfl
theorem con_fields {p:Pk} (h:connectOk p=true):p.level=4∧validL (bl p.client)=true∧willOk p=true∧userOk p=true∧passOk p=true∧validL (bl p.user)=true∧p.pass.size≤65535:=by
  unfold connectOk at h;simp only [Bool.and_eq_true,decide_eq_true_eq] at h;obtain ⟨⟨⟨⟨⟨⟨h1,h2⟩,h3⟩,h4⟩,h5⟩,h6⟩,h7⟩:=h;exact ⟨h1,h2,h3,h4,h5,h6,h7⟩
theorem conR_ok (p:Pk) (hp:PkOk p) (h1:p.ty=1) (h0:0≤restP p):conR (connectB p,false)=(p,([],false)):=by
  obtain ⟨h,_⟩:=con_parts h1 h0;obtain ⟨hl,hc,hw,hu,hs,hv,hz⟩:=con_fields h;have zz:=(zeros_iff p).1 (rest_bare h0);have z3:=zz.z3 (by omega);have z2:=zz.z2 (by omega);have z9:=zz.z9 (by omega);have zi:=zz.zi (by omega);have zs:=zz.zs (by omega) (by omega);have hq:p.wqos≤2:=by
    unfold willOk at hw;split at hw
    · simp only [Bool.and_eq_true,decide_eq_true_eq] at hw;exact hw.2
    · simp only [decide_eq_true_eq] at hw
      have:=hw.2.2.1;omega
  obtain ⟨f1,f2,f3,f4,f5,f6,f7,f8⟩:=flags_con p.hasUser p.hasPass p.wret p.hasWill p.clean p.wqos hq (conFlags p) rfl;have hk:=hp.keep;unfold conR connectB;simp only [List.append_assoc,List.cons_append,List.nil_append];rw [textR_data mqtt mqtt_valid];simp only [];rw [oneR_byte p.level (by omega)];simp only [];rw [oneR_byte _ f1];have e1:(false || (mqtt != mqtt) || decide (conFlags p % 2=1))=false:=by rw [f2];rfl
  simp only [e1];rw [wordR_word _ hk];simp only [];rw [textR_data _ hc];simp only [];have g4:(conFlags p / 4 % 2=1)=(p.hasWill=true):=by rw [← f4];simp
  have g8:(conFlags p / 128 % 2=1)=(p.hasUser=true):=by rw [← f8];simp
  have g7:(conFlags p / 64 % 2=1)=(p.hasPass=true):=by rw [← f7];simp
  simp only [f3,f5,f6,g4,g8,g7];clear f1 f2 f3 f4 f5 f6 f7 f8 g4 g8 g7 e1;have st1:∀ r,(if p.hasWill=true then textR ((if p.hasWill=true then dataB p.wtopic++dataB p.wpayload else [])++r,false) else (e0,((if p.hasWill=true then dataB p.wtopic++dataB p.wpayload else [])++r,false)))=(p.wtopic,((if p.hasWill=true then dataB p.wpayload else [])++r,false)):=by
    intro r;unfold willOk at hw;cases h:p.hasWill
    · rw [h] at hw
      simp only [Bool.false_eq_true,if_false,decide_eq_true_eq] at hw;simp [hw.1]
    · rw [h] at hw
      simp only [if_true,Bool.and_eq_true,decide_eq_true_eq] at hw;simp only [if_true,List.append_assoc];rw [textR_data _ (name_valid hw.1.1)]
  have st2:∀ r,(if p.hasWill=true then dataR ((if p.hasWill=true then dataB p.wpayload else [])++r,false) else (e0,((if p.hasWill=true then dataB p.wpayload else [])++r,false)))=(p.wpayload,(r,false)):=by
    intro r;unfold willOk at hw;cases h:p.hasWill
    · rw [h] at hw
      simp only [Bool.false_eq_true,if_false,decide_eq_true_eq] at hw;simp [hw.2.1]
    · rw [h] at hw
      simp only [if_true,Bool.and_eq_true,decide_eq_true_eq] at hw;simp only [if_true];rw [dataR_data _ hw.1.2]
  have st3:∀ r,(if p.hasUser=true then textR ((if p.hasUser=true then dataB p.user else [])++r,false) else (e0,((if p.hasUser=true then dataB p.user else [])++r,false)))=(p.user,(r,false)):=by
    intro r;unfold userOk at hu;cases h:p.hasUser
    · rw [h] at hu
      simp only [Bool.false_or,Bool.and_eq_true] at hu;simp [empty_bl _ hu.1]
    · simp only [if_true]
      rw [textR_data _ hv]
  have st4:(if p.hasPass=true then dataR ((if p.hasPass=true then dataB p.pass else []),false) else (e0,((if p.hasPass=true then dataB p.pass else []),false)))=(p.pass,(([]:Bs),false)):=by
    unfold passOk at hs;cases h:p.hasPass
    · rw [h] at hs
      simp only [Bool.false_or] at hs;simp [empty_bl _ hs]
    · simp only [if_true]
      have:=dataR_data p.pass hz [] false;rw [List.append_nil] at this;exact this
  rw [st1];simp only [];rw [st2];simp only [];rw [st3];simp only [];rw [st4];clear st1 st2 st3 st4 hw hu hs hv hz hq hk hc h h0 zz hp;obtain ⟨ty,dup,qos,ret,id,topic,payload,level,clean,keep,client,hasWill,wtopic,wpayload,wqos,wret,hasUser,hasPass,user,pass,present,code,subs,codes⟩:=p;simp only at *
  obtain ⟨rfl,rfl,rfl,rfl,rfl⟩:=z3;obtain ⟨rfl,rfl⟩:=z2;subst z9 zi zs h1 hl;cases hasWill <;> cases hasUser <;> cases hasPass <;> rfl
theorem subsR_ok (ty:Nat):∀ (S:List Sb) (f:Nat) (acc:List Sb),S.length < f→(∀ x ∈ S,validL (bl x.1)=true∧x.2 < 256∧(ty≠8→x.2=0))→subsR ty f (S.flatMap (subB ty),false) acc=(acc++S,([],false))
  | [],f,acc,hf,_=>by
    cases f with
    | zero=>simp [subsR]
    | succ f=>simp [subsR]
  | x::r,f,acc,hf,h=>by
    cases f with
    | zero=>simp at hf
    | succ f =>
      obtain ⟨hv,hq,h8⟩:=h x (by simp);have ih:=subsR_ok ty r f (acc++[x]) (by simp at hf;omega) (fun y hy=>h y (by simp [hy]));have hne:¬ (((x::r).flatMap (subB ty))=[]∨false=true):=by
        rw [List.flatMap_cons];unfold subB dataB wordB;simp
      unfold subsR;rw [if_neg hne];have e1:(x::r).flatMap (subB ty)=dataB x.1++((if ty=8 then [byteN x.2] else [])++r.flatMap (subB ty)):=by
        rw [List.flatMap_cons];unfold subB;rw [List.append_assoc]
      simp only [e1];rw [textR_data _ hv];simp only [];by_cases h:ty=8
      · simp only [if_pos h,List.singleton_append]
        rw [oneR_byte _ hq];simp only [];rw [ih];simp
      · simp only [if_neg h,List.nil_append]
        have e2:((x.1,0):Sb)=x:=by rw [← h8 h]
        rw [e2,ih];simp
theorem subs_parts {p:Pk} (h8:p.ty=8∨p.ty=10) (h0:0≤restP p):p.id≠0∧p.subs≠[]∧p.subs.all (subOk (mostN p))=true∧restP p=2+(subsLen (moreN p) p.subs:Int):=by
  have e:=rest_type h0;have ht:typeN p=subsN p:=by
    unfold typeN;rw [if_neg (by omega),if_neg (by omega),if_neg (by omega),if_neg (by omega),if_pos h8]
  rw [ht] at e;rw [e] at h0;rw [e];unfold subsN at *;split at h0
  · omega
  · rename_i h
    rw [if_neg h];split at h0
    · rename_i ha
      rw [if_pos ha];exact ⟨fun x=>h (Or.inl x),fun x=>h (Or.inr x),ha,rfl⟩
    · omega
theorem ids_parts {p:Pk} (h3:p.ty≠3) (hi:4≤p.ty∧p.ty≤11) (h0:0≤restP p):p.id≠0:=by
  have e:=rest_type h0;intro hid;rw [e] at h0;unfold typeN idN subsN codesN at h0;rw [if_neg (by omega),if_neg (by omega),if_neg (by omega)] at h0;simp [hid] at h0
  (repeat' split at h0) <;> omega
theorem allR_ok (p:Pk) (hp:PkOk p) (h0:0≤restP p):allR p.ty (flagsN p) (restB p,false)=(p,([],false)):=by
  have zz:=(zeros_iff p).1 (rest_bare h0);have hty:=rest_types h0;unfold allR restB;by_cases h1:p.ty=1
  · rw [if_pos h1,if_pos h1,conR_ok p hp h1 h0]
  rw [if_neg h1,if_neg h1];have z1:=zz.z1 h1;by_cases h2:p.ty=2
  · have z3:=zz.z3 (by omega)
    have z9:=zz.z9 (by omega);have zi:=zz.zi (by omega);have zs:=zz.zs (by omega) (by omega);have hc:=hp.code;rw [if_pos h2,if_pos h2];have hb:bitN p.present 1 < 256:=by unfold bitN;split <;> omega
    simp only [oneR_byte _ hb];have e1:(false || decide (1 < bitN p.present 1))=false:=by unfold bitN;cases p.present <;> rfl
    have e2:decide (bitN p.present 1=1)=p.present:=by unfold bitN;cases p.present <;> rfl
    simp only [e1,e2,oneR_byte _ hc];clear h0 hp zz hty e1 e2 hb hc;obtain ⟨ty,dup,qos,ret,id,topic,payload,level,clean,keep,client,hasWill,wtopic,wpayload,wqos,wret,hasUser,hasPass,user,pass,present,code,subs,codes⟩:=p;simp only at *
    obtain ⟨rfl,rfl,rfl,rfl,rfl⟩:=z3;obtain ⟨rfl,rfl,rfl,rfl,rfl,rfl,rfl,rfl,rfl,rfl,rfl,rfl,rfl⟩:=z1;subst z9 zi zs h2;rfl
  rw [if_neg h2,if_neg h2];have z2:=zz.z2 h2;unfold otherB;by_cases h3:p.ty=3
  · have z9:=zz.z9 (by omega)
    have zs:=zz.zs (by omega) (by omega);obtain ⟨hn,hq,hid⟩:=pub_parts h3 h0;have hi:=hp.id;obtain ⟨f1,f2,f3,f4⟩:=flags_pub p.dup p.ret p.qos hq (flagsN p) (by unfold flagsN;rw [if_pos h3]);rw [if_pos h3];simp only [if_pos h3,List.append_assoc];rw [textR_data _ (name_valid hn)];simp only [f2,f3,f4,z9,zs,e0_bl,List.flatMap_nil,List.nil_append];have e1:(if 0 < p.qos then wordR ((if p.id=0 then [] else wordB p.id)++bl p.payload,false) else (0,((if p.id=0 then [] else wordB p.id)++bl p.payload,false)))=(p.id,(bl p.payload,false)):=by
      rcases hid with ⟨q0,i0,_⟩ | ⟨q0,i0,_⟩
      · rw [if_neg (by omega),i0];rfl
      · rw [if_pos q0,if_neg (by omega),wordR_word _ hi]
    rw [e1];simp only [baB_bl];clear h0 hp zz hty e1 hi f1 f2 f3 f4 hid hn hq h1 h2;obtain ⟨ty,dup,qos,ret,id,topic,payload,level,clean,keep,client,hasWill,wtopic,wpayload,wqos,wret,hasUser,hasPass,user,pass,present,code,subs,codes⟩:=p;simp only at *
    obtain ⟨rfl,rfl,rfl,rfl,rfl,rfl,rfl,rfl,rfl,rfl,rfl,rfl,rfl⟩:=z1;obtain ⟨rfl,rfl⟩:=z2;subst z9 zs h3;rfl
  rw [if_neg h3];simp only [if_neg h3,List.nil_append];have z3:=zz.z3 h3;by_cases hd:p.ty=12∨p.ty=13∨p.ty=14
  · rw [if_pos hd]
    have z9:=zz.z9 (by omega);have zi:=zz.zi (by omega);have zs:=zz.zs (by omega) (by omega);simp only [zi,zs,z9,z3.2.2.2.2,e0_bl,if_true,List.flatMap_nil,List.append_nil];clear h0 hp zz hty h1 h2 h3 hd;obtain ⟨ty,dup,qos,ret,id,topic,payload,level,clean,keep,client,hasWill,wtopic,wpayload,wqos,wret,hasUser,hasPass,user,pass,present,code,subs,codes⟩:=p;simp only at *
    obtain ⟨rfl,rfl,rfl,rfl,rfl,rfl,rfl,rfl,rfl,rfl,rfl,rfl,rfl⟩:=z1;obtain ⟨rfl,rfl⟩:=z2;obtain ⟨rfl,rfl,rfl,rfl,rfl⟩:=z3;subst z9 zs zi;rfl
  rw [if_neg hd];have hid:=ids_parts h3 (by omega) h0;have hi:=hp.id;simp only [if_neg hid,List.append_assoc];rw [wordR_word _ hi];simp only [z3.2.2.2.2,e0_bl,List.append_nil];by_cases h9:p.ty=9
  · rw [if_pos h9]
    have zs:=zz.zs (by omega) (by omega);simp only [zs,List.flatMap_nil,List.nil_append,baB_bl];clear h0 hp zz hty h1 h2 h3 hd hid hi h9;obtain ⟨ty,dup,qos,ret,id,topic,payload,level,clean,keep,client,hasWill,wtopic,wpayload,wqos,wret,hasUser,hasPass,user,pass,present,code,subs,codes⟩:=p;simp only at *
    obtain ⟨rfl,rfl,rfl,rfl,rfl,rfl,rfl,rfl,rfl,rfl,rfl,rfl,rfl⟩:=z1;obtain ⟨rfl,rfl⟩:=z2;obtain ⟨rfl,rfl,rfl,rfl,rfl⟩:=z3;subst zs;rfl
  rw [if_neg h9];have z9:=zz.z9 h9;simp only [z9,e0_bl,List.append_nil];by_cases h8:p.ty=8∨p.ty=10
  · rw [if_pos h8]
    obtain ⟨_,_,hall,_⟩:=subs_parts h8 h0;have hS:∀ x ∈ p.subs,validL (bl x.1)=true∧x.2 < 256∧(p.ty≠8→x.2=0):=by
      intro x hx;have h5:=List.all_eq_true.1 hall x hx;unfold subOk at h5;simp only [Bool.and_eq_true,decide_eq_true_eq] at h5;refine ⟨filter_valid h5.1,(hp.each x hx).2,fun h=>?_⟩;have h10:p.ty=10:=by omega
      unfold mostN at h5;rw [if_pos h10] at h5;omega
    have hlen:p.subs.length < (p.subs.flatMap (subB p.ty)).length+1:=by
      rw [subsB_len];have:∀ (m:Nat) (S:List Sb),S.length≤subsLen m S:=by
        intro m S;unfold subsLen;induction S with
        | nil=>simp
        | cons x r ih=>simp only [List.length_cons,List.map_cons,List.sum_cons];omega
      have:=this (if p.ty=8 then 1 else 0) p.subs;omega
    have hr:=subsR_ok p.ty p.subs _ [] hlen hS;rw [hr];simp only [List.nil_append];clear h0 hp zz hty h1 h2 h3 hd hid hi h9 hall hS hlen hr h8;obtain ⟨ty,dup,qos,ret,id,topic,payload,level,clean,keep,client,hasWill,wtopic,wpayload,wqos,wret,hasUser,hasPass,user,pass,present,code,subs,codes⟩:=p;simp only at *
    obtain ⟨rfl,rfl,rfl,rfl,rfl,rfl,rfl,rfl,rfl,rfl,rfl,rfl,rfl⟩:=z1;obtain ⟨rfl,rfl⟩:=z2;obtain ⟨rfl,rfl,rfl,rfl,rfl⟩:=z3;subst z9;rfl
  · rw [if_neg h8]
    have zs:=zz.zs (by omega) (by omega);simp only [zs,List.flatMap_nil];clear h0 hp zz hty h1 h2 h3 hd hid hi h9 h8;obtain ⟨ty,dup,qos,ret,id,topic,payload,level,clean,keep,client,hasWill,wtopic,wpayload,wqos,wret,hasUser,hasPass,user,pass,present,code,subs,codes⟩:=p;simp only at *
    obtain ⟨rfl,rfl,rfl,rfl,rfl,rfl,rfl,rfl,rfl,rfl,rfl,rfl,rfl⟩:=z1;obtain ⟨rfl,rfl⟩:=z2;obtain ⟨rfl,rfl,rfl,rfl,rfl⟩:=z3;subst zs z9;rfl
theorem flags_lt' (p:Pk) (h:p.ty=3→p.qos≤2):flagsN p < 16:=by
  unfold flagsN bitN;split
  · rename_i h3
    have:=h h3
    (repeat' split) <;> omega
  · split <;> omega
theorem bodyR_ok (p:Pk) (hp:PkOk p) (h0:0≤restP p):bodyR (16 * p.ty+flagsN p) (restB p)=(p,0):=by
  have hty:=rest_types h0;have hq:p.ty=3→p.qos≤2:=fun h3=>(pub_parts h3 h0).2.1
  have hf:=flags_lt' p hq;have e1:(16 * p.ty+flagsN p) / 16=p.ty:=by omega
  have e2:(16 * p.ty+flagsN p) % 16=flagsN p:=by omega
  unfold bodyR;rw [e1,e2,allR_ok p hp h0];have hn:¬ (p.ty=1∧6 < (restB p).length∧(restB p).take 6=dataB mqtt∧(restB p)[6]?≠some 4):=by
    rintro ⟨h1,_,_,h4⟩;apply h4
    obtain ⟨hl,_⟩:=con_fields (con_parts h1 h0).1;unfold restB;rw [if_pos h1];unfold connectB;rw [hl];rfl
  rw [if_neg hn];simp only [];rw [if_neg (by simp;omega)]
end Go.Proofs.YtehpihmgjbmoaaaGreatDoor
