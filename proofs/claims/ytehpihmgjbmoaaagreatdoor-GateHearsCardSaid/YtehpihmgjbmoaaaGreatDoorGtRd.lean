import Derived.Test.YtehpihmgjbmoaaaGreatDoorGtHe
namespace Go.Proofs.YtehpihmgjbmoaaaGreatDoor
open Go.RowKit
attribute [local irreducible] Ok
abbrev Rdo:=Cn × List Ml × List Nt × Bool
def cutR (W:Nat) (c:Cn) (ops:Int):Rdo:=if c.st=3 then ({ c with st:=6 },[askM W 2 (ops+1) c Pk.zero],[askN (ops+1) c.num c.cl Pk.zero],true) else ({ c with st:=6 },[],[],true)
def freshR (W:Nat) (c:Cn) (p:Pk) (ops:Int):Rdo:=if freshA p=true then ({ hasCl c p with st:=2 },[askM W 1 (ops+1) (hasCl c p) p],[askN (ops+1) c.num p.client p],true) else (freshN c p,[],[],true)
def liveR (W:Nat) (c:Cn) (p:Pk) (ops:Int):Rdo :=
  if p.ty=12 then (sndC c [pingP],[],[],true)
  else if p.ty=14 then ({ c with st:=5,leaves:=ops+1 },[askM W 1 (ops+1) c p],[askN (ops+1) c.num c.cl p],true)
  else if liveA p=true then ({ c with st:=4 },[askM W 1 (ops+1) c p],[askN (ops+1) c.num c.cl p],true)
  else if liveB p=true then ({ c with st:=4 },[askM W 1 0 c p],[],true)
  else ({ c with st:=6 },[askM W 2 (ops+1) c Pk.zero],[askN (ops+1) c.num c.cl Pk.zero],true)
def nextC (m:Nat) (c:Cn):Cn:={ c with L:=(nxT m c.L c.e).2.2.2.1,e:=(nxT m c.L c.e).2.2.2.2 }
def mayR (c:Cn) (now:Int):Bool:=decide (0≤now) && (decide (now≤1099511627776) && (decide (c.st=1) || decide (c.st=3)))
def readC (m W:Nat) (c:Cn) (now ops:Int):Rdo :=
  if mayR c now=false then (c,[],[],false)
  else if (nxT m c.L c.e).2.2.1≠0 then cutR W (nextC m c) ops
  else if (nxT m c.L c.e).2.1=true then
    if c.st=3 then liveR W { nextC m c with last:=now } (nxT m c.L c.e).1 ops else freshR W { nextC m c with last:=now } (nxT m c.L c.e).1 ops
  else if overC (nextC m c) now=true then cutR W (nextC m c) ops else (nextC m c,[],[],false)
def readX (m W:Nat) (G:List Cn) (n now ops:Int):List Ml × List Nt × Bool:=match getG G n with
  | none=>([],[],false)
  | some c=>(readC m W c now ops).2
theorem freshN_num (c:Cn) (p:Pk):(freshN c p).num=c.num:=by unfold freshN;repeat (split <;> try rfl)
theorem freshN_L (c:Cn) (p:Pk):(freshN c p).L=c.L:=by unfold freshN;repeat (split <;> try rfl)
theorem freshN_e (c:Cn) (p:Pk):(freshN c p).e=c.e:=by unfold freshN;repeat (split <;> try rfl)
structure CnOk (m:Nat) (c:Cn):Prop where
  len:c.L.length≤90000000
  drain:c.drain.size≤1000000000000000
  sent:c.sent.size≤1000000000000000
  cl:c.cl.size≤1000000
  last0:0≤c.last
  last1:c.last≤1099511627776
  keep:c.keep≤100000
  p:PkOk (nxT m c.L c.e).1
  subs:(nxT m c.L c.e).1.subs.length≤100000000
set_option maxRecDepth 100000 in
set_option maxHeartbeats 4000000 in
theorem gate_Read {wb:World} {g W u m mb lg:Nat} {K:List CnG} {vl:Value} {T:List NtG} {ops:Int} (n now:Int) (hm:0 < m) (h0:0≤ops) (h1:ops≤100000) (hT:T.length≤10000) (hC:∀ c,getG (absK K) n=some c→CnOk m c):Spec Tryz.prog wb 15 #[.pointer (some ⟨g,0,none⟩),.int .i64 n,.int .i64 now,.pointer (some ⟨lg,0,none⟩)] [] [gtC g W u m mb K,lgC lg vl T ops] (fun y:{y:Value × List CnG × List MlG × Value × List NtG // absK y.2.1=modG (fun c=>(readC m W c now ops).1) (absK K) n∧y.2.2.1.map (·.1)=(readX m W (absK K) n now ops).1∧y.2.2.2.2.map (·.1)=T.map (·.1)++(readX m W (absK K) n now ops).2.1}=>.tuple #[y.1.1,.bool (readX m W (absK K) n now ops).2.2]) (fun _=>[]) (fun y=>[gtC g W u m mb y.1.2.1,mlK y.1.1 y.1.2.2.1,lgC lg y.1.2.2.2.1 y.1.2.2.2.2 (ops+((readX m W (absK K) n now ops).2.1.length:Int))]):=by
  obtain ⟨z,hz⟩:∃ z,readX m W (absK K) n now ops=z:=⟨_,rfl⟩
  rw [hz];intro w H;refine en_call Tryz.func15 H ?_;refine en E0 (eC 4 []) ?_;refine en_spec0 (gate_find (g:=g) (W:=W) (u:=u) (m:=m) (mb:=mb) (K:=K) n) [] [0] [] ?_;cases hK:getK K n
  · refine en E0 (eC 27 []) ?_
    refine en_row0 51 40 ?_;refine en_new0 (many []) ?_ (fun _=>⟨fun c hc=>(by cases hc),List.Pairwise.nil⟩) (fun j ⟨c,hc,_⟩=>(by cases hc));refine en_pack [1,0] (mlK (.slice none 0 0) []) _ ?_;have eq1:z=([],[],false):=by rw [← hz];unfold readX;rw [get_abs,hK];rfl
    subst eq1;refine en_word 2 (lgC lg vl T ops) (lgC lg vl T (ops+((([]:List Nt).length:Nat):Int))) (by rw [show ops+((([]:List Nt).length:Nat):Int)=ops by simp]) ?_;exact en_rets ⟨(Value.slice none 0 0,K,[],vl,T),abs_none hK,rfl,by simp⟩ [] [2,1,0] []
  · rename_i c
    obtain ⟨A,B,rfl,hcn,hA⟩:=get_split hK;obtain ⟨c,b,x,v⟩:=c;simp only at hcn
    have hg:getG (absK (A++(c,b,x,v)::B)) n=some c:=by rw [get_abs,hK];rfl
    have hok:=hC c hg;clear hC;refine en_unpack 0 (gtC g W u m mb (A++(c,b,x,v)::B)) _ ?_;refine en_open 0 ⟨g,gtL W u m mb,82⟩ ?_;refine en_out 1 (many ((A++(c,b,x,v)::B).map (cnC m))) (cnC m (c,b,x,v)) ((A++(c,b,x,v)::B).map (cnC m)) ((A++B).map (cnC m)) (cn_out m (c,b,x,v) A B) ?_;refine en_unpack 0 (cnC m (c,b,x,v)) _ ?_;refine en_open 0 ⟨b,cnL c x,93⟩ ?_;by_cases t1:now < 0
    · have hmay:mayR c now=false:=by simp only [mayR,Bool.and_eq_false_iff,Bool.or_eq_false_iff,decide_eq_false_iff_not];omega
      refine en (EF [(.bool (decide (((now):Int) < 0)),.bool true)] ⟨dcT (by omega),trivial⟩) (eC 5 (.f 0::eC 21 [])) ?_;have hr:readC m W c now ops=(c,[],[],false):=by unfold readC;rw [if_pos hmay]
      refine en_shut 0 ⟨g,gtL W u m mb,82⟩ ?_;refine gc_shut g W u m mb b x v v A c c B rfl [0] [1,1,1,0] ?_;refine en_row0 51 40 ?_;refine en_new0 (many []) ?_ (fun _=>⟨fun c hc=>(by cases hc),List.Pairwise.nil⟩) (fun j ⟨c,hc,_⟩=>(by cases hc));refine en_pack [1,0] (mlK (.slice none 0 0) []) _ ?_;have eq1:z=([],[],false):=by rw [← hz];unfold readX;rw [hg];simp only [hr]
      subst eq1;refine en_word 2 (lgC lg vl T ops) (lgC lg vl T (ops+((([]:List Nt).length:Nat):Int))) (by rw [show ops+((([]:List Nt).length:Nat):Int)=ops by simp]) ?_;exact en_rets ⟨(Value.slice none 0 0,(A++(c,b,x,v)::B),[],vl,T),abs_mod (fun c=>(readC m W c now ops).1) hcn (by rw [hr]) A hA,rfl,by simp⟩ [] [2,1,0] []
    by_cases t2:now > 1099511627776
    · have hmay:mayR c now=false:=by simp only [mayR,Bool.and_eq_false_iff,Bool.or_eq_false_iff,decide_eq_false_iff_not];omega
      refine en (EF [(.bool (decide (((now):Int) < 0)),.bool false),(.bool (decide (((now):Int) > 1099511627776)),.bool true)] ⟨dcF (by omega),dcT (by omega),trivial⟩) (eC 5 (.f 0::eC 3 (.f 1::eC 17 []))) ?_;have hr:readC m W c now ops=(c,[],[],false):=by unfold readC;rw [if_pos hmay]
      refine en_shut 0 ⟨g,gtL W u m mb,82⟩ ?_;refine gc_shut g W u m mb b x v v A c c B rfl [0] [1,1,1,0] ?_;refine en_row0 51 40 ?_;refine en_new0 (many []) ?_ (fun _=>⟨fun c hc=>(by cases hc),List.Pairwise.nil⟩) (fun j ⟨c,hc,_⟩=>(by cases hc));refine en_pack [1,0] (mlK (.slice none 0 0) []) _ ?_;have eq1:z=([],[],false):=by rw [← hz];unfold readX;rw [hg];simp only [hr]
      subst eq1;refine en_word 2 (lgC lg vl T ops) (lgC lg vl T (ops+((([]:List Nt).length:Nat):Int))) (by rw [show ops+((([]:List Nt).length:Nat):Int)=ops by simp]) ?_;exact en_rets ⟨(Value.slice none 0 0,(A++(c,b,x,v)::B),[],vl,T),abs_mod (fun c=>(readC m W c now ops).1) hcn (by rw [hr]) A hA,rfl,by simp⟩ [] [2,1,0] []
    by_cases t3:c.st≠1∧c.st≠3
    · have hmay:mayR c now=false:=by simp only [mayR,Bool.and_eq_false_iff,Bool.or_eq_false_iff,decide_eq_false_iff_not];omega
      refine en (EF [(.bool (decide (((now):Int) < 0)),.bool false),(.bool (decide (((now):Int) > 1099511627776)),.bool false),(.bool ((((c.st:Int)):Int) != 1),.bool true),(.bool ((((c.st:Int)):Int) != 3),.bool true)] ⟨dcF (by omega),dcF (by omega),neI (by omega),neI (by omega),trivial⟩) (eC 5 (.f 0::eC 3 (.f 1::eC 5 (.b 1 1::.f 2::eC 4 (.b 1 1::.f 3::eC 4 []))))) ?_;have hr:readC m W c now ops=(c,[],[],false):=by unfold readC;rw [if_pos hmay]
      refine en_shut 0 ⟨g,gtL W u m mb,82⟩ ?_;refine gc_shut g W u m mb b x v v A c c B rfl [0] [1,1,1,0] ?_;refine en_row0 51 40 ?_;refine en_new0 (many []) ?_ (fun _=>⟨fun c hc=>(by cases hc),List.Pairwise.nil⟩) (fun j ⟨c,hc,_⟩=>(by cases hc));refine en_pack [1,0] (mlK (.slice none 0 0) []) _ ?_;have eq1:z=([],[],false):=by rw [← hz];unfold readX;rw [hg];simp only [hr]
      subst eq1;refine en_word 2 (lgC lg vl T ops) (lgC lg vl T (ops+((([]:List Nt).length:Nat):Int))) (by rw [show ops+((([]:List Nt).length:Nat):Int)=ops by simp]) ?_;exact en_rets ⟨(Value.slice none 0 0,(A++(c,b,x,v)::B),[],vl,T),abs_mod (fun c=>(readC m W c now ops).1) hcn (by rw [hr]) A hA,rfl,by simp⟩ [] [2,1,0] []
    have hmay:¬ mayR c now=false:=by simp only [mayR,Bool.and_eq_false_iff,Bool.or_eq_false_iff,decide_eq_false_iff_not];omega
    rcases hx:nxT m c.L c.e with ⟨p,ok,e1,L1,e2⟩
    have HN:=frame_NextS (wb:=wb) (x:=x) (m:=m) (e:=c.e) (v:=v) (L:=c.L) hm hok.len;rw [hx] at HN;have hp:=hok.p;have hps:=hok.subs;rw [hx] at hp hps;simp only at hp hps
    obtain ⟨hol,hod,hos,hoc,hl0,hl1,hok1,_,_⟩:=hok;have hnc:nextC m c=({ c with L:=L1,e:=e2 }:Cn):=by unfold nextC;rw [hx]
    have hra:readC m W c now ops=(if e1≠0 then cutR W ({ c with L:=L1,e:=e2 }:Cn) ops else if ok=true then (if c.st=3 then liveR W { ({ c with L:=L1,e:=e2 }:Cn) with last:=now } p ops else freshR W { ({ c with L:=L1,e:=e2 }:Cn) with last:=now } p ops) else if overC ({ c with L:=L1,e:=e2 }:Cn) now=true then cutR W ({ c with L:=L1,e:=e2 }:Cn) ops else (({ c with L:=L1,e:=e2 }:Cn),[],[],false)):=by unfold readC;rw [if_neg hmay,hx,hnc]
    by_cases t4:c.st=3
    · have h3:c.st=3:=t4
      refine en1 (EF [(.bool (decide (((now):Int) < 0)),.bool false),(.bool (decide (((now):Int) > 1099511627776)),.bool false),(.bool ((((c.st:Int)):Int) != 1),.bool true),(.bool ((((c.st:Int)):Int) != 3),.bool false),(.bool ((((c.st:Int)):Int) == 3),.bool true)] ⟨dcF (by omega),dcF (by omega),neI (by omega),neI' (by omega),eqI (by omega),trivial⟩) (eC 5 (.f 0::eC 3 (.f 1::eC 5 (.b 1 1::.f 2::eC 4 (.b 1 1::.f 3::eC 6 (.b 0 0::.c::.c::.x::eC 7 (.b 1 1::.f 4::eC 6 [.b 1 2]))))))) fun t=>?_
      refine en_spec (HN) [] [0] [] (fun y=>?_);obtain ⟨v2,a',c'⟩:=y;cases ok
      · refine en_row0 51 40 ?_
        refine en_new0 (many []) ?_ (fun _=>⟨fun c hc=>(by cases hc),List.Pairwise.nil⟩) (fun j ⟨c,hc,_⟩=>(by cases hc));refine en_pack [1,0] (mlK (.slice none 0 0) []) _ ?_;by_cases he:e1≠0
        · refine en1 (EF [(.bool ((((e1:Int)):Int) != 0),.bool true)] ⟨neI (by omega),trivial⟩) (eC 4 (.n::.s 3 0::eC 3 [.f 0,.c,.c])) fun X2=>?_
          have h31:({ c with L:=L1,e:=e2 }:Cn).st=3:=h3;have h32:({ c with L:=L1,e:=e2 }:Cn).cl.size≤1000000:=hoc;refine en_spec (turn_cutL (t:=t) (b:=b) (x:=x) (W:=W) (lg:=lg) (c:=({ c with L:=L1,e:=e2 }:Cn)) (v:=.slice none 0 0) (vl:=vl) (M:=[]) (T:=T) (ops:=ops) h32 (by decide) h0 h1 hT h31) [2,1] [0,4] [] (fun y=>?_);obtain ⟨vm,vl',y⟩:=y;refine en E0 (eC 3 [.b 0 3,.c,.c]) ?_;have hr:readC m W c now ops=({ ({ c with L:=L1,e:=e2 }:Cn) with st:=6 },[askM W 2 (ops+1) ({ c with L:=L1,e:=e2 }:Cn) Pk.zero],[askN (ops+1) ({ c with L:=L1,e:=e2 }:Cn).num ({ c with L:=L1,e:=e2 }:Cn).cl Pk.zero],true):=by
            refine hra.trans ?_;rw [if_pos he];unfold cutR;rw [if_pos h31]
          refine en_shut 2 ⟨g,gtL W u m mb,82⟩ ?_;refine gc_shut g W u m mb b x v v2 A c ({ ({ c with L:=L1,e:=e2 }:Cn) with st:=6 }) B rfl [1] [3,4,4,0] ?_;have eq1:z=([askM W 2 (ops+1) ({ c with L:=L1,e:=e2 }:Cn) Pk.zero],[askN (ops+1) c.num c.cl Pk.zero],true):=by rw [← hz];unfold readX;rw [hg];simp only [hr]
          subst eq1;exact en_rets ⟨(vm,(A++({ ({ c with L:=L1,e:=e2 }:Cn) with st:=6 },b,x,v2)::B),[(askM W 2 (ops+1) ({ c with L:=L1,e:=e2 }:Cn) Pk.zero,none,0)],vl',T++[(askN (ops+1) c.num c.cl Pk.zero,y)]),abs_mod (fun c=>(readC m W c now ops).1) hcn (by rw [hr]) A hA,rfl,by simp⟩ [] [0,0,0] []
        refine en1 (EF [(.bool ((((e1:Int)):Int) != 0),.bool false)] ⟨neI' (by omega),trivial⟩) (eC 4 (.n::.s 3 0::eC 3 (.f 0::eC 5 []))) fun X2=>?_
        cases ho:overC ({ c with L:=L1,e:=e2 }:Cn) now
        · have HO:=turn_over (wb:=wb) (t:=t) (b:=b) (x:=x) (W:=W) (lg:=lg) (c:=({ c with L:=L1,e:=e2 }:Cn)) (v:=.slice none 0 0) (now:=now) (by omega) (by omega) hl0 hl1 hok1
          rw [ho] at HO;refine en_spec0 (HO) [2,1] [] [] ?_;refine en E0 (eC 3 []) ?_;have hr:readC m W c now ops=(({ c with L:=L1,e:=e2 }:Cn),[],[],false):=by
            refine hra.trans ?_;rw [if_neg he,if_neg (by decide),if_neg (by rw [ho];decide)]
          refine en_shut 2 ⟨g,gtL W u m mb,82⟩ ?_;refine gc_shut g W u m mb b x v v2 A c (({ c with L:=L1,e:=e2 }:Cn)) B rfl [1] [2,3,3,0] ?_;have eq1:z=([],[],false):=by rw [← hz];unfold readX;rw [hg];simp only [hr]
          subst eq1;refine en_word 3 (lgC lg vl T ops) (lgC lg vl T (ops+((([]:List Nt).length:Nat):Int))) (by rw [show ops+((([]:List Nt).length:Nat):Int)=ops by simp]) ?_;exact en_rets ⟨(Value.slice none 0 0,(A++(({ c with L:=L1,e:=e2 }:Cn),b,x,v2)::B),[],vl,T),abs_mod (fun c=>(readC m W c now ops).1) hcn (by rw [hr]) A hA,rfl,by simp⟩ [] [1,1,0] []
        · have HO:=turn_over (wb:=wb) (t:=t) (b:=b) (x:=x) (W:=W) (lg:=lg) (c:=({ c with L:=L1,e:=e2 }:Cn)) (v:=.slice none 0 0) (now:=now) (by omega) (by omega) hl0 hl1 hok1
          rw [ho] at HO;refine en_spec0 (HO) [2,1] [] [] ?_;refine en E0 [.c,.c] ?_;have h31:({ c with L:=L1,e:=e2 }:Cn).st=3:=h3;have h32:({ c with L:=L1,e:=e2 }:Cn).cl.size≤1000000:=hoc;refine en_spec (turn_cutL (t:=t) (b:=b) (x:=x) (W:=W) (lg:=lg) (c:=({ c with L:=L1,e:=e2 }:Cn)) (v:=.slice none 0 0) (vl:=vl) (M:=[]) (T:=T) (ops:=ops) h32 (by decide) h0 h1 hT h31) [0,0] [0,4] [] (fun y=>?_);obtain ⟨vm,vl',y⟩:=y;refine en E0 (eC 3 [.b 0 3,.c,.c]) ?_;have hr:readC m W c now ops=({ ({ c with L:=L1,e:=e2 }:Cn) with st:=6 },[askM W 2 (ops+1) ({ c with L:=L1,e:=e2 }:Cn) Pk.zero],[askN (ops+1) ({ c with L:=L1,e:=e2 }:Cn).num ({ c with L:=L1,e:=e2 }:Cn).cl Pk.zero],true):=by
            refine hra.trans ?_;rw [if_neg he,if_neg (by decide),if_pos ho];unfold cutR;rw [if_pos h31]
          refine en_shut 2 ⟨g,gtL W u m mb,82⟩ ?_;refine gc_shut g W u m mb b x v v2 A c ({ ({ c with L:=L1,e:=e2 }:Cn) with st:=6 }) B rfl [1] [3,4,4,0] ?_;have eq1:z=([askM W 2 (ops+1) ({ c with L:=L1,e:=e2 }:Cn) Pk.zero],[askN (ops+1) c.num c.cl Pk.zero],true):=by rw [← hz];unfold readX;rw [hg];simp only [hr]
          subst eq1;exact en_rets ⟨(vm,(A++({ ({ c with L:=L1,e:=e2 }:Cn) with st:=6 },b,x,v2)::B),[(askM W 2 (ops+1) ({ c with L:=L1,e:=e2 }:Cn) Pk.zero,none,0)],vl',T++[(askN (ops+1) c.num c.cl Pk.zero,y)]),abs_mod (fun c=>(readC m W c now ops).1) hcn (by rw [hr]) A hA,rfl,by simp⟩ [] [0,0,0] []
      · refine en_row0 51 40 ?_
        refine en_new0 (many []) ?_ (fun _=>⟨fun c hc=>(by cases hc),List.Pairwise.nil⟩) (fun j ⟨c,hc,_⟩=>(by cases hc));refine en_pack [1,0] (mlK (.slice none 0 0) []) _ ?_;by_cases he:e1≠0
        · refine en1 (EF [(.bool ((((e1:Int)):Int) != 0),.bool true)] ⟨neI (by omega),trivial⟩) (eC 4 (.n::.s 3 0::eC 3 [.f 0,.c,.c])) fun X2=>?_
          have h31:({ c with L:=L1,e:=e2 }:Cn).st=3:=h3;have h32:({ c with L:=L1,e:=e2 }:Cn).cl.size≤1000000:=hoc;refine en_spec (turn_cutL (t:=t) (b:=b) (x:=x) (W:=W) (lg:=lg) (c:=({ c with L:=L1,e:=e2 }:Cn)) (v:=.slice none 0 0) (vl:=vl) (M:=[]) (T:=T) (ops:=ops) h32 (by decide) h0 h1 hT h31) [2,1] [0,4] [] (fun y=>?_);obtain ⟨vm,vl',y⟩:=y;refine en E0 (eC 3 [.b 0 3,.c,.c]) ?_;have hr:readC m W c now ops=({ ({ c with L:=L1,e:=e2 }:Cn) with st:=6 },[askM W 2 (ops+1) ({ c with L:=L1,e:=e2 }:Cn) Pk.zero],[askN (ops+1) ({ c with L:=L1,e:=e2 }:Cn).num ({ c with L:=L1,e:=e2 }:Cn).cl Pk.zero],true):=by
            refine hra.trans ?_;rw [if_pos he];unfold cutR;rw [if_pos h31]
          refine en_shut 2 ⟨g,gtL W u m mb,82⟩ ?_;refine gc_shut g W u m mb b x v v2 A c ({ ({ c with L:=L1,e:=e2 }:Cn) with st:=6 }) B rfl [1] [3,4,4,0] ?_;have eq1:z=([askM W 2 (ops+1) ({ c with L:=L1,e:=e2 }:Cn) Pk.zero],[askN (ops+1) c.num c.cl Pk.zero],true):=by rw [← hz];unfold readX;rw [hg];simp only [hr]
          subst eq1;exact en_rets ⟨(vm,(A++({ ({ c with L:=L1,e:=e2 }:Cn) with st:=6 },b,x,v2)::B),[(askM W 2 (ops+1) ({ c with L:=L1,e:=e2 }:Cn) Pk.zero,none,0)],vl',T++[(askN (ops+1) c.num c.cl Pk.zero,y)]),abs_mod (fun c=>(readC m W c now ops).1) hcn (by rw [hr]) A hA,rfl,by simp⟩ [] [0,0,0] []
        refine en1 (EF [(.bool ((((e1:Int)):Int) != 0),.bool false)] ⟨neI' (by omega),trivial⟩) (eC 4 (.n::.s 3 0::eC 3 (.f 0::eC 7 [.s 1 6,.c,.b 3 0]))) fun X2=>?_
        have h31:({ c with L:=L1,e:=e2,last:=now }:Cn).st=c.st:=rfl;have h32:({ c with L:=L1,e:=e2,last:=now }:Cn).cl.size≤1000000:=hoc;have h33:({ c with L:=L1,e:=e2,last:=now }:Cn).drain.size≤1000000000000000:=hod;have h34:({ c with L:=L1,e:=e2,last:=now }:Cn).sent.size≤1000000000000000:=hos;have h3c:({ c with L:=L1,e:=e2,last:=now }:Cn).st=3:=by rw [h31];exact t4
        by_cases t12:p.ty=12
        · refine en_spec0 (turn_liveP (t:=t) (b:=b) (x:=x) (W:=W) (lg:=lg) (c:=({ c with L:=L1,e:=e2,last:=now }:Cn)) (v:=.slice none 0 0) (p:=p) (a:=a') (c2:=c') t12 h33 h34) [2,1] [] [] ?_
          refine en E0 (eC 3 [.b 0 3,.c,.c]) ?_;have hr:readC m W c now ops=(sndC ({ c with L:=L1,e:=e2,last:=now }:Cn) [pingP],[],[],true):=by
            refine hra.trans ?_;rw [if_neg he,if_pos rfl,if_pos t4];unfold liveR;rw [if_pos t12]
          refine en_word 1 (frC x m v2 L1 e2) (frC x m v2 (sndC ({ c with L:=L1,e:=e2,last:=now }:Cn) [pingP]).L (sndC ({ c with L:=L1,e:=e2,last:=now }:Cn) [pingP]).e) (rfl) ?_;refine en_shut 2 ⟨g,gtL W u m mb,82⟩ ?_;refine gc_shut g W u m mb b x v v2 A c (sndC ({ c with L:=L1,e:=e2,last:=now }:Cn) [pingP]) B rfl [1] [1,3,3,0] ?_;have eq1:z=([],[],true):=by rw [← hz];unfold readX;rw [hg];simp only [hr]
          subst eq1;refine en_word 3 (lgC lg vl T ops) (lgC lg vl T (ops+((([]:List Nt).length:Nat):Int))) (by rw [show ops+((([]:List Nt).length:Nat):Int)=ops by simp]) ?_;exact en_rets ⟨(Value.slice none 0 0,(A++(sndC ({ c with L:=L1,e:=e2,last:=now }:Cn) [pingP],b,x,v2)::B),[],vl,T),abs_mod (fun c=>(readC m W c now ops).1) hcn (by rw [hr]) A hA,rfl,by simp⟩ [] [1,1,0] []
        by_cases t14:p.ty=14
        · refine en_spec (turn_liveD (t:=t) (b:=b) (x:=x) (W:=W) (lg:=lg) (c:=({ c with L:=L1,e:=e2,last:=now }:Cn)) (v:=.slice none 0 0) (vl:=vl) (M:=[]) (T:=T) (ops:=ops) (p:=p) (a:=a') (c2:=c') t14 h32 (by decide) h0 h1 hT hps) [2,1] [0,4,1] [] (fun y=>?_)
          obtain ⟨vm,vl',y⟩:=y;refine en E0 (eC 3 [.b 0 3,.c,.c]) ?_;have hr:readC m W c now ops=({ ({ c with L:=L1,e:=e2,last:=now }:Cn) with st:=5,leaves:=ops+1 },[askM W 1 (ops+1) ({ c with L:=L1,e:=e2,last:=now }:Cn) p],[askN (ops+1) ({ c with L:=L1,e:=e2,last:=now }:Cn).num ({ c with L:=L1,e:=e2,last:=now }:Cn).cl p],true):=by
            refine hra.trans ?_;rw [if_neg he,if_pos rfl,if_pos t4];unfold liveR;rw [if_neg t12,if_pos t14]
          refine en_shut 2 ⟨g,gtL W u m mb,82⟩ ?_;refine gc_shut g W u m mb b x v v2 A c ({ ({ c with L:=L1,e:=e2,last:=now }:Cn) with st:=5,leaves:=ops+1 }) B rfl [1] [3,3,3,0] ?_;have eq1:z=([askM W 1 (ops+1) ({ c with L:=L1,e:=e2,last:=now }:Cn) p],[askN (ops+1) ({ c with L:=L1,e:=e2,last:=now }:Cn).num ({ c with L:=L1,e:=e2,last:=now }:Cn).cl p],true):=by rw [← hz];unfold readX;rw [hg];simp only [hr]
          subst eq1;exact en_rets ⟨(vm,(A++({ ({ c with L:=L1,e:=e2,last:=now }:Cn) with st:=5,leaves:=ops+1 },b,x,v2)::B),[(askM W 1 (ops+1) ({ c with L:=L1,e:=e2,last:=now }:Cn) p,a',c')],vl',T++[(askN (ops+1) ({ c with L:=L1,e:=e2,last:=now }:Cn).num ({ c with L:=L1,e:=e2,last:=now }:Cn).cl p,y)]),abs_mod (fun c=>(readC m W c now ops).1) hcn (by rw [hr]) A hA,rfl,by simp⟩ [] [0,0,0] []
        by_cases tA:liveA p=true
        · refine en_spec (turn_liveA (t:=t) (b:=b) (x:=x) (W:=W) (lg:=lg) (c:=({ c with L:=L1,e:=e2,last:=now }:Cn)) (v:=.slice none 0 0) (vl:=vl) (M:=[]) (T:=T) (ops:=ops) (p:=p) (a:=a') (c2:=c') tA h32 (by decide) h0 h1 hT hps) [2,1] [0,4,1] [] (fun y=>?_)
          obtain ⟨vm,vl',y⟩:=y;refine en E0 (eC 3 [.b 0 3,.c,.c]) ?_;have hr:readC m W c now ops=({ ({ c with L:=L1,e:=e2,last:=now }:Cn) with st:=4 },[askM W 1 (ops+1) ({ c with L:=L1,e:=e2,last:=now }:Cn) p],[askN (ops+1) ({ c with L:=L1,e:=e2,last:=now }:Cn).num ({ c with L:=L1,e:=e2,last:=now }:Cn).cl p],true):=by
            refine hra.trans ?_;rw [if_neg he,if_pos rfl,if_pos t4];unfold liveR;rw [if_neg t12,if_neg t14,if_pos tA]
          refine en_shut 2 ⟨g,gtL W u m mb,82⟩ ?_;refine gc_shut g W u m mb b x v v2 A c ({ ({ c with L:=L1,e:=e2,last:=now }:Cn) with st:=4 }) B rfl [1] [3,3,3,0] ?_;have eq1:z=([askM W 1 (ops+1) ({ c with L:=L1,e:=e2,last:=now }:Cn) p],[askN (ops+1) ({ c with L:=L1,e:=e2,last:=now }:Cn).num ({ c with L:=L1,e:=e2,last:=now }:Cn).cl p],true):=by rw [← hz];unfold readX;rw [hg];simp only [hr]
          subst eq1;exact en_rets ⟨(vm,(A++({ ({ c with L:=L1,e:=e2,last:=now }:Cn) with st:=4 },b,x,v2)::B),[(askM W 1 (ops+1) ({ c with L:=L1,e:=e2,last:=now }:Cn) p,a',c')],vl',T++[(askN (ops+1) ({ c with L:=L1,e:=e2,last:=now }:Cn).num ({ c with L:=L1,e:=e2,last:=now }:Cn).cl p,y)]),abs_mod (fun c=>(readC m W c now ops).1) hcn (by rw [hr]) A hA,rfl,by simp⟩ [] [0,0,0] []
        by_cases tB:liveB p=true
        · refine en_spec (turn_liveB (t:=t) (b:=b) (x:=x) (W:=W) (lg:=lg) (c:=({ c with L:=L1,e:=e2,last:=now }:Cn)) (v:=.slice none 0 0) (M:=[]) (p:=p) (a:=a') (c2:=c') tB h32 (by decide)) [2,1] [0,1] [] (fun vm=>?_)
          refine en E0 (eC 3 [.b 0 3,.c,.c]) ?_;have hr:readC m W c now ops=({ ({ c with L:=L1,e:=e2,last:=now }:Cn) with st:=4 },[askM W 1 0 ({ c with L:=L1,e:=e2,last:=now }:Cn) p],[],true):=by
            refine hra.trans ?_;rw [if_neg he,if_pos rfl,if_pos t4];unfold liveR;rw [if_neg t12,if_neg t14,if_neg tA,if_pos tB]
          refine en_shut 2 ⟨g,gtL W u m mb,82⟩ ?_;refine gc_shut g W u m mb b x v v2 A c ({ ({ c with L:=L1,e:=e2,last:=now }:Cn) with st:=4 }) B rfl [1] [2,2,2,0] ?_;have eq1:z=([askM W 1 0 ({ c with L:=L1,e:=e2,last:=now }:Cn) p],[],true):=by rw [← hz];unfold readX;rw [hg];simp only [hr]
          subst eq1;refine en_word 2 (lgC lg vl T ops) (lgC lg vl T (ops+((([]:List Nt).length:Nat):Int))) (by rw [show ops+((([]:List Nt).length:Nat):Int)=ops by simp]) ?_;exact en_rets ⟨(vm,(A++({ ({ c with L:=L1,e:=e2,last:=now }:Cn) with st:=4 },b,x,v2)::B),[(askM W 1 0 ({ c with L:=L1,e:=e2,last:=now }:Cn) p,a',c')],vl,T),abs_mod (fun c=>(readC m W c now ops).1) hcn (by rw [hr]) A hA,rfl,by simp⟩ [] [1,1,0] []
        refine en_spec (turn_liveC (t:=t) (b:=b) (x:=x) (W:=W) (lg:=lg) (c:=({ c with L:=L1,e:=e2,last:=now }:Cn)) (v:=.slice none 0 0) (vl:=vl) (M:=[]) (T:=T) (ops:=ops) (p:=p) (a:=a') (c2:=c') t12 t14 (by simpa using tA) (by simpa using tB) h3c h32 (by decide) h0 h1 hT) [2,1] [0,4] [] (fun y=>?_);obtain ⟨vm,vl',y⟩:=y;refine en E0 (eC 3 [.b 0 3,.c,.c]) ?_;have hr:readC m W c now ops=({ ({ c with L:=L1,e:=e2,last:=now }:Cn) with st:=6 },[askM W 2 (ops+1) ({ c with L:=L1,e:=e2,last:=now }:Cn) Pk.zero],[askN (ops+1) ({ c with L:=L1,e:=e2,last:=now }:Cn).num ({ c with L:=L1,e:=e2,last:=now }:Cn).cl Pk.zero],true):=by
          refine hra.trans ?_;rw [if_neg he,if_pos rfl,if_pos t4];unfold liveR;rw [if_neg t12,if_neg t14,if_neg tA,if_neg tB]
        refine en_shut 2 ⟨g,gtL W u m mb,82⟩ ?_;refine gc_shut g W u m mb b x v v2 A c ({ ({ c with L:=L1,e:=e2,last:=now }:Cn) with st:=6 }) B rfl [1] [3,4,4,0] ?_;have eq1:z=([askM W 2 (ops+1) ({ c with L:=L1,e:=e2,last:=now }:Cn) Pk.zero],[askN (ops+1) ({ c with L:=L1,e:=e2,last:=now }:Cn).num ({ c with L:=L1,e:=e2,last:=now }:Cn).cl Pk.zero],true):=by rw [← hz];unfold readX;rw [hg];simp only [hr]
        subst eq1;exact en_rets ⟨(vm,(A++({ ({ c with L:=L1,e:=e2,last:=now }:Cn) with st:=6 },b,x,v2)::B),[(askM W 2 (ops+1) ({ c with L:=L1,e:=e2,last:=now }:Cn) Pk.zero,none,0)],vl',T++[(askN (ops+1) ({ c with L:=L1,e:=e2,last:=now }:Cn).num ({ c with L:=L1,e:=e2,last:=now }:Cn).cl Pk.zero,y)]),abs_mod (fun c=>(readC m W c now ops).1) hcn (by rw [hr]) A hA,rfl,by simp⟩ [] [0,0,0] []
    · have h3:c.st≠3:=t4
      refine en1 (EF [(.bool (decide (((now):Int) < 0)),.bool false),(.bool (decide (((now):Int) > 1099511627776)),.bool false),(.bool ((((c.st:Int)):Int) != 1),.bool false),(.bool ((((c.st:Int)):Int) == 3),.bool false)] ⟨dcF (by omega),dcF (by omega),neI' (by omega),eqI' (by omega),trivial⟩) (eC 5 (.f 0::eC 3 (.f 1::eC 5 (.b 1 1::.f 2::eC 12 (.b 0 0::.c::.c::.x::eC 7 (.b 1 1::.f 3::eC 3 [.b 1 2])))))) fun t=>?_
      refine en_spec (HN) [] [0] [] (fun y=>?_);obtain ⟨v2,a',c'⟩:=y;cases ok
      · refine en_row0 51 40 ?_
        refine en_new0 (many []) ?_ (fun _=>⟨fun c hc=>(by cases hc),List.Pairwise.nil⟩) (fun j ⟨c,hc,_⟩=>(by cases hc));refine en_pack [1,0] (mlK (.slice none 0 0) []) _ ?_;by_cases he:e1≠0
        · refine en1 (EF [(.bool ((((e1:Int)):Int) != 0),.bool true)] ⟨neI (by omega),trivial⟩) (eC 4 (.n::.s 3 0::eC 3 [.f 0,.c,.c])) fun X2=>?_
          have h31:({ c with L:=L1,e:=e2 }:Cn).st≠3:=h3;have h32:({ c with L:=L1,e:=e2 }:Cn).cl.size≤1000000:=hoc;refine en_spec0 (turn_cutF (t:=t) (b:=b) (x:=x) (W:=W) (lg:=lg) (c:=({ c with L:=L1,e:=e2 }:Cn)) (v:=.slice none 0 0) h31) [2,1] [] [] ?_;refine en E0 (eC 3 [.b 0 3,.c,.c]) ?_;have hr:readC m W c now ops=({ ({ c with L:=L1,e:=e2 }:Cn) with st:=6 },[],[],true):=by
            refine hra.trans ?_;rw [if_pos he];unfold cutR;rw [if_neg h31]
          refine en_shut 2 ⟨g,gtL W u m mb,82⟩ ?_;refine gc_shut g W u m mb b x v v2 A c ({ ({ c with L:=L1,e:=e2 }:Cn) with st:=6 }) B rfl [1] [2,3,3,0] ?_;have eq1:z=([],[],true):=by rw [← hz];unfold readX;rw [hg];simp only [hr]
          subst eq1;refine en_word 3 (lgC lg vl T ops) (lgC lg vl T (ops+((([]:List Nt).length:Nat):Int))) (by rw [show ops+((([]:List Nt).length:Nat):Int)=ops by simp]) ?_;exact en_rets ⟨(Value.slice none 0 0,(A++({ ({ c with L:=L1,e:=e2 }:Cn) with st:=6 },b,x,v2)::B),[],vl,T),abs_mod (fun c=>(readC m W c now ops).1) hcn (by rw [hr]) A hA,rfl,by simp⟩ [] [1,1,0] []
        refine en1 (EF [(.bool ((((e1:Int)):Int) != 0),.bool false)] ⟨neI' (by omega),trivial⟩) (eC 4 (.n::.s 3 0::eC 3 (.f 0::eC 5 []))) fun X2=>?_
        cases ho:overC ({ c with L:=L1,e:=e2 }:Cn) now
        · have HO:=turn_over (wb:=wb) (t:=t) (b:=b) (x:=x) (W:=W) (lg:=lg) (c:=({ c with L:=L1,e:=e2 }:Cn)) (v:=.slice none 0 0) (now:=now) (by omega) (by omega) hl0 hl1 hok1
          rw [ho] at HO;refine en_spec0 (HO) [2,1] [] [] ?_;refine en E0 (eC 3 []) ?_;have hr:readC m W c now ops=(({ c with L:=L1,e:=e2 }:Cn),[],[],false):=by
            refine hra.trans ?_;rw [if_neg he,if_neg (by decide),if_neg (by rw [ho];decide)]
          refine en_shut 2 ⟨g,gtL W u m mb,82⟩ ?_;refine gc_shut g W u m mb b x v v2 A c (({ c with L:=L1,e:=e2 }:Cn)) B rfl [1] [2,3,3,0] ?_;have eq1:z=([],[],false):=by rw [← hz];unfold readX;rw [hg];simp only [hr]
          subst eq1;refine en_word 3 (lgC lg vl T ops) (lgC lg vl T (ops+((([]:List Nt).length:Nat):Int))) (by rw [show ops+((([]:List Nt).length:Nat):Int)=ops by simp]) ?_;exact en_rets ⟨(Value.slice none 0 0,(A++(({ c with L:=L1,e:=e2 }:Cn),b,x,v2)::B),[],vl,T),abs_mod (fun c=>(readC m W c now ops).1) hcn (by rw [hr]) A hA,rfl,by simp⟩ [] [1,1,0] []
        · have HO:=turn_over (wb:=wb) (t:=t) (b:=b) (x:=x) (W:=W) (lg:=lg) (c:=({ c with L:=L1,e:=e2 }:Cn)) (v:=.slice none 0 0) (now:=now) (by omega) (by omega) hl0 hl1 hok1
          rw [ho] at HO;refine en_spec0 (HO) [2,1] [] [] ?_;refine en E0 [.c,.c] ?_;have h31:({ c with L:=L1,e:=e2 }:Cn).st≠3:=h3;have h32:({ c with L:=L1,e:=e2 }:Cn).cl.size≤1000000:=hoc;refine en_spec0 (turn_cutF (t:=t) (b:=b) (x:=x) (W:=W) (lg:=lg) (c:=({ c with L:=L1,e:=e2 }:Cn)) (v:=.slice none 0 0) h31) [0,0] [] [] ?_;refine en E0 (eC 3 [.b 0 3,.c,.c]) ?_;have hr:readC m W c now ops=({ ({ c with L:=L1,e:=e2 }:Cn) with st:=6 },[],[],true):=by
            refine hra.trans ?_;rw [if_neg he,if_neg (by decide),if_pos ho];unfold cutR;rw [if_neg h31]
          refine en_shut 2 ⟨g,gtL W u m mb,82⟩ ?_;refine gc_shut g W u m mb b x v v2 A c ({ ({ c with L:=L1,e:=e2 }:Cn) with st:=6 }) B rfl [1] [2,3,3,0] ?_;have eq1:z=([],[],true):=by rw [← hz];unfold readX;rw [hg];simp only [hr]
          subst eq1;refine en_word 3 (lgC lg vl T ops) (lgC lg vl T (ops+((([]:List Nt).length:Nat):Int))) (by rw [show ops+((([]:List Nt).length:Nat):Int)=ops by simp]) ?_;exact en_rets ⟨(Value.slice none 0 0,(A++({ ({ c with L:=L1,e:=e2 }:Cn) with st:=6 },b,x,v2)::B),[],vl,T),abs_mod (fun c=>(readC m W c now ops).1) hcn (by rw [hr]) A hA,rfl,by simp⟩ [] [1,1,0] []
      · refine en_row0 51 40 ?_
        refine en_new0 (many []) ?_ (fun _=>⟨fun c hc=>(by cases hc),List.Pairwise.nil⟩) (fun j ⟨c,hc,_⟩=>(by cases hc));refine en_pack [1,0] (mlK (.slice none 0 0) []) _ ?_;by_cases he:e1≠0
        · refine en1 (EF [(.bool ((((e1:Int)):Int) != 0),.bool true)] ⟨neI (by omega),trivial⟩) (eC 4 (.n::.s 3 0::eC 3 [.f 0,.c,.c])) fun X2=>?_
          have h31:({ c with L:=L1,e:=e2 }:Cn).st≠3:=h3;have h32:({ c with L:=L1,e:=e2 }:Cn).cl.size≤1000000:=hoc;refine en_spec0 (turn_cutF (t:=t) (b:=b) (x:=x) (W:=W) (lg:=lg) (c:=({ c with L:=L1,e:=e2 }:Cn)) (v:=.slice none 0 0) h31) [2,1] [] [] ?_;refine en E0 (eC 3 [.b 0 3,.c,.c]) ?_;have hr:readC m W c now ops=({ ({ c with L:=L1,e:=e2 }:Cn) with st:=6 },[],[],true):=by
            refine hra.trans ?_;rw [if_pos he];unfold cutR;rw [if_neg h31]
          refine en_shut 2 ⟨g,gtL W u m mb,82⟩ ?_;refine gc_shut g W u m mb b x v v2 A c ({ ({ c with L:=L1,e:=e2 }:Cn) with st:=6 }) B rfl [1] [2,3,3,0] ?_;have eq1:z=([],[],true):=by rw [← hz];unfold readX;rw [hg];simp only [hr]
          subst eq1;refine en_word 3 (lgC lg vl T ops) (lgC lg vl T (ops+((([]:List Nt).length:Nat):Int))) (by rw [show ops+((([]:List Nt).length:Nat):Int)=ops by simp]) ?_;exact en_rets ⟨(Value.slice none 0 0,(A++({ ({ c with L:=L1,e:=e2 }:Cn) with st:=6 },b,x,v2)::B),[],vl,T),abs_mod (fun c=>(readC m W c now ops).1) hcn (by rw [hr]) A hA,rfl,by simp⟩ [] [1,1,0] []
        refine en1 (EF [(.bool ((((e1:Int)):Int) != 0),.bool false)] ⟨neI' (by omega),trivial⟩) (eC 4 (.n::.s 3 0::eC 3 (.f 0::eC 7 [.s 1 6,.c,.b 3 0]))) fun X2=>?_
        have h31:({ c with L:=L1,e:=e2,last:=now }:Cn).st=c.st:=rfl;have h32:({ c with L:=L1,e:=e2,last:=now }:Cn).cl.size≤1000000:=hoc;have h33:({ c with L:=L1,e:=e2,last:=now }:Cn).drain.size≤1000000000000000:=hod;have h34:({ c with L:=L1,e:=e2,last:=now }:Cn).sent.size≤1000000000000000:=hos;have h1c:({ c with L:=L1,e:=e2,last:=now }:Cn).st=1:=by rw [h31];omega
        by_cases tF:freshA p=true
        · refine en_spec (turn_freshA (t:=t) (b:=b) (x:=x) (W:=W) (lg:=lg) (c:=({ c with L:=L1,e:=e2,last:=now }:Cn)) (v:=.slice none 0 0) (vl:=vl) (M:=[]) (T:=T) (ops:=ops) (p:=p) (a:=a') (c2:=c') tF hp.keep (by decide) h0 h1 hT hps) [2,1] [0,4,1] [] (fun y=>?_)
          obtain ⟨vm,vl',y⟩:=y;refine en E0 (eC 3 [.b 0 3,.c,.c]) ?_;have hr:readC m W c now ops=({ hasCl ({ c with L:=L1,e:=e2,last:=now }:Cn) p with st:=2 },[askM W 1 (ops+1) (hasCl ({ c with L:=L1,e:=e2,last:=now }:Cn) p) p],[askN (ops+1) ({ c with L:=L1,e:=e2,last:=now }:Cn).num p.client p],true):=by
            refine hra.trans ?_;rw [if_neg he,if_pos rfl,if_neg t4];unfold freshR;rw [if_pos tF]
          refine en_shut 2 ⟨g,gtL W u m mb,82⟩ ?_;refine gc_shut g W u m mb b x v v2 A c ({ hasCl ({ c with L:=L1,e:=e2,last:=now }:Cn) p with st:=2 }) B rfl [1] [3,3,3,0] ?_;have eq1:z=([askM W 1 (ops+1) (hasCl ({ c with L:=L1,e:=e2,last:=now }:Cn) p) p],[askN (ops+1) ({ c with L:=L1,e:=e2,last:=now }:Cn).num p.client p],true):=by rw [← hz];unfold readX;rw [hg];simp only [hr]
          subst eq1;exact en_rets ⟨(vm,(A++({ hasCl ({ c with L:=L1,e:=e2,last:=now }:Cn) p with st:=2 },b,x,v2)::B),[(askM W 1 (ops+1) (hasCl ({ c with L:=L1,e:=e2,last:=now }:Cn) p) p,a',c')],vl',T++[(askN (ops+1) ({ c with L:=L1,e:=e2,last:=now }:Cn).num p.client p,y)]),abs_mod (fun c=>(readC m W c now ops).1) hcn (by rw [hr]) A hA,rfl,by simp⟩ [] [0,0,0] []
        refine en_spec0 (turn_freshN (t:=t) (b:=b) (x:=x) (W:=W) (lg:=lg) (c:=({ c with L:=L1,e:=e2,last:=now }:Cn)) (v:=.slice none 0 0) (p:=p) (a:=a') (c2:=c') (by simpa using tF) h1c h33 h34) [2,1] [] [] ?_;refine en E0 (eC 3 [.b 0 3,.c,.c]) ?_;have hr:readC m W c now ops=(freshN ({ c with L:=L1,e:=e2,last:=now }:Cn) p,[],[],true):=by
          refine hra.trans ?_;rw [if_neg he,if_pos rfl,if_neg t4];unfold freshR;rw [if_neg tF]
        refine en_word 1 (frC x m v2 L1 e2) (frC x m v2 (freshN ({ c with L:=L1,e:=e2,last:=now }:Cn) p).L (freshN ({ c with L:=L1,e:=e2,last:=now }:Cn) p).e) (by rw [freshN_L,freshN_e]) ?_;refine en_shut 2 ⟨g,gtL W u m mb,82⟩ ?_;refine gc_shut g W u m mb b x v v2 A c (freshN ({ c with L:=L1,e:=e2,last:=now }:Cn) p) B ((by rw [freshN_num])) [1] [1,3,3,0] ?_;have eq1:z=([],[],true):=by rw [← hz];unfold readX;rw [hg];simp only [hr]
        subst eq1;refine en_word 3 (lgC lg vl T ops) (lgC lg vl T (ops+((([]:List Nt).length:Nat):Int))) (by rw [show ops+((([]:List Nt).length:Nat):Int)=ops by simp]) ?_;exact en_rets ⟨(Value.slice none 0 0,(A++(freshN ({ c with L:=L1,e:=e2,last:=now }:Cn) p,b,x,v2)::B),[],vl,T),abs_mod (fun c=>(readC m W c now ops).1) hcn (by rw [hr]) A hA,rfl,by simp⟩ [] [1,1,0] []
end Go.Proofs.YtehpihmgjbmoaaaGreatDoor
