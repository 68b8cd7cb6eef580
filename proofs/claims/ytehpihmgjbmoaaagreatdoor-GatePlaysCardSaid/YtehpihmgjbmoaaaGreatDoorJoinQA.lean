import Derived.Test.YtehpihmgjbmoaaaGreatDoorR20a
import Derived.Test.YtehpihmgjbmoaaaGreatDoorRefEncode
import Derived.Test.YtehpihmgjbmoaaaGreatDoorJoinSH
namespace Go.Proofs.YtehpihmgjbmoaaaGreatDoor
open Go.RowKit
attribute [local irreducible] Ok
set_option maxRecDepth 100000 in
set_option maxHeartbeats 4000000 in
theorem r20_send {wb:World} {b x cap:Nat} {c:Cn} {A:Option Addr} {ps:List PkE} {X:Chk} (hX:∀ w,Below wb.heap.size wb w→X.is w→CellsA w A (pkCells ps)∧∀ p ∈ ps,PkIn w p) (hs:∀ p ∈ ps,(encS p.1).size≤1000000000) (hn:ps.length≤100000) (hd:c.drain.size≤1000000000000000) (hd2:c.sent.size≤1000000000000000):Spec Tryz.prog wb 75 #[.pointer (some ⟨b,0,none⟩),.slice A ps.length cap] [⟨b,cnL c x,72⟩] [X] (fun _:Unit=>.tuple #[]) (fun _=>[⟨b,cnL (sndC c (ps.map (·.1))) x,72⟩]) (fun _=>[X]):=by
  intro w H;refine en_call Tryz.func75 H ?_;refine en E0 [.c] ?_;refine en_loopP (codeOf Tryz.f75) [1,0] [1,0,0] [] (α:=Nat) (fun k=>ps.length - k) (fun k=>[(0,.pointer (some ⟨b,0,none⟩)),(1,.slice A ps.length cap),(4,.int .i64 (k:Int))]) (fun k=>[⟨b,cnL (sndC c ((ps.take k).map (·.1))) x,72⟩]) (fun k=>many [X]) 0 (by kernel_rfl) ?_;intro k J HJ;by_cases hk:k < ps.length
  · obtain ⟨q,hq⟩:∃ q,ps[k]? = some q:=⟨_,List.getElem?_eq_getElem hk⟩
    have hqm:q ∈ ps:=List.mem_of_getElem? hq;have e1:(ps.take (k+1)).map (·.1)=(ps.take k).map (·.1)++[q.1]:=by rw [List.take_add_one,hq,List.map_append];rfl
    have hl:((ps.take k).map (·.1)).length≤100000:=by rw [List.length_map,List.length_take];omega
    have hb:∀ p ∈ (ps.take k).map (·.1),(encS p).size≤1000000000:=by intro p hp;obtain ⟨y,hy,rfl⟩:=List.mem_map.1 hp;exact hs y (List.mem_of_mem_take hy)
    have hz1:=snd_size _ c.drain hb;have hz2:=snd_size _ c.sent hb;have hz3:=hs q hqm;refine en_factK (p:=∃ g o,A=some ⟨g,o,none⟩) (fun w h=>by obtain ⟨g,o,h1,_⟩:=pk_range (hX w h.hp.low (is_at h.hp.is 0 (c:=X) rfl)).1 hq;exact ⟨g,o,h1⟩) ?_;rintro ⟨g,o,rfl⟩;have HR:∀ w,Below wb.heap.size wb w→X.is w→w.rangeAt g (o+k * 24) (pkC q):=fun w h1 h2=>by
      obtain ⟨g',o',h3,h4,_⟩:=pk_range (hX w h1 h2).1 hq;injection h3 with h3
      injection h3 with h3 h5
      subst h3 h5;exact h4
    have HP:∀ w,Below wb.heap.size wb w→X.is w→PkIn w q:=fun w h1 h2=>(hX w h1 h2).2 q hqm
    refine en ⟨⟨[⟨g,o+k * 24,pkC q⟩],[]⟩,[(.bool (decide ((((k:Int)):Int) < (ps.length:Int))),.bool true)],[⟨some ⟨g,o,none⟩,ps.length,cap,.i64,k,24,⟨g,o+k * 24,none⟩⟩],[⟨92,#[.agg (pkV q.1 q.2.1 q.2.2)],.tuple #[.string (encS q.1),.int .i64 (encE q.1)],[],[]⟩],fun _ _ h=>⟨⟨HR _ h.hp.low (is_at h.hp.is 0 (c:=X) rfl),trivial⟩,trivial⟩,⟨dcT (by omega),trivial⟩,⟨⟨g,o,k,rfl,rfl,hk,rfl⟩,trivial⟩,⟨fun _ w h _=>have hp:=HP w h.hp.low (is_at h.hp.is 0 (c:=X) rfl);ref04_Encode q.1 q.2.1 q.2.2 w h.hp.env hp.ok hp.row,trivial⟩⟩ (eC 3 (.f 0::.c::.c::.i 0::.l 0 0::.k 0::eC 6 [])) ?_;by_cases he:encE q.1=0
    · have e2:snd1 (sndS c.drain ((ps.take k).map (·.1))) q.1=(sndS c.drain ((ps.take k).map (·.1)))++encS q.1:=by unfold snd1;rw [if_pos he]
      have e3:snd1 (sndS c.sent ((ps.take k).map (·.1))) q.1=(sndS c.sent ((ps.take k).map (·.1)))++encS q.1:=by unfold snd1;rw [if_pos he]
      rw [← snd_snoc,← e1] at e2 e3;refine en ⟨⟨[],[(ctT (.string (sndS c.drain ((ps.take k).map (·.1)))) (.string (encS q.1)) 9,.string (sndS c.drain ((ps.take (k+1)).map (·.1)))),(ctT (.string (sndS c.sent ((ps.take k).map (·.1)))) (.string (encS q.1)) 9,.string (sndS c.sent ((ps.take (k+1)).map (·.1))))]⟩,[(.bool ((((encE q.1)):Int) == 0),.bool true),(.int .i64 (IntKind.i64.wrap ((k:Int)+1)),.int .i64 ((k+1:Nat):Int))],[],[],fun _ _ h=>⟨trivial,⟨by rw [e2];exact ct_run (by omega) 9,by rw [e3];exact ct_run (by omega) 9,trivial⟩⟩,⟨eqI (he),addI (by omega),trivial⟩,trivial,trivial⟩ (.f 0::eC 4 (.b 0 8::.c::.r 0::.c::.c::.s 0 8::eC 4 [.b 0 9,.c,.r 1,.c,.c,.s 0 9,.c,.f 1,.c])) ?_;refine en_drop [0] [0] ?_;exact en_stopI (fun a w F HK=>HJ (k+1) a w (by omega) F HK)
    · have e2:snd1 (sndS c.drain ((ps.take k).map (·.1))) q.1=sndS c.drain ((ps.take k).map (·.1)):=by unfold snd1;rw [if_neg he]
      have e3:snd1 (sndS c.sent ((ps.take k).map (·.1))) q.1=sndS c.sent ((ps.take k).map (·.1)):=by unfold snd1;rw [if_neg he]
      rw [← snd_snoc,← e1] at e2 e3;have e4:sndC c ((ps.take (k+1)).map (·.1))=sndC c ((ps.take k).map (·.1)):=by unfold sndC;rw [e2,e3]
      replace HJ:=HJ (k+1);rw [e4] at HJ;refine en (EF [(.bool ((((encE q.1)):Int) == 0),.bool false),(.int .i64 (IntKind.i64.wrap ((k:Int)+1)),.int .i64 ((k+1:Nat):Int))] ⟨eqI' (he),addI (by omega),trivial⟩) [.f 0,.c,.f 1,.c] ?_;refine en_drop [0] [0] ?_;exact en_stopI (fun a w F HK=>HJ a w (by omega) F HK)
  have e1:ps.take k=ps:=List.take_of_length_le (by omega);rw [e1];refine en (EF [(.bool (decide ((((k:Int)):Int) < (ps.length:Int))),.bool false)] ⟨dcF (by omega),trivial⟩) (eC 3 [.f 0]) ?_;exact en_rets () [0] [0] []
set_option maxRecDepth 100000 in
set_option maxHeartbeats 4000000 in
theorem r20_May {wb:World} {W u m:Int}:Spec Tryz.prog wb 28 #[.int .i64 W,.int .i64 u,.int .i64 m] [] [] (fun _:Unit=>.bool (mayN W u m)) (fun _=>[]) (fun _=>[]):=by
  obtain ⟨z,hz⟩:∃ z,mayN W u m=z:=⟨_,rfl⟩
  rw [hz];unfold mayN at hz;intro w H;refine en_call Tryz.func28 H ?_;by_cases h8:¬ 1≤W
  · refine en (EF [(.bool (decide (((W):Int) ≥ 1)),.bool false)] ⟨dcF (by omega),trivial⟩) (.c::.c::.f 0::eC 22 []) ?_
    obtain rfl:z=false:=by rw [← hz];simp only [Bool.and_eq_false_iff,decide_eq_false_iff_not];omega
    exact en_rets () [] [] []
  by_cases h11:¬ W≤64
  · refine en (EF [(.bool (decide (((W):Int) ≥ 1)),.bool true),(.bool (decide (((W):Int)≤64)),.bool false)] ⟨dcT (by omega),dcF (by omega),trivial⟩) (.c::.c::.f 0::.c::.c::.f 1::eC 19 []) ?_
    obtain rfl:z=false:=by rw [← hz];simp only [Bool.and_eq_false_iff,decide_eq_false_iff_not];omega
    exact en_rets () [] [] []
  by_cases h15:¬ 0≤u
  · refine en (EF [(.bool (decide (((W):Int) ≥ 1)),.bool true),(.bool (decide (((W):Int)≤64)),.bool true),(.bool (decide (((u):Int) ≥ 0)),.bool false)] ⟨dcT (by omega),dcT (by omega),dcF (by omega),trivial⟩) (.c::.c::.f 0::.c::.c::.f 1::eC 3 (.f 2::eC 15 [])) ?_
    obtain rfl:z=false:=by rw [← hz];simp only [Bool.and_eq_false_iff,decide_eq_false_iff_not];omega
    exact en_rets () [] [] []
  by_cases h20:¬ u < W
  · refine en (EF [(.bool (decide (((W):Int) ≥ 1)),.bool true),(.bool (decide (((W):Int)≤64)),.bool true),(.bool (decide (((u):Int) ≥ 0)),.bool true),(.bool (decide (((u):Int) < W)),.bool false)] ⟨dcT (by omega),dcT (by omega),dcT (by omega),dcF (by omega),trivial⟩) (.c::.c::.f 0::.c::.c::.f 1::eC 3 (.f 2::eC 4 (.f 3::eC 10 []))) ?_
    obtain rfl:z=false:=by rw [← hz];simp only [Bool.and_eq_false_iff,decide_eq_false_iff_not];omega
    exact en_rets () [] [] []
  by_cases h24:¬ 16≤m
  · refine en (EF [(.bool (decide (((W):Int) ≥ 1)),.bool true),(.bool (decide (((W):Int)≤64)),.bool true),(.bool (decide (((u):Int) ≥ 0)),.bool true),(.bool (decide (((u):Int) < W)),.bool true),(.bool (decide (((m):Int) ≥ 16)),.bool false)] ⟨dcT (by omega),dcT (by omega),dcT (by omega),dcT (by omega),dcF (by omega),trivial⟩) (.c::.c::.f 0::.c::.c::.f 1::eC 3 (.f 2::eC 4 (.f 3::eC 3 (.f 4::eC 6 [])))) ?_
    obtain rfl:z=false:=by rw [← hz];simp only [Bool.and_eq_false_iff,decide_eq_false_iff_not];omega
    exact en_rets () [] [] []
  by_cases h28:¬ m≤65536
  · refine en (EF [(.bool (decide (((W):Int) ≥ 1)),.bool true),(.bool (decide (((W):Int)≤64)),.bool true),(.bool (decide (((u):Int) ≥ 0)),.bool true),(.bool (decide (((u):Int) < W)),.bool true),(.bool (decide (((m):Int) ≥ 16)),.bool true),(.bool (decide (((m):Int)≤65536)),.bool false)] ⟨dcT (by omega),dcT (by omega),dcT (by omega),dcT (by omega),dcT (by omega),dcF (by omega),trivial⟩) (.c::.c::.f 0::.c::.c::.f 1::eC 3 (.f 2::eC 4 (.f 3::eC 3 (.f 4::eC 3 [.f 5,.c,.c])))) ?_
    obtain rfl:z=false:=by rw [← hz];simp only [Bool.and_eq_false_iff,decide_eq_false_iff_not];omega
    exact en_rets () [] [] []
  refine en (EF [(.bool (decide (((W):Int) ≥ 1)),.bool true),(.bool (decide (((W):Int)≤64)),.bool true),(.bool (decide (((u):Int) ≥ 0)),.bool true),(.bool (decide (((u):Int) < W)),.bool true),(.bool (decide (((m):Int) ≥ 16)),.bool true),(.bool (decide (((m):Int)≤65536)),.bool true)] ⟨dcT (by omega),dcT (by omega),dcT (by omega),dcT (by omega),dcT (by omega),dcT (by omega),trivial⟩) (.c::.c::.f 0::.c::.c::.f 1::eC 3 (.f 2::eC 4 (.f 3::eC 3 (.f 4::eC 3 [.f 5,.c,.c])))) ?_;obtain rfl:z=true:=by rw [← hz];simp only [Bool.and_eq_true,decide_eq_true_eq];omega
  exact en_rets () [] [] []
end Go.Proofs.YtehpihmgjbmoaaaGreatDoor
namespace Go.Proofs.YtehpihmgjbmoaaaGreatDoor
open Go.RowKit
attribute [local irreducible] Ok
theorem info_ptR:(Tryz.prog.info? 73).map (fun i=>(i.zero,i.size,i.bytes))=some (some (.pointer none),1,8):=by kernel_rfl
theorem putR (n:Int) (K:List RnG) (b x:Nat):(K++[((newC n,b,x):RnG)]).map ptR=K.map ptR++[.pointer (some ⟨b,0,none⟩)]:=by rw [List.map_append];rfl
theorem rc_new (m:Nat) (c:RnG) (K:List RnG):((K++[c]).map (rcC m)).Perm (rcC m c::K.map (rcC m)):=by
  rw [List.map_append];exact List.perm_append_singleton _ _
theorem absR_new (K:List RnG) (c:RnG):absR (K++[c])=absR K++[c.1]:=by unfold absR;rw [List.map_append];rfl
set_option maxRecDepth 100000 in
set_option maxHeartbeats 4000000 in
theorem r20_findO {wb:World} {g W u m:Nat} {a:Option Addr} {k:Nat} {K:List RnG} (n:Int) (hK:K.length≤1000000):Spec Tryz.prog wb 52 #[.pointer (some ⟨g,0,none⟩),.int .i64 n] [⟨g,rgL W u m (.slice a K.length k),69⟩] [rowO 73 1 (.slice a K.length k) K.length (K.map ptR),many (K.map (rcC m))] (fun _:Unit=>.int .i64 (idxR (getJ K n))) (fun _=>[⟨g,rgL W u m (.slice a K.length k),69⟩]) (fun _=>[rowO 73 1 (.slice a K.length k) K.length (K.map ptR),many (K.map (rcC m))]):=by
  obtain ⟨z,hz⟩:∃ z,getJ K n=z:=⟨_,rfl⟩
  rw [hz];intro w H;refine en_call Tryz.func52 H ?_;refine en E0 [.c,.c] ?_;refine en_loopP (codeOf Tryz.f52) [1,0,1,0] [1,0,1,0,0] [] (α:={i:Nat // i≤K.length∧∀ d ∈ K.take i,n≠d.1.num}) (fun y=>K.length - y.1) (fun y=>[(0,.pointer (some ⟨g,0,none⟩)),(1,.int .i64 n),(5,.int .i64 (y.1:Int))]) (fun y=>[⟨g,rgL W u m (.slice a K.length k),69⟩]) (fun y=>many [rowO 73 1 (.slice a K.length k) K.length (K.map ptR),many (K.map (rcC m))]) ⟨0,Nat.zero_le _,fun d hd=>(by cases hd)⟩ (by kernel_rfl) ?_;intro ⟨i,hi,hd⟩ J HJ;simp only at HJ
  by_cases hk:i < K.length
  · obtain ⟨A,c,b,x,B,hA,rfl⟩:∃ (A:List RnG) (c:Cn) (b x:Nat) (B:List RnG),K=A++(c,b,x)::B∧i=A.length:=⟨K.take i,(K[i]).1,(K[i]).2.1,(K[i]).2.2,K.drop (i+1),by rw [← List.drop_eq_getElem_cons hk,List.take_append_drop],by rw [List.length_take];omega⟩
    subst hA;have htk:(A++(c,b,x)::B).take A.length=A:=List.take_left;have hlt:A.length < (A++(c,b,x)::B).length:=hk;rw [htk] at hd;refine en_factK (p:=∃ gl,a=some ⟨gl,0,none⟩) (fun w h=>by obtain ⟨gl,cap,h1,_⟩:=pt_at (is_at h.hp.is 0 (c:=rowO 73 1 (.slice a (A++(c,b,x)::B).length k) (A++(c,b,x)::B).length ((A++(c,b,x)::B).map ptR)) rfl);injection h1 with h1;exact ⟨gl,h1⟩) ?_;rintro ⟨gl,rfl⟩;refine en_out 1 (many ((A++(c,b,x)::B).map (rcC m))) (rcC m (c,b,x)) ((A++(c,b,x)::B).map (rcC m)) ((A++B).map (rcC m)) (rc_out m (c,b,x) A B) ?_;refine en_unpack 0 (rcC m (c,b,x)) _ ?_;refine en_open 0 ⟨b,cnL c x,72⟩ ?_;by_cases hn:c.num=n
    · refine en ⟨⟨[⟨gl,0+A.length * 1,[ptR (c,b,x)]⟩],[]⟩,[(.bool (decide ((((A.length:Int)):Int) < ((A++(c,b,x)::B).length:Int))),.bool true),(.bool (((c.num):Int) == n),.bool true)],[⟨some ⟨gl,0,none⟩,(A++(c,b,x)::B).length,k,.i64,A.length,1,⟨gl,0+A.length * 1,none⟩⟩],[],fun _ _ h=>⟨⟨(by obtain ⟨g',c',h3,h4⟩:=pt_at (is_at h.hp.is 2 (c:=rowO 73 1 (.slice (some ⟨gl,0,none⟩) (A++(c,b,x)::B).length k) (A++(c,b,x)::B).length ((A++(c,b,x)::B).map ptR)) rfl);injection h3 with h3;injection h3 with h3;injection h3 with h3;subst h3;exact h4),trivial⟩,trivial⟩,⟨dcT (by omega),eqI (by omega),trivial⟩,⟨⟨gl,0,A.length,rfl,rfl,hlt,rfl⟩,trivial⟩,trivial⟩ (eC 4 (.b 0 3::.c::.f 0::eC 3 [.b 0 3,.c,.i 0,.l 0 0,.c,.c,.b 1 0,.c,.f 1,.c,.c])) ?_
      refine en_shut 1 ⟨b,cnL c x,72⟩ ?_;refine en_pack [0,0] (rcC m (c,b,x)) _ ?_;refine en_in [0,0] (many ((A++(c,b,x)::B).map (rcC m))) (rcC m (c,b,x)) ((A++(c,b,x)::B).map (rcC m)) ((A++B).map (rcC m)) ((rc_out m (c,b,x) A B).symm) ?_;have hz2:z=some A.length:=by rw [← hz];exact getJ_at hd hn.symm
      subst hz2;exact en_rets () [0] [1,0] []
    · refine en ⟨⟨[⟨gl,0+A.length * 1,[ptR (c,b,x)]⟩],[]⟩,[(.bool (decide ((((A.length:Int)):Int) < ((A++(c,b,x)::B).length:Int))),.bool true),(.bool (((c.num):Int) == n),.bool false),(.int .i64 (IntKind.i64.wrap ((A.length:Int)+1)),.int .i64 ((A.length+1:Nat):Int))],[⟨some ⟨gl,0,none⟩,(A++(c,b,x)::B).length,k,.i64,A.length,1,⟨gl,0+A.length * 1,none⟩⟩],[],fun _ _ h=>⟨⟨(by obtain ⟨g',c',h3,h4⟩:=pt_at (is_at h.hp.is 2 (c:=rowO 73 1 (.slice (some ⟨gl,0,none⟩) (A++(c,b,x)::B).length k) (A++(c,b,x)::B).length ((A++(c,b,x)::B).map ptR)) rfl);injection h3 with h3;injection h3 with h3;injection h3 with h3;subst h3;exact h4),trivial⟩,trivial⟩,⟨dcT (by omega),eqI' (by omega),addI (by omega),trivial⟩,⟨⟨gl,0,A.length,rfl,rfl,hlt,rfl⟩,trivial⟩,trivial⟩ (eC 4 (.b 0 3::.c::.f 0::eC 3 [.b 0 3,.c,.i 0,.l 0 0,.c,.c,.b 1 0,.c,.f 1,.c,.f 2,.c])) ?_
      refine en_shut 1 ⟨b,cnL c x,72⟩ ?_;refine en_pack [0,0] (rcC m (c,b,x)) _ ?_;refine en_in [0,0] (many ((A++(c,b,x)::B).map (rcC m))) (rcC m (c,b,x)) ((A++(c,b,x)::B).map (rcC m)) ((A++B).map (rcC m)) ((rc_out m (c,b,x) A B).symm) ?_;refine en_drop [0] [1,0] ?_;exact en_stopI (fun a w F HK=>HJ ⟨A.length+1,by omega,fun d h=>by rw [show (A++(c,b,x)::B).take (A.length+1)=A++[(c,b,x)] from take_oneR _ _ _] at h;rcases List.mem_append.1 h with h | h;exact hd d h;rw [List.mem_singleton] at h;rw [h];exact fun h=>hn h.symm⟩ a w (by show _ - (A.length+1) < _ - A.length;omega) F HK)
  have hz2:z=none:=by rw [← hz];exact getJ_none (fun d h=>hd d (by rw [List.take_of_length_le (by omega)];exact h))
  subst hz2;refine en (EF [(.bool (decide ((((i:Int)):Int) < (K.length:Int))),.bool false)] ⟨dcF (by omega),trivial⟩) (eC 4 [.b 0 3,.c,.f 0,.c]) ?_;exact en_rets () [0] [0,0] []
set_option maxRecDepth 100000 in
set_option maxHeartbeats 4000000 in
theorem r20_OpenN {wb:World} {g W u m:Nat} {v:Value} {K:List RnG} (n:Int) (hn:n < 9223372036854775808) (hK:K.length≤100000) (hm:mayO W u (absR K) n=false):Spec Tryz.prog wb 45 #[.pointer (some ⟨g,0,none⟩),.int .i64 n] [] [rgC g W u m v K] (fun _:Unit=>.bool false) (fun _=>[]) (fun _=>[rgC g W u m v K]):=by
  unfold mayO at hm;intro w H;refine en_call Tryz.func45 H ?_;refine en_unpack 0 (rgC g W u m v K) _ ?_;refine en_fact (p:=∃ a k,v=.slice a K.length k) (fun w h=>by obtain ⟨a,k,h1,_⟩:=own_form (is_at h 1 (c:=rowO 73 1 v K.length (K.map ptR)) rfl);exact ⟨a,k,h1⟩) ?_;rintro ⟨a,k,rfl⟩;refine en_open 0 ⟨g,rgL W u m (.slice a K.length k),69⟩ ?_;by_cases hgt:¬ gateL n (W:Int)=(u:Int)
  · refine en (EK [(.bool ((((gateL n (W:Int))):Int) != (u:Int)),.bool true)] ⟨neI (by omega),trivial⟩ [⟨64,#[.int .i64 n,.int .i64 (W:Int)],.int .i64 (gateL n (W:Int)),[],[]⟩] ⟨fun _ w _ _=>(ref08_Gate n (W:Int) w hn).mono (fun e w' h=>⟨h.1,h.2 ▸ Below.refl _ _⟩),trivial⟩) [.c,.g [(0,0,1),(0,1,1)] 1000 false,.d [(0,.c),(1,.c),(2,.c),(3,.c),(4,.l 0 0),(6,.c),(7,.c),(8,.c),(9,.l 1 0)],.k 0,.d (eN 10 (.f 0::eC 6 [])),.c] ?_
    refine en_shut 0 ⟨g,rgL W u m (.slice a K.length k),69⟩ ?_;refine en_pack [0,0,0] (rgC g W u m (.slice a K.length k) K) _ ?_;exact en_rets () [] [0] []
  · have hgu:gateL n (W:Int)=(u:Int):=Decidable.byContradiction hgt
    rw [decide_eq_true hgu,Bool.and_true] at hm;obtain ⟨j,hj⟩:∃ j,getJ K n=some j:=by
      cases hj:getJ K n with
      | none=>rw [getJ_no hj] at hm;cases hm
      | some j=>exact ⟨j,rfl⟩
    have HF:=r20_findO (wb:=wb) (g:=g) (W:=W) (u:=u) (m:=m) (a:=a) (k:=k) (K:=K) n (by omega);rw [hj] at HF;refine en (EK [(.bool ((((gateL n (W:Int))):Int) != (u:Int)),.bool false)] ⟨neI' (by omega),trivial⟩ [⟨64,#[.int .i64 n,.int .i64 (W:Int)],.int .i64 (gateL n (W:Int)),[],[]⟩] ⟨fun _ w _ _=>(ref08_Gate n (W:Int) w hn).mono (fun e w' h=>⟨h.1,h.2 ▸ Below.refl _ _⟩),trivial⟩) [.c,.g [(0,0,1),(0,1,1)] 1000 false,.d [(0,.c),(1,.c),(2,.c),(3,.c),(4,.l 0 0),(6,.c),(7,.c),(8,.c),(9,.l 1 0)],.k 0,.d (eN 10 (.f 0::eC 3 []))] ?_;refine en_spec0 (HF) [0] [0,0] [(0,0,1),(0,1,1)] ?_;refine en (EF [(.bool (decide ((((j:Int)):Int) ≥ 0)),.bool true)] ⟨dcT (by omega),trivial⟩) [.d (eN 15 [.f 0,.c]),.c] ?_;refine en_shut 0 ⟨g,rgL W u m (.slice a K.length k),69⟩ ?_;refine en_pack [0,0,0] (rgC g W u m (.slice a K.length k) K) _ ?_;exact en_rets () [] [0] []
set_option maxRecDepth 100000 in
set_option maxHeartbeats 4000000 in
theorem r20_OpenY {wb:World} {g W u m:Nat} {v:Value} {K:List RnG} (n:Int) (hn:n < 9223372036854775808) (hK:K.length≤100000) (hm:mayO W u (absR K) n=true) (h1:16≤m) (h2:m≤65536):Spec Tryz.prog wb 45 #[.pointer (some ⟨g,0,none⟩),.int .i64 n] [] [rgC g W u m v K] (fun _:{y:Value × List RnG // absR y.2=absR K++[newC n]∧y.2.length=K.length+1}=>.bool true) (fun _=>[]) (fun y=>[rgC g W u m y.1.1 y.1.2]):=by
  unfold mayO at hm;rw [Bool.and_eq_true,decide_eq_true_eq] at hm;obtain ⟨hm1,hgu⟩:=hm;have hj:getJ K n=none:=by
    cases hj:getJ K n with
    | none=>rfl
    | some j =>
      obtain ⟨A,c,B,rfl,_,hc,hA⟩:=getJ_some hj;rw [getG_mid hA hc] at hm1;cases hm1
  obtain ⟨i0,hi,hz0,hz1,hz2⟩:=info_parts info_ptR;intro w H;refine en_call Tryz.func45 H ?_;refine en_unpack 0 (rgC g W u m v K) _ ?_;refine en_fact (p:=∃ a k,v=.slice a K.length k) (fun w h=>by obtain ⟨a,k,h1,_⟩:=own_form (is_at h 1 (c:=rowO 73 1 v K.length (K.map ptR)) rfl);exact ⟨a,k,h1⟩) ?_;rintro ⟨a,k,rfl⟩;refine en_open 0 ⟨g,rgL W u m (.slice a K.length k),69⟩ ?_;have HF:=r20_findO (wb:=wb) (g:=g) (W:=W) (u:=u) (m:=m) (a:=a) (k:=k) (K:=K) n (by omega);rw [hj] at HF;refine en (EK [(.bool ((((gateL n (W:Int))):Int) != (u:Int)),.bool false)] ⟨neI' (by omega),trivial⟩ [⟨64,#[.int .i64 n,.int .i64 (W:Int)],.int .i64 (gateL n (W:Int)),[],[]⟩] ⟨fun _ w _ _=>(ref08_Gate n (W:Int) w hn).mono (fun e w' h=>⟨h.1,h.2 ▸ Below.refl _ _⟩),trivial⟩) [.c,.g [(0,0,1),(0,1,1)] 1000 false,.d [(0,.c),(1,.c),(2,.c),(3,.c),(4,.l 0 0),(6,.c),(7,.c),(8,.c),(9,.l 1 0)],.k 0,.d (eN 10 (.f 0::eC 3 []))] ?_;refine en_spec0 (HF) [0] [0,0] [(0,0,1),(0,1,1)] ?_;refine en E0 [.d (eN 15 [.c,.c]),.g [(0,3,1),(0,2,1)] 17 false,.d (eN 0 (eC 4 (.l 0 0::eC 4 [.l 1 0])))] ?_;refine en_spec (r6_New m h1 h2) [] [] [(1,3,1),(1,2,1)] (fun x=>?_);refine en1 E0 [.d (eN 11 [.c]),.x] fun b=>?_
  refine en_ops (ops_one1 67 73 67 (.pointer (some ⟨b,0,none⟩)) #[.pointer (some ⟨b,0,none⟩)] i0 _ hz1.symm Tryz.underlying67 hi hz0 (by rw [hz1];decide) (by rw [hz1];decide) (by rw [hz1];kernel_rfl) (by rw [hz1];rfl)) [] [] [(1,3,1),(1,2,1)] (fun d=>?_);refine en_ops (ops_app 67 67 73 i0 _ Tryz.underlying67 hi hz0 (hz1 ▸ rfl) (by rw [hz1];decide) (hz1.symm) (v:=.slice a K.length k) (x:=.slice (some ⟨d,0,none⟩) 1 1) (n:=K.length) (m:=1) (xs:=K.map ptR) (news:=[.pointer (some ⟨b,0,none⟩)]) (by intro u hu;simp at hu;subst hu;rfl) (by unfold maxLen;omega) (by rw [hz2];omega)) [] [1,0] [(1,3,1),(1,2,1)] (fun v'=>?_);rw [← putR n K b x,show K.length+1=(K++[((newC n,b,x):RnG)]).length by simp];refine en_fact (p:=∃ a2 k2,v'=.slice a2 (K++[((newC n,b,x):RnG)]).length k2) (fun w h=>by obtain ⟨a2,k2,h1,_⟩:=own_form (is_at h 0 (c:=rowO 73 1 v' (K++[((newC n,b,x):RnG)]).length ((K++[((newC n,b,x):RnG)]).map ptR)) rfl);exact ⟨a2,k2,h1⟩) ?_;rintro ⟨a2,k2,rfl⟩;refine en E0 [.d (eN 15 [.c,.c]),.s 1 3,.c] ?_;refine en_shut 0 ⟨x,rfL m [] 0,146⟩ ?_;refine en_shut 1 ⟨b,cnL (newC n) x,72⟩ ?_;refine en_pack [0,0] (rcC m (newC n,b,x)) _ ?_;refine en_in [0,2] (many ((K++[((newC n,b,x):RnG)]).map (rcC m))) (rcC m (newC n,b,x)) ((K++[((newC n,b,x):RnG)]).map (rcC m)) (K.map (rcC m)) (rc_new m (newC n,b,x) K).symm ?_;refine en_shut 0 ⟨g,rgL W u m (.slice a2 (K++[((newC n,b,x):RnG)]).length k2),69⟩ ?_;refine en_pack [0,1,0] (rgC g W u m (.slice a2 (K++[((newC n,b,x):RnG)]).length k2) (K++[((newC n,b,x):RnG)])) _ ?_;exact en_rets ⟨(.slice a2 (K++[((newC n,b,x):RnG)]).length k2,(K++[((newC n,b,x):RnG)])),absR_new _ _,by simp⟩ [] [0] []
end Go.Proofs.YtehpihmgjbmoaaaGreatDoor
namespace Go.Proofs.YtehpihmgjbmoaaaGreatDoor
open Go.RowKit
attribute [local irreducible] Ok
def lgQ (g:Nat) (v:Value) (T:List NtG) (ops:Int):Chk:=many [boxC ⟨g,lgV v ops,63⟩,rowO 85 35 v T.length (ntCsG T),many (T.map fun x=>sbC (x.1.p,x.2))]
set_option maxRecDepth 100000 in
set_option maxHeartbeats 4000000 in
theorem r17_Op {wb:World} {lg:Nat} {v:Value} {T:List NtG} {ops:Int} (h0:0≤ops) (h1:ops≤1000000000):Spec Tryz.prog wb 107 #[.pointer (some ⟨lg,0,none⟩)] [] [lgQ lg v T ops] (fun _:Unit=>.int .i64 (ops+1)) (fun _=>[]) (fun _=>[lgQ lg v T ((ops+1))]):=by
  intro w H;refine en_call Tryz.func107 H ?_;refine en_unpack 0 (lgQ lg v T ops) _ ?_;refine en_open 0 ⟨lg,lgV v ops,63⟩ ?_;refine en (EF [(.int .i64 (IntKind.i64.wrap (ops+1)),.int .i64 (ops+1))] ⟨addInt h0 (by omega),trivial⟩) (eC 4 (.b 0 1::.f 0::.c::.c::.s 0 1::eC 3 [.b 0 1,.c])) ?_;refine en_shut 0 ⟨lg,lgV v (ops+1),63⟩ ?_;refine en_pack [0,0,0] (lgQ lg v T ((ops+1))) _ ?_;exact en_rets () [] [0] []
set_option maxRecDepth 100000 in
set_option maxHeartbeats 4000000 in
theorem r17_Add {wb:World} {lg:Nat} {v:Value} {T:List NtG} {ops:Int} (n:Nt) (a:Option Addr) (c:Nat) (hT:T.length≤100000):Spec Tryz.prog wb 108 #[.pointer (some ⟨lg,0,none⟩),.agg (ntV n a c)] [] [lgQ lg v T ops,sbC (n.p,a,c)] (fun _:Value=>.tuple #[]) (fun _=>[]) (fun y=>[lgQ lg y (T++[(n,a,c)]) ops]):=by
  obtain ⟨i0,hi,hz0,hz1,hz2⟩:=info_parts gt_infoNt;intro w H;refine en_call Tryz.func108 H ?_;refine en_unpack 0 (lgQ lg v T ops) _ ?_;refine en_open 0 ⟨lg,lgV v ops,63⟩ ?_;refine en1 E0 [.x,.g [(0,0,1),(1,0,35)] 10 false,.d (eN 0 (eC 4 [.l 0 0,.l 1 0]))] fun N=>?_
  refine en_ops (ops_one 61 85 61 (.agg (ntV n a c)) (ntV n a c) rfl i0 _ hz1.symm Tryz.underlying61 hi hz0 (by rw [hz1];decide) (by rw [hz1];decide) (by rw [hz1];kernel_rfl) (by rw [hz1];rfl)) [] [] [(0,0,1),(1,0,35)] (fun b=>?_);refine en_ops (ops_app 61 61 85 i0 _ Tryz.underlying61 hi hz0 (hz1 ▸ rfl) (by rw [hz1];decide) (hz1.symm) (v:=v) (x:=.slice (some ⟨b,0,none⟩) 1 1) (n:=T.length) (m:=1) (xs:=ntCsG T) (news:=ntCG (n,a,c)) (ntCG_one _) (by unfold maxLen;omega) (by rw [hz2];omega)) [] [1,0] [(0,0,1),(1,0,35)] (fun v'=>?_);obtain ⟨T',hT'⟩:∃ T',T'=T++[(n,a,c)]:=⟨_,rfl⟩
  have e1:ntCsG T++ntCG (n,a,c)=ntCsG T':=by rw [hT'];unfold ntCsG;simp
  have e2:T.length+1=T'.length:=by rw [hT'];simp
  rw [e1,e2];refine en_fact (p:=∃ a2 c2,v'=.slice a2 T'.length c2) (fun w h=>by obtain ⟨a,c,h1,_⟩:=own_form (is_at h 0 (c:=rowO 85 35 v' T'.length (ntCsG T')) rfl);exact ⟨a,c,h1⟩) ?_;rintro ⟨a2,c2,rfl⟩;refine en E0 [.d (eN 8 [.c,.c]),.s 0 0] ?_;refine en_shut 0 ⟨lg,lgV (.slice a2 T'.length c2) ops,63⟩ ?_;refine en_in [4,3] (many (T'.map fun x=>sbC (x.1.p,x.2))) (sbC (n.p,a,c)) (T'.map fun x=>sbC (x.1.p,x.2)) (T.map fun x=>sbC (x.1.p,x.2)) (by rw [hT',List.map_append];exact (List.perm_append_singleton _ _).symm) ?_;refine en_pack [1,1,0] (lgQ lg (.slice a2 T'.length c2) T' ops) _ ?_;subst hT';exact en_rets (.slice a2 (T++[(n,a,c)]).length c2) [] [0] []
set_option maxRecDepth 100000 in
set_option maxHeartbeats 4000000 in
theorem r20_asks {wb:World} {g W u m b x lg k:Nat} {rv v:Value} {c:Cn} {T:List NtG} {ops:Int} {p:Pk} {a:Option Addr} {c2:Nat} (h0:0≤ops) (h1:ops≤100000) (hT:T.length≤10000) (hc:c.cl.size≤1000000):Spec Tryz.prog wb 90 #[.pointer (some ⟨g,0,none⟩),.pointer (some ⟨b,0,none⟩),.int .u8 (k:Int),.agg (pkV p a c2),.pointer (some ⟨lg,0,none⟩)] [⟨g,rgL W u m rv,69⟩,⟨b,cnL c x,72⟩] [lgQ lg v T ops,sbC (p,a,c2)] (fun y:Value × Nat=>.slice (some ⟨y.2,0,none⟩) 1 1) (fun _=>[⟨g,rgL W u m rv,69⟩,⟨b,cnL c x,72⟩]) (fun y=>[lgQ lg y.1 (T++[(askN (ops+1) c.num c.cl p,a,c2)]) (ops+1),rowO 51 40 (.slice (some ⟨y.2,0,none⟩) 1 1) 1 (mlC (askM W k (ops+1) c p,a,c2))]):=by
  obtain ⟨i0,hi,hz0,hz1,hz2⟩:=info_parts gt_infoMl;intro w H;refine en_call Tryz.func90 H ?_;refine en1 E0 [.x,.c,.c] fun P=>?_
  refine en_spec0 (r17_Op (lg:=lg) (v:=v) (T:=T) (ops:=ops) h0 (by omega)) [] [0] [] ?_;refine en E0 [.c,.g [(1,0,1),(1,4,1),(2,0,24)] 1000 false,.d (eN 0 (eC 5 (.l 0 0::eC 3 [.l 1 0,.l 2 0,.c])))] ?_;refine en_spec (r17_Add (lg:=lg) (v:=v) (T:=T) (ops:=ops+1) (askN (ops+1) c.num c.cl p) a c2 (by omega)) [] [0,0] [(1,0,1),(1,4,1),(2,0,24)] (fun v'=>?_);refine en (EK [] trivial [⟨74,#[.string c.cl,.int .i64 (W:Int)],.int .i64 (homeL (bl c.cl) (W:Int)),[],[]⟩] ⟨fun _ w _ _=>ref08_Home c.cl (W:Int) w (by omega),trivial⟩) [.g [(1,4,1),(0,0,1),(1,0,1),(2,0,24)] 1000 false,.d [(0,.c),(1,.c),(2,.c),(3,.l 0 0),(4,.c),(5,.c),(6,.c),(7,.l 1 0),(9,.c),(10,.c),(11,.c),(12,.c),(13,.c),(14,.l 2 0),(15,.c),(16,.c),(17,.c),(18,.l 0 0),(19,.l 3 0),(20,.c)],.k 0,.d (eN 21 [.c])] ?_;refine en_ops (ops_one 46 51 46 (.agg (mlC (askM W k (ops+1) c p,a,c2)).toArray) (mlC (askM W k (ops+1) c p,a,c2)).toArray rfl i0 _ hz1.symm Tryz.underlying46 hi hz0 (by rw [hz1];decide) (by rw [hz1];decide) (by rw [hz1];kernel_rfl) (by rw [hz1];rfl)) [] [] [(1,4,1),(0,0,1),(1,0,1),(2,0,24)] (fun d=>?_);refine en E0 [.d (eN 23 [.c])] ?_;exact en_rets (v',d) [0,0] [1,0] []
set_option maxRecDepth 100000 in
set_option maxHeartbeats 4000000 in
theorem r20_cutF {wb:World} {g W u m b x lg:Nat} {rv:Value} {c:Cn} (hs:c.st≠3):Spec Tryz.prog wb 68 #[.pointer (some ⟨g,0,none⟩),.pointer (some ⟨b,0,none⟩),.pointer (some ⟨lg,0,none⟩)] [⟨g,rgL W u m rv,69⟩,⟨b,cnL c x,72⟩] [] (fun _:Unit=>.slice none 0 0) (fun _=>[⟨g,rgL W u m rv,69⟩,⟨b,cnL { c with st:=6 } x,72⟩]) (fun _=>[]):=by
  intro w H;refine en_call Tryz.func68 H ?_;refine en (EF [(.bool ((((c.st:Int)):Int) == 3),.bool false)] ⟨eqI' (by omega),trivial⟩) (eC 4 (.b 1 1::eC 4 [.s 1 1,.c,.f 0,.c])) ?_;exact en_rets () [0,0] [] []
set_option maxRecDepth 100000 in
set_option maxHeartbeats 4000000 in
theorem r20_cutL {wb:World} {g W u m b x lg:Nat} {rv v:Value} {c:Cn} {T:List NtG} {ops:Int} (h0:0≤ops) (h1:ops≤100000) (hT:T.length≤10000) (hc:c.cl.size≤1000000) (hs:c.st=3):Spec Tryz.prog wb 68 #[.pointer (some ⟨g,0,none⟩),.pointer (some ⟨b,0,none⟩),.pointer (some ⟨lg,0,none⟩)] [⟨g,rgL W u m rv,69⟩,⟨b,cnL c x,72⟩] [lgQ lg v T ops] (fun y:Value × Nat=>.slice (some ⟨y.2,0,none⟩) 1 1) (fun _=>[⟨g,rgL W u m rv,69⟩,⟨b,cnL { c with st:=6 } x,72⟩]) (fun y=>[lgQ lg y.1 (T++[(askN (ops+1) c.num c.cl Pk.zero,none,0)]) (ops+1),rowO 51 40 (.slice (some ⟨y.2,0,none⟩) 1 1) 1 (mlC (askM W 2 (ops+1) c Pk.zero,none,0))]):=by
  intro w H;refine en_call Tryz.func68 H ?_;refine en (EF [(.bool ((((c.st:Int)):Int) == 3),.bool true)] ⟨eqI (by omega),trivial⟩) (eC 4 (.b 1 1::eC 4 (.s 1 1::.c::.f 0::eC 4 []))) ?_;refine en_row0 112 2 ?_;refine en_spec (r20_asks (g:=g) (W:=W) (u:=u) (m:=m) (b:=b) (x:=x) (lg:=lg) (k:=2) (rv:=rv) (v:=v) (c:={ c with st:=6 }) (T:=T) (ops:=ops) (p:=Pk.zero) (a:=none) (c2:=0) h0 h1 hT hc) [0,0] [1,0] [] (fun y=>?_);obtain ⟨v',d⟩:=y;refine en E0 [.c] ?_;exact en_rets (v',d) [0,0] [0,0] []
end Go.Proofs.YtehpihmgjbmoaaaGreatDoor
