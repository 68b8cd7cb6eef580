import Derived.Test.YtehpihmgjbmoaaaGreatDoorJoinZC
import Derived.Test.YtehpihmgjbmoaaaGreatDoorJoinZG
namespace Go.Proofs.YtehpihmgjbmoaaaGreatDoor
open Go.RowKit
attribute [local irreducible] Ok
abbrev RnG:=Cn × Nat × Nat
def rcC (m:Nat) (c:RnG):Chk:=many [boxC ⟨c.2.1,cnL c.1 c.2.2,72⟩,boxC ⟨c.2.2,rfL m c.1.L c.1.e,146⟩]
def ptR (c:RnG):Value:=.pointer (some ⟨c.2.1,0,none⟩)
def rgL (W u m:Nat) (v:Value):List Value:=[.int .i64 (W:Int),.int .i64 (u:Int),.int .i64 (m:Int),v]
def rgC (g W u m:Nat) (v:Value) (K:List RnG):Chk:=many [boxC ⟨g,rgL W u m v,69⟩,rowO 73 1 v K.length (K.map ptR),many (K.map (rcC m))]
def absR (K:List RnG):List Cn:=K.map (·.1)
def getJ:List RnG→Int→Option Nat
  | [],_=>none
  | c::K,n=>if n=c.1.num then some 0 else (getJ K n).map (·+1)
def idxR:Option Nat→Int
  | none=>-1
  | some j=>(j:Int)
theorem getJ_none:∀ {K:List RnG} {n:Int},(∀ d ∈ K,n≠d.1.num)→getJ K n=none
  | [],_,_=>rfl
  | c::K,n,h=>by
    unfold getJ;rw [if_neg (h c List.mem_cons_self),getJ_none (fun d hd=>h d (List.mem_cons_of_mem _ hd))];rfl
theorem getJ_at:∀ {A:List RnG} {c:RnG} {B:List RnG} {n:Int},(∀ d ∈ A,n≠d.1.num)→n=c.1.num→getJ (A++c::B) n=some A.length
  | [],c,B,n,_,h=>if_pos h
  | d::A,c,B,n,h,h2=>by
    show (if n=d.1.num then some 0 else (getJ (A++c::B) n).map (·+1))=_;rw [if_neg (h d List.mem_cons_self),getJ_at (fun x hx=>h x (List.mem_cons_of_mem _ hx)) h2];rfl
theorem getJ_some:∀ {K:List RnG} {n:Int} {j:Nat},getJ K n=some j→∃ A c B,K=A++c::B∧A.length=j∧c.1.num=n∧∀ d ∈ A,n≠d.1.num
  | d::K,n,j,h=>by
    unfold getJ at h;split at h
    · rename_i e
      injection h with h
      subst h;exact ⟨[],d,K,rfl,rfl,e.symm,fun x hx=>by cases hx⟩
    · rename_i e
      cases hj:getJ K n with
      | none=>rw [hj] at h;cases h
      | some i =>
        rw [hj] at h;injection h with h
        obtain ⟨A,c,B,h1,h2,h3,h4⟩:=getJ_some hj;refine ⟨d::A,c,B,by rw [h1];rfl,by rw [List.length_cons,h2];exact h,h3,fun x hx=>?_⟩;rcases List.mem_cons.1 hx with rfl | hx
        · exact e
        · exact h4 x hx
theorem getJ_no:∀ {K:List RnG} {n:Int},getJ K n=none→getG (absR K) n=none
  | [],_,_=>rfl
  | c::K,n,h=>by
    unfold getJ at h;split at h
    · cases h
    · rename_i e
      show (if n=c.1.num then some c.1 else getG (absR K) n)=none;rw [if_neg e];refine getJ_no ?_;cases hj:getJ K n with
      | none=>rfl
      | some i=>rw [hj] at h;cases h
theorem getG_mid:∀ {A:List RnG} {c:RnG} {B:List RnG} {n:Int},(∀ d ∈ A,n≠d.1.num)→c.1.num=n→getG (absR (A++c::B)) n=some c.1
  | [],c,B,n,_,h=>if_pos h.symm
  | d::A,c,B,n,h,h2=>by
    show (if n=d.1.num then some d.1 else getG (absR (A++c::B)) n)=_;rw [if_neg (h d List.mem_cons_self),getG_mid (fun x hx=>h x (List.mem_cons_of_mem _ hx)) h2]
theorem modR (f:Cn→Cn) {c c':RnG} {B:List RnG} {n:Int} (h1:c.1.num=n) (h2:c'.1=f c.1):∀ (A:List RnG),(∀ d ∈ A,n≠d.1.num)→absR (A++c'::B)=modG f (absR (A++c::B)) n
  | [],_=>by
    show c'.1::absR B=if n=c.1.num then f c.1::absR B else _
    rw [if_pos h1.symm,h2]
  | d::A,h=>by
    show d.1::absR (A++c'::B)=if n=d.1.num then _ else d.1::modG f (absR (A++c::B)) n
    rw [if_neg (h d List.mem_cons_self),modR f h1 h2 A (fun x hx=>h x (List.mem_cons_of_mem _ hx))]
theorem modR_no (f:Cn→Cn):∀ {K:List RnG} {n:Int},getJ K n=none→absR K=modG f (absR K) n
  | [],_,_=>rfl
  | c::K,n,h=>by
    unfold getJ at h;split at h
    · cases h
    · rename_i e
      show c.1::absR K=if n=c.1.num then _ else c.1::modG f (absR K) n
      rw [if_neg e,← modR_no f];cases hj:getJ K n with
      | none=>rfl
      | some i=>rw [hj] at h;cases h
theorem rc_out (m:Nat) (c:RnG) (A B:List RnG):((A++c::B).map (rcC m)).Perm (rcC m c::((A++B).map (rcC m))):=by
  rw [List.map_append,List.map_append,List.map_cons];exact List.perm_middle
theorem pt_at {w:World} {v:Value} {A B:List RnG} {c:RnG} (h:(rowO 73 1 v (A++c::B).length ((A++c::B).map ptR)).is w):∃ gl cap,v=.slice (some ⟨gl,0,none⟩) (A++c::B).length cap∧w.rangeAt gl (0+A.length * 1) [ptR c]:=by
  have hc:((A++c::B).map ptR)[A.length]? = some (ptR c):=by rw [List.map_append,List.getElem?_append_right (by simp)];simp
  rcases h.2 with ⟨_,h3⟩ | ⟨gl,cap,cur,h2,_⟩
  · simp at h3
  · subst h2
    refine ⟨gl,cap,rfl,?_⟩;obtain ⟨b,o,e,hj⟩:=own_cells (show w.ownsRow 0 73 1 _ _ _ from h) A.length _ hc;injection e with e
    injection e with e1 e2
    subst e1 e2;intro j u hu;cases j with
    | zero =>
      simp only [List.getElem?_cons_zero,Option.some.injEq] at hu;subst hu;rw [Nat.mul_one,Nat.add_zero];exact hj
    | succ j=>simp at hu
theorem pt_ix {w:World} {A B:List RnG} {c:RnG} {gl n cap:Nat} (h:(rowO 73 1 (.slice (some ⟨gl,0,none⟩) n cap) (A++c::B).length ((A++c::B).map ptR)).is w):w.rangeAt gl (0+A.length * 1) [ptR c]:=by
  obtain ⟨g',c',h3,h4⟩:=pt_at h;injection h3 with h3
  injection h3 with h3
  injection h3 with h3
  subst h3;exact h4
theorem set_ptR {c c':RnG} {A B:List RnG} (h:c'.2.1=c.2.1):(A++c'::B).map ptR=(A++c::B).map ptR:=by
  rw [List.map_append,List.map_append,List.map_cons,List.map_cons];unfold ptR;rw [h]
theorem take_oneR (A:List RnG) (c:RnG) (B:List RnG):(A++c::B).take (A.length+1)=A++[c]:=by
  rw [List.take_append,List.take_of_length_le (Nat.le_succ _)];simp
theorem set_lenR {c c':RnG} {A B:List RnG}:(A++c'::B).length=(A++c::B).length:=by simp
theorem rc_shut {P:Program} {Q:Exit→Act→World→Prop} {n:Nat} {wb w0:World} {H:Nat→Prop} {s:Sg} {l:List Chk} (g W u m gl cap b x:Nat) (A:List RnG) (c c':Cn) (B:List RnG) (ks cs:List Nat)
    (k:Ok P Q n wb w0 H (many (rgC g W u m (.slice (some ⟨gl,0,none⟩) (A++(c,b,x)::B).length cap) (A++(c',b,x)::B)::restI cs l)) ⟨s.cfg,s.L,restI ks s.B⟩)
    (hb:headI ks s.B=some [⟨b,cnL c' x,72⟩,⟨g,rgL W u m (.slice (some ⟨gl,0,none⟩) (A++(c,b,x)::B).length cap),69⟩]:=by kernel_rfl)
    (hc:headI cs l=some [boxC ⟨x,rfL m c'.L c'.e,146⟩,many ((A++B).map (rcC m)),rowO 73 1 (.slice (some ⟨gl,0,none⟩) (A++(c,b,x)::B).length cap) (A++(c,b,x)::B).length ((A++(c,b,x)::B).map ptR)]:=by kernel_rfl):Ok P Q n wb w0 H (many l) s:=by
  unfold Ok at k ⊢;intro a w F HK;refine k a w F ?_;have er:rowO 73 1 (.slice (some ⟨gl,0,none⟩) (A++(c,b,x)::B).length cap) (A++(c,b,x)::B).length ((A++(c,b,x)::B).map ptR)=rowO 73 1 (.slice (some ⟨gl,0,none⟩) (A++(c,b,x)::B).length cap) (A++(c',b,x)::B).length ((A++(c',b,x)::B).map ptR):=by rw [set_ptR (c:=(c,b,x)) (c':=(c',b,x)) rfl,set_lenR (c:=(c,b,x)) (c':=(c',b,x))]
  rw [er] at hc;have H2:=(HK.perm (headI_perm hb) (headI_perm hc)).perm ((List.perm_append_comm (l₁:=[_]) (l₂:=_::_)).trans (List.Perm.append_right _ (List.perm_append_comm (l₁:=[_])))) (List.Perm.refl _);have H5:=(Kp.shut _ (Kp.shut _ H2)).perm (List.Perm.refl _) ((List.Perm.swap _ _ _).trans (List.Perm.cons _ ((List.Perm.swap _ _ _).trans (List.Perm.cons _ (List.Perm.swap _ _ _)))));have H7:=many_in (c:=rcC m (c',b,x)) (R:=(A++B).map (rcC m)) (rc_out m (c',b,x) A B).symm (Kp.deep (l:=[_,_]) _ H5);exact Kp.deep (l:=[_,_,_]) _ (H7.perm (List.Perm.refl _) ((List.Perm.swap _ _ _).trans (List.Perm.cons _ (List.Perm.swap _ _ _))))
set_option maxRecDepth 100000 in
set_option maxHeartbeats 4000000 in
theorem r20_New {wb:World} {W u m:Nat}:Spec Tryz.prog wb 21 #[.int .i64 (W:Int),.int .i64 (u:Int),.int .i64 (m:Int)] [] [] (fun g:Nat=>.pointer (some ⟨g,0,none⟩)) (fun _=>[]) (fun g=>[rgC g W u m (.slice none 0 0) []]):=by
  intro w H;refine en_call Tryz.func21 H ?_;refine en1 E0 (eC 5 [.x,.c]) fun g=>?_
  refine en_row0 73 1 ?_;refine en_new0 (many []) ?_ (fun _=>⟨fun c hc=>(by cases hc),List.Pairwise.nil⟩) (fun j ⟨c,hc,_⟩=>(by cases hc));refine en_shut 0 ⟨g,rgL W u m (.slice none 0 0),69⟩ ?_;refine en_pack [0,1,0] (rgC g W u m (.slice none 0 0) []) _ ?_;exact en_rets g [] [0] []
set_option maxRecDepth 100000 in
set_option maxHeartbeats 4000000 in
theorem r20_find {wb:World} {g W u m:Nat} {v:Value} {K:List RnG} (n:Int) (hK:K.length≤1000000):Spec Tryz.prog wb 52 #[.pointer (some ⟨g,0,none⟩),.int .i64 n] [] [rgC g W u m v K] (fun _:Unit=>.int .i64 (idxR (getJ K n))) (fun _=>[]) (fun _=>[rgC g W u m v K]):=by
  obtain ⟨z,hz⟩:∃ z,getJ K n=z:=⟨_,rfl⟩
  rw [hz];intro w H;refine en_call Tryz.func52 H ?_;refine en E0 [.c,.c] ?_;refine en_loopP (codeOf Tryz.f52) [1,0,1,0] [1,0,1,0,0] [] (α:={i:Nat // i≤K.length∧∀ d ∈ K.take i,n≠d.1.num}) (fun y=>K.length - y.1) (fun y=>[(0,.pointer (some ⟨g,0,none⟩)),(1,.int .i64 n),(5,.int .i64 (y.1:Int))]) (fun y=>[]) (fun y=>many [rgC g W u m v K]) ⟨0,Nat.zero_le _,fun d hd=>(by cases hd)⟩ (by kernel_rfl) ?_;intro ⟨i,hi,hd⟩ J HJ;simp only at HJ
  by_cases hk:i < K.length
  · obtain ⟨A,c,b,x,B,hA,rfl⟩:∃ (A:List RnG) (c:Cn) (b x:Nat) (B:List RnG),K=A++(c,b,x)::B∧i=A.length:=⟨K.take i,(K[i]).1,(K[i]).2.1,(K[i]).2.2,K.drop (i+1),by rw [← List.drop_eq_getElem_cons hk,List.take_append_drop],by rw [List.length_take];omega⟩
    subst hA;have htk:(A++(c,b,x)::B).take A.length=A:=List.take_left;have hlt:A.length < (A++(c,b,x)::B).length:=hk;rw [htk] at hd;refine en_unpack 0 (rgC g W u m v (A++(c,b,x)::B)) _ ?_;refine en_open 0 ⟨g,rgL W u m v,69⟩ ?_;refine en_factK (p:=∃ gl cap,v=.slice (some ⟨gl,0,none⟩) (A++(c,b,x)::B).length cap) (fun w h=>by obtain ⟨gl,cap,h1,_⟩:=pt_at (is_at h.hp.is 0 (c:=rowO 73 1 v (A++(c,b,x)::B).length ((A++(c,b,x)::B).map ptR)) rfl);exact ⟨gl,cap,h1⟩) ?_;rintro ⟨gl,cap,rfl⟩;refine en_out 1 (many ((A++(c,b,x)::B).map (rcC m))) (rcC m (c,b,x)) ((A++(c,b,x)::B).map (rcC m)) ((A++B).map (rcC m)) (rc_out m (c,b,x) A B) ?_;refine en_unpack 0 (rcC m (c,b,x)) _ ?_;refine en_open 0 ⟨b,cnL c x,72⟩ ?_;by_cases hn:c.num=n
    · refine en ⟨⟨[⟨gl,0+A.length * 1,[ptR (c,b,x)]⟩],[]⟩,[(.bool (decide ((((A.length:Int)):Int) < ((A++(c,b,x)::B).length:Int))),.bool true),(.bool (((c.num):Int) == n),.bool true)],[⟨some ⟨gl,0,none⟩,(A++(c,b,x)::B).length,cap,.i64,A.length,1,⟨gl,0+A.length * 1,none⟩⟩],[],fun _ _ h=>⟨⟨pt_ix (is_at h.hp.is 2 rfl),trivial⟩,trivial⟩,⟨dcT (by omega),eqI (by omega),trivial⟩,⟨⟨gl,0,A.length,rfl,rfl,hlt,rfl⟩,trivial⟩,trivial⟩ (eC 4 (.b 0 3::.c::.f 0::eC 3 [.b 0 3,.c,.i 0,.l 0 0,.c,.c,.b 1 0,.c,.f 1,.c,.c])) ?_
      refine rc_shut g W u m gl cap b x A c c B [1,0] [0,0,0] ?_;have hz2:z=some A.length:=by rw [← hz];exact getJ_at hd hn.symm
      subst hz2;exact en_rets () [] [0] []
    · refine en ⟨⟨[⟨gl,0+A.length * 1,[ptR (c,b,x)]⟩],[]⟩,[(.bool (decide ((((A.length:Int)):Int) < ((A++(c,b,x)::B).length:Int))),.bool true),(.bool (((c.num):Int) == n),.bool false),(.int .i64 (IntKind.i64.wrap ((A.length:Int)+1)),.int .i64 ((A.length+1:Nat):Int))],[⟨some ⟨gl,0,none⟩,(A++(c,b,x)::B).length,cap,.i64,A.length,1,⟨gl,0+A.length * 1,none⟩⟩],[],fun _ _ h=>⟨⟨pt_ix (is_at h.hp.is 2 rfl),trivial⟩,trivial⟩,⟨dcT (by omega),eqI' (by omega),addI (by omega),trivial⟩,⟨⟨gl,0,A.length,rfl,rfl,hlt,rfl⟩,trivial⟩,trivial⟩ (eC 4 (.b 0 3::.c::.f 0::eC 3 [.b 0 3,.c,.i 0,.l 0 0,.c,.c,.b 1 0,.c,.f 1,.c,.f 2,.c])) ?_
      refine rc_shut g W u m gl cap b x A c c B [1,0] [0,0,0] ?_;refine en_drop [] [0] ?_;exact en_stopI (fun a w F HK=>HJ ⟨A.length+1,by omega,fun d h=>by rw [show (A++(c,b,x)::B).take (A.length+1)=A++[(c,b,x)] from take_oneR _ _ _] at h;rcases List.mem_append.1 h with h | h;exact hd d h;rw [List.mem_singleton] at h;rw [h];exact fun h=>hn h.symm⟩ a w (by show _ - (A.length+1) < _ - A.length;omega) F HK)
  have hz2:z=none:=by rw [← hz];exact getJ_none (fun d h=>hd d (by rw [List.take_of_length_le (by omega)];exact h))
  subst hz2;refine en_unpack 0 (rgC g W u m v K) _ ?_;refine en_open 0 ⟨g,rgL W u m v,69⟩ ?_;refine en_fact (p:=∃ a k,v=.slice a K.length k) (fun w h=>by obtain ⟨a,k,h1,_⟩:=own_form (is_at h 0 (c:=rowO 73 1 v K.length (K.map ptR)) rfl);exact ⟨a,k,h1⟩) ?_;rintro ⟨a,k,rfl⟩;refine en (EF [(.bool (decide ((((i:Int)):Int) < (K.length:Int))),.bool false)] ⟨dcF (by omega),trivial⟩) (eC 4 [.b 0 3,.c,.f 0,.c]) ?_;refine en_shut 0 ⟨g,rgL W u m (.slice a K.length k),69⟩ ?_;refine en_pack [0,0,0] (rgC g W u m (.slice a K.length k) K) _ ?_;exact en_rets () [] [0] []
set_option maxRecDepth 100000 in
set_option maxHeartbeats 4000000 in
theorem r20_Hangup {wb:World} {g W u m:Nat} {v:Value} {K:List RnG} (n:Int) (hK:K.length≤1000000)  : Spec Tryz.prog wb 47 #[.pointer (some ⟨g,0,none⟩),.int .i64 n] [] [rgC g W u m v K] (fun _:{y:Value × List RnG // absR y.2=modG (fun c=>{ c with hung:=true }) (absR K) n∧y.2.length=K.length}=>.bool ((getG (absR K) n).isSome)) (fun _=>[]) (fun y=>[rgC g W u m y.1.1 y.1.2]):=by
  obtain ⟨z,hz⟩:∃ z,(getG (absR K) n).isSome=z:=⟨_,rfl⟩
  rw [hz];have HF:=r20_find (wb:=wb) (g:=g) (W:=W) (u:=u) (m:=m) (v:=v) (K:=K) n hK;cases hj:getJ K n with
  | none =>
    rw [hj] at HF;have hg:=getJ_no hj;obtain rfl:z=false:=by rw [← hz];rw [hg];rfl
    intro w H;refine en_call Tryz.func47 H ?_;refine en E0 (eC 3 []) ?_;refine en_spec0 (HF) [] [0] [] ?_;refine en E0 (eC 6 []) ?_;exact en_rets ⟨(v,K),modR_no _ hj,rfl⟩ [] [0] []
  | some j =>
    obtain ⟨A,⟨c,b,x⟩,B,rfl,rfl,hc,hA⟩:=getJ_some hj;rw [hj] at HF;have hg:=getG_mid (c:=(c,b,x)) (B:=B) hA hc;have hlt:A.length < (A++(c,b,x)::B).length:=by simp
    obtain rfl:z=true:=by rw [← hz];rw [hg];rfl
    intro w H;refine en_call Tryz.func47 H ?_;refine en E0 (eC 3 []) ?_;refine en_spec0 (HF) [] [0] [] ?_;refine en_unpack 0 (rgC g W u m v (A++(c,b,x)::B)) _ ?_;refine en_open 0 ⟨g,rgL W u m v,69⟩ ?_;refine en_factK (p:=∃ gl cap,v=.slice (some ⟨gl,0,none⟩) (A++(c,b,x)::B).length cap) (fun w h=>by obtain ⟨gl,cap,h1,_⟩:=pt_at (is_at h.hp.is 0 (c:=rowO 73 1 v (A++(c,b,x)::B).length ((A++(c,b,x)::B).map ptR)) rfl);exact ⟨gl,cap,h1⟩) ?_;rintro ⟨gl,cap,rfl⟩;refine en_out 1 (many ((A++(c,b,x)::B).map (rcC m))) (rcC m (c,b,x)) ((A++(c,b,x)::B).map (rcC m)) ((A++B).map (rcC m)) (rc_out m (c,b,x) A B) ?_;refine en_unpack 0 (rcC m (c,b,x)) _ ?_;refine en_open 0 ⟨b,cnL c x,72⟩ ?_;refine en ⟨⟨[⟨gl,0+A.length * 1,[ptR (c,b,x)]⟩],[]⟩,[(.bool (decide ((((A.length:Int)):Int) ≥ 0)),.bool true),(.bool (decide ((((A.length:Int)):Int) ≥ 0)),.bool true)],[⟨some ⟨gl,0,none⟩,(A++(c,b,x)::B).length,cap,.i64,A.length,1,⟨gl,0+A.length * 1,none⟩⟩],[],fun _ _ h=>⟨⟨pt_ix (is_at h.hp.is 2 rfl),trivial⟩,trivial⟩,⟨dcT (by omega),dcT (by omega),trivial⟩,⟨⟨gl,0,A.length,rfl,rfl,hlt,rfl⟩,trivial⟩,trivial⟩ (.c::.c::.f 0::eC 3 [.b 0 3,.c,.i 0,.l 0 0,.c,.c,.s 1 3,.c,.f 1,.c]) ?_;refine rc_shut g W u m gl cap b x A c ({ c with hung:=true }) B [1,0] [0,0,0] ?_;exact en_rets ⟨(.slice (some ⟨gl,0,none⟩) (A++(c,b,x)::B).length cap,(A++({ c with hung:=true },b,x)::B)),modR (c:=(c,b,x)) (c':=({ c with hung:=true },b,x)) _ hc (rfl) A hA,set_lenR⟩ [] [0] []
set_option maxRecDepth 100000 in
set_option maxHeartbeats 4000000 in
theorem r20_Drain {wb:World} {g W u m:Nat} {v:Value} {K:List RnG} (n:Int) (hK:K.length≤1000000)  : Spec Tryz.prog wb 49 #[.pointer (some ⟨g,0,none⟩),.int .i64 n] [] [rgC g W u m v K] (fun _:{y:Value × List RnG // absR y.2=modG (dropD) (absR K) n∧y.2.length=K.length}=>.string (drainG (absR K) n)) (fun _=>[]) (fun y=>[rgC g W u m y.1.1 y.1.2]):=by
  obtain ⟨z,hz⟩:∃ z,drainG (absR K) n=z:=⟨_,rfl⟩
  rw [hz];have HF:=r20_find (wb:=wb) (g:=g) (W:=W) (u:=u) (m:=m) (v:=v) (K:=K) n hK;cases hj:getJ K n with
  | none =>
    rw [hj] at HF;have hg:=getJ_no hj;obtain rfl:z=⟨#[]⟩:=by rw [← hz];unfold drainG;rw [hg];rfl
    intro w H;refine en_call Tryz.func49 H ?_;refine en E0 (eC 3 []) ?_;refine en_spec0 (HF) [] [0] [] ?_;refine en E0 (eC 4 []) ?_;exact en_rets ⟨(v,K),modR_no _ hj,rfl⟩ [] [0] []
  | some j =>
    obtain ⟨A,⟨c,b,x⟩,B,rfl,rfl,hc,hA⟩:=getJ_some hj;rw [hj] at HF;have hg:=getG_mid (c:=(c,b,x)) (B:=B) hA hc;have hlt:A.length < (A++(c,b,x)::B).length:=by simp
    obtain rfl:z=c.drain:=by rw [← hz];unfold drainG;rw [hg];rfl
    intro w H;refine en_call Tryz.func49 H ?_;refine en E0 (eC 3 []) ?_;refine en_spec0 (HF) [] [0] [] ?_;refine en_unpack 0 (rgC g W u m v (A++(c,b,x)::B)) _ ?_;refine en_open 0 ⟨g,rgL W u m v,69⟩ ?_;refine en_factK (p:=∃ gl cap,v=.slice (some ⟨gl,0,none⟩) (A++(c,b,x)::B).length cap) (fun w h=>by obtain ⟨gl,cap,h1,_⟩:=pt_at (is_at h.hp.is 0 (c:=rowO 73 1 v (A++(c,b,x)::B).length ((A++(c,b,x)::B).map ptR)) rfl);exact ⟨gl,cap,h1⟩) ?_;rintro ⟨gl,cap,rfl⟩;refine en_out 1 (many ((A++(c,b,x)::B).map (rcC m))) (rcC m (c,b,x)) ((A++(c,b,x)::B).map (rcC m)) ((A++B).map (rcC m)) (rc_out m (c,b,x) A B) ?_;refine en_unpack 0 (rcC m (c,b,x)) _ ?_;refine en_open 0 ⟨b,cnL c x,72⟩ ?_;refine en ⟨⟨[⟨gl,0+A.length * 1,[ptR (c,b,x)]⟩],[]⟩,[(.bool (decide ((((A.length:Int)):Int) < 0)),.bool false)],[⟨some ⟨gl,0,none⟩,(A++(c,b,x)::B).length,cap,.i64,A.length,1,⟨gl,0+A.length * 1,none⟩⟩,⟨some ⟨gl,0,none⟩,(A++(c,b,x)::B).length,cap,.i64,A.length,1,⟨gl,0+A.length * 1,none⟩⟩],[],fun _ _ h=>⟨⟨pt_ix (is_at h.hp.is 2 rfl),trivial⟩,trivial⟩,⟨dcF (by omega),trivial⟩,⟨⟨gl,0,A.length,rfl,rfl,hlt,rfl⟩,⟨gl,0,A.length,rfl,rfl,hlt,rfl⟩,trivial⟩,trivial⟩ (.c::.c::.f 0::eC 3 (.b 0 3::.c::.i 0::.l 0 0::.c::.c::.b 1 8::eC 4 [.b 0 3,.c,.i 1,.l 0 0,.c,.c,.s 1 8,.c,.c])) ?_;refine rc_shut g W u m gl cap b x A c (dropD c) B [1,0] [0,0,0] ?_;exact en_rets ⟨(.slice (some ⟨gl,0,none⟩) (A++(c,b,x)::B).length cap,(A++(dropD c,b,x)::B)),modR (c:=(c,b,x)) (c':=(dropD c,b,x)) _ hc (rfl) A hA,set_lenR⟩ [] [0] []
set_option maxRecDepth 100000 in
set_option maxHeartbeats 4000000 in
theorem r20_Feed {wb:World} {g W u m:Nat} {v:Value} {K:List RnG} (n:Int) (hK:K.length≤1000000) (s:ByteArray) (hl:∀ c,getG (absR K) n=some c→c.L.length+s.size≤300000000):Spec Tryz.prog wb 46 #[.pointer (some ⟨g,0,none⟩),.int .i64 n,.string s] [] [rgC g W u m v K] (fun _:{y:Value × List RnG // absR y.2=modG (fedC s) (absR K) n∧y.2.length=K.length}=>.bool ((getG (absR K) n).isSome)) (fun _=>[]) (fun y=>[rgC g W u m y.1.1 y.1.2]):=by
  obtain ⟨z,hz⟩:∃ z,(getG (absR K) n).isSome=z:=⟨_,rfl⟩
  rw [hz];have HF:=r20_find (wb:=wb) (g:=g) (W:=W) (u:=u) (m:=m) (v:=v) (K:=K) n hK;cases hj:getJ K n with
  | none =>
    rw [hj] at HF;have hg:=getJ_no hj;obtain rfl:z=false:=by rw [← hz];rw [hg];rfl
    intro w H;refine en_call Tryz.func46 H ?_;refine en E0 (eC 3 []) ?_;refine en_spec0 (HF) [] [0] [] ?_;refine en E0 (eC 19 []) ?_;exact en_rets ⟨(v,K),modR_no _ hj,rfl⟩ [] [0] []
  | some j =>
    obtain ⟨A,⟨c,b,x⟩,B,rfl,rfl,hc,hA⟩:=getJ_some hj;rw [hj] at HF;have hg:=getG_mid (c:=(c,b,x)) (B:=B) hA hc;have hlt:A.length < (A++(c,b,x)::B).length:=by simp
    obtain rfl:z=true:=by rw [← hz];rw [hg];rfl
    intro w H;refine en_call Tryz.func46 H ?_;refine en E0 (eC 3 []) ?_;refine en_spec0 (HF) [] [0] [] ?_;refine en_unpack 0 (rgC g W u m v (A++(c,b,x)::B)) _ ?_;refine en_open 0 ⟨g,rgL W u m v,69⟩ ?_;refine en_factK (p:=∃ gl cap,v=.slice (some ⟨gl,0,none⟩) (A++(c,b,x)::B).length cap) (fun w h=>by obtain ⟨gl,cap,h1,_⟩:=pt_at (is_at h.hp.is 0 (c:=rowO 73 1 v (A++(c,b,x)::B).length ((A++(c,b,x)::B).map ptR)) rfl);exact ⟨gl,cap,h1⟩) ?_;rintro ⟨gl,cap,rfl⟩;refine en_out 1 (many ((A++(c,b,x)::B).map (rcC m))) (rcC m (c,b,x)) ((A++(c,b,x)::B).map (rcC m)) ((A++B).map (rcC m)) (rc_out m (c,b,x) A B) ?_;refine en_unpack 0 (rcC m (c,b,x)) _ ?_;refine en_open 0 ⟨b,cnL c x,72⟩ ?_;by_cases h6:c.st=6
    · refine en ⟨⟨[⟨gl,0+A.length * 1,[ptR (c,b,x)]⟩],[]⟩,[(.bool (decide ((((A.length:Int)):Int) ≥ 0)),.bool true),(.bool ((((c.st:Int)):Int) != 6),.bool false),(.bool (decide ((((A.length:Int)):Int) ≥ 0)),.bool true)],[⟨some ⟨gl,0,none⟩,(A++(c,b,x)::B).length,cap,.i64,A.length,1,⟨gl,0+A.length * 1,none⟩⟩],[],fun _ _ h=>⟨⟨pt_ix (is_at h.hp.is 2 rfl),trivial⟩,trivial⟩,⟨dcT (by omega),neI' (by omega),dcT (by omega),trivial⟩,⟨⟨gl,0,A.length,rfl,rfl,hlt,rfl⟩,trivial⟩,trivial⟩ (.c::.c::.f 0::eC 4 [.b 0 3,.c,.i 0,.l 0 0,.c,.c,.b 1 1,.f 1,.c,.c,.f 2,.c]) ?_
      refine rc_shut g W u m gl cap b x A c c B [1,0] [0,0,0] ?_;exact en_rets ⟨(.slice (some ⟨gl,0,none⟩) (A++(c,b,x)::B).length cap,(A++(c,b,x)::B)),modR (c:=(c,b,x)) (c':=(c,b,x)) _ hc (by unfold fedC;rw [if_pos (Or.inl h6)]) A hA,set_lenR⟩ [] [0] []
    by_cases he:c.e≠0
    · refine en_open 0 ⟨x,rfL m c.L c.e,146⟩ ?_
      refine en ⟨⟨[⟨gl,0+A.length * 1,[ptR (c,b,x)]⟩],[]⟩,[(.bool (decide ((((A.length:Int)):Int) ≥ 0)),.bool true),(.bool ((((c.st:Int)):Int) != 6),.bool true)],[⟨some ⟨gl,0,none⟩,(A++(c,b,x)::B).length,cap,.i64,A.length,1,⟨gl,0+A.length * 1,none⟩⟩,⟨some ⟨gl,0,none⟩,(A++(c,b,x)::B).length,cap,.i64,A.length,1,⟨gl,0+A.length * 1,none⟩⟩],[],fun _ _ h=>⟨⟨pt_ix (is_at h.hp.is 1 rfl),trivial⟩,trivial⟩,⟨dcT (by omega),neI (by omega),trivial⟩,⟨⟨gl,0,A.length,rfl,rfl,hlt,rfl⟩,⟨gl,0,A.length,rfl,rfl,hlt,rfl⟩,trivial⟩,trivial⟩ (.c::.c::.f 0::eC 4 (.b 0 3::.c::.i 0::.l 0 0::.c::.c::.b 1 1::.f 1::eC 4 [.b 0 3,.c,.i 1,.l 0 0,.c,.c,.b 1 2,.c])) ?_;refine en_spec0 (r6_PushE (x:=x) (m:=m) (e:=c.e) (L:=c.L) s he) [2] [] [] ?_;refine en (EF [(.bool (decide ((((A.length:Int)):Int) ≥ 0)),.bool true)] ⟨dcT (by omega),trivial⟩) [.c,.f 0,.c] ?_;refine en_shut 0 ⟨x,rfL m c.L c.e,146⟩ ?_;refine rc_shut g W u m gl cap b x A c c B [1,0] [0,0,0] ?_;exact en_rets ⟨(.slice (some ⟨gl,0,none⟩) (A++(c,b,x)::B).length cap,(A++(c,b,x)::B)),modR (c:=(c,b,x)) (c':=(c,b,x)) _ hc (by unfold fedC;rw [if_pos (Or.inr he)]) A hA,set_lenR⟩ [] [0] []
    have he0:c.e=0:=Decidable.byContradiction he;have hl2:=hl c hg;refine en_word 0 (boxC ⟨x,rfL m c.L c.e,146⟩) (boxC ⟨x,rfL m c.L 0,146⟩) (by rw [he0]) ?_;refine en_open 0 ⟨x,rfL m c.L 0,146⟩ ?_;refine en ⟨⟨[⟨gl,0+A.length * 1,[ptR (c,b,x)]⟩],[]⟩,[(.bool (decide ((((A.length:Int)):Int) ≥ 0)),.bool true),(.bool ((((c.st:Int)):Int) != 6),.bool true)],[⟨some ⟨gl,0,none⟩,(A++(c,b,x)::B).length,cap,.i64,A.length,1,⟨gl,0+A.length * 1,none⟩⟩,⟨some ⟨gl,0,none⟩,(A++(c,b,x)::B).length,cap,.i64,A.length,1,⟨gl,0+A.length * 1,none⟩⟩],[],fun _ _ h=>⟨⟨pt_ix (is_at h.hp.is 1 rfl),trivial⟩,trivial⟩,⟨dcT (by omega),neI (by omega),trivial⟩,⟨⟨gl,0,A.length,rfl,rfl,hlt,rfl⟩,⟨gl,0,A.length,rfl,rfl,hlt,rfl⟩,trivial⟩,trivial⟩ (.c::.c::.f 0::eC 4 (.b 0 3::.c::.i 0::.l 0 0::.c::.c::.b 1 1::.f 1::eC 4 [.b 0 3,.c,.i 1,.l 0 0,.c,.c,.b 1 2,.c])) ?_;refine en_spec0 (r6_Push (x:=x) (m:=m) (L:=c.L) s hl2) [2] [] [] ?_;refine en (EF [(.bool (decide ((((A.length:Int)):Int) ≥ 0)),.bool true)] ⟨dcT (by omega),trivial⟩) [.c,.f 0,.c] ?_;refine en_shut 0 ⟨x,rfL m (c.L++bl s) 0,146⟩ ?_;refine en_word 0 (boxC ⟨x,rfL m (c.L++bl s) 0,146⟩) (boxC ⟨x,rfL m (c.L++bl s) c.e,146⟩) (by rw [he0]) ?_;refine rc_shut g W u m gl cap b x A c ({ c with L:=c.L++bl s }) B [1,0] [0,0,0] ?_;exact en_rets ⟨(.slice (some ⟨gl,0,none⟩) (A++(c,b,x)::B).length cap,(A++({ c with L:=c.L++bl s },b,x)::B)),modR (c:=(c,b,x)) (c':=({ c with L:=c.L++bl s },b,x)) _ hc (by unfold fedC;rw [if_neg (by rintro (h | h);exact h6 h;exact he h)]) A hA,set_lenR⟩ [] [0] []
end Go.Proofs.YtehpihmgjbmoaaaGreatDoor
