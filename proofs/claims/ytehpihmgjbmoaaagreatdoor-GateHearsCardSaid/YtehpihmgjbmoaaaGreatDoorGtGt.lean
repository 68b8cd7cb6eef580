import Derived.Test.YtehpihmgjbmoaaaGreatDoorGtFr
import Derived.Test.YtehpihmgjbmoaaaGreatDoorGtTn
namespace Go.Proofs.YtehpihmgjbmoaaaGreatDoor
open Go.RowKit
attribute [local irreducible] Ok
abbrev CnG:=Cn × Nat × Nat × Value
def gtL (W u m mb:Nat):List Value:=[.int .i64 (W:Int),.int .i64 (u:Int),.int .i64 (m:Int),.map (some mb)]
def cnC (m:Nat) (c:CnG):Chk:=many [boxC ⟨c.2.1,cnL c.1 c.2.2.1,93⟩,frC c.2.2.1 m c.2.2.2 c.1.L c.1.e]
def ptC (c:CnG):Value:=.pointer (some ⟨c.2.1,0,none⟩)
def cnM (K:List CnG):List (Int × Value):=K.map fun c=>(c.1.num,ptC c)
def fI (i:Int):Value:=.int .i64 i
def mpC (mb:Nat) (es:List (Int × Value)):Chk:=mapC mb fI es
def gtC (g W u m mb:Nat) (K:List CnG):Chk:=many [boxC ⟨g,gtL W u m mb,82⟩,mpC mb (cnM K),many (K.map (cnC m))]
def absK (K:List CnG):List Cn:=K.map (·.1)
def getK:List CnG→Int→Option CnG
  | [],_=>none
  | c::K,n=>if n=c.1.num then some c else getK K n
def getG:List Cn→Int→Option Cn
  | [],_=>none
  | c::G,n=>if n=c.num then some c else getG G n
def modG (f:Cn→Cn):List Cn→Int→List Cn
  | [],_=>[]
  | c::G,n=>if n=c.num then f c::G else c::modG f G n
def ptO:Option CnG→Value
  | none=>.pointer none
  | some c=>ptC c
theorem get_map:∀ (K:List CnG) (n:Int),(getE (cnM K) n).getD (.pointer none)=ptO (getK K n)
  | [],_=>rfl
  | c::K,n=>by
    show (if n=c.1.num then some (ptC c) else getE (cnM K) n).getD _=_;unfold getK;split
    · rfl
    · exact get_map K n
theorem get_abs:∀ (K:List CnG) (n:Int),getG (absK K) n=(getK K n).map (·.1)
  | [],_=>rfl
  | c::K,n=>by
    show (if n=c.1.num then some c.1 else getG (absK K) n)=_;unfold getK;split
    · rfl
    · exact get_abs K n
theorem get_split:∀ {K:List CnG} {n:Int} {c:CnG},getK K n=some c→∃ A B,K=A++c::B∧c.1.num=n∧∀ d ∈ A,n≠d.1.num
  | d::K,n,c,h=>by
    unfold getK at h;split at h
    · rename_i e
      injection h with h
      subst h;exact ⟨[],K,rfl,e.symm,fun d hd=>by cases hd⟩
    · rename_i e
      obtain ⟨A,B,h1,h2,h3⟩:=get_split h;exact ⟨d::A,B,by rw [h1];rfl,h2,fun x hx=>by
        rcases List.mem_cons.1 hx with rfl | hx
        · exact e
        · exact h3 x hx⟩
theorem abs_mod (f:Cn→Cn) {c c':CnG} {B:List CnG} {n:Int} (h1:c.1.num=n) (h2:c'.1=f c.1):∀ (A:List CnG),(∀ d ∈ A,n≠d.1.num)→absK (A++c'::B)=modG f (absK (A++c::B)) n
  | [],_=>by
    show c'.1::absK B=if n=c.1.num then f c.1::absK B else _
    rw [if_pos h1.symm,h2]
  | d::A,h=>by
    show d.1::absK (A++c'::B)=if n=d.1.num then _ else d.1::modG f (absK (A++c::B)) n
    rw [if_neg (h d List.mem_cons_self),abs_mod f h1 h2 A (fun x hx=>h x (List.mem_cons_of_mem _ hx))]
theorem abs_none {f:Cn→Cn}:∀ {K:List CnG} {n:Int},getK K n=none→absK K=modG f (absK K) n
  | [],_,_=>rfl
  | c::K,n,h=>by
    unfold getK at h;split at h
    · cases h
    · rename_i e
      show c.1::absK K=if n=c.1.num then _ else c.1::modG f (absK K) n
      rw [if_neg e,← abs_none h]
theorem cnM_set {c c':CnG} {A B:List CnG} (h1:c'.1.num=c.1.num) (h2:c'.2.1=c.2.1):cnM (A++c::B)=cnM (A++c'::B):=by
  unfold cnM ptC;rw [List.map_append,List.map_append,List.map_cons,List.map_cons,h1,h2]
theorem cn_out (m:Nat) (c:CnG) (A B:List CnG):((A++c::B).map (cnC m)).Perm (cnC m c::((A++B).map (cnC m))):=by
  rw [List.map_append,List.map_append,List.map_cons];exact List.perm_middle
theorem gc_shut {P:Program} {Q:Exit→Act→World→Prop} {n:Nat} {wb w0:World} {H:Nat→Prop} {s:Sg} {l:List Chk} (g W u m mb b x:Nat) (v v':Value) (A:List CnG) (c c':Cn) (B:List CnG) (hn:c'.num=c.num) (ks cs:List Nat)
    (k:Ok P Q n wb w0 H (many (gtC g W u m mb (A++(c',b,x,v')::B)::restI cs l)) ⟨s.cfg,s.L,restI ks s.B⟩)
    (hb:headI ks s.B=some [⟨b,cnL c' x,93⟩]:=by kernel_rfl)
    (hc:headI cs l=some [frC x m v' c'.L c'.e,many ((A++B).map (cnC m)),mpC mb (cnM (A++(c,b,x,v)::B)),boxC ⟨g,gtL W u m mb,82⟩]:=by kernel_rfl):Ok P Q n wb w0 H (many l) s:=by
  unfold Ok at k ⊢;intro a w F HK;refine k a w F ?_;rw [cnM_set (c:=(c,b,x,v)) (c':=(c',b,x,v')) hn rfl] at hc;have H2:=(HK.perm (headI_perm hb) (headI_perm hc)).perm (List.perm_append_comm (l₁:=[_])) (List.Perm.refl _);have H7:=many_in (c:=cnC m (c',b,x,v')) (R:=(A++B).map (cnC m)) (cn_out m (c',b,x,v') A B).symm (Kp.deep (l:=[_,_]) _ (Kp.shut _ H2));exact Kp.deep (l:=[_,_,_]) _ (H7.perm (List.Perm.refl _) ((List.Perm.swap _ _ _).trans ((List.Perm.cons _ (List.Perm.swap _ _ _)).trans (List.Perm.swap _ _ _))))
theorem keyG:KeyF Tryz.prog 3 fI (.int .i64):=key_int Tryz.underlying3
theorem zConn (w:World):(zeroValue 88).run Tryz.prog w=.ok (.pointer none) w:=by kernel_rfl
theorem put_new:∀ {K:List CnG} {n:Int} (c:CnG),getK K n=none→c.1.num=n→putE (cnM K) n (ptC c)=cnM (K++[c])
  | [],_,c,_,h=>by subst h;rfl
  | d::K,n,c,h,h2=>by
    unfold getK at h;split at h
    · cases h
    · rename_i e
      show (if n=d.1.num then _ else (d.1.num,ptC d)::putE (cnM K) n (ptC c))=_;rw [if_neg e,put_new c h h2];rfl
set_option maxRecDepth 100000 in
set_option maxHeartbeats 4000000 in
theorem gate_New {wb:World} (W u m:Nat) (h1:1≤W) (h2:W≤64) (h3:u < W) (h4:16≤m) (h5:m≤65536):Spec Tryz.prog wb 9 #[.int .i64 (W:Int),.int .i64 (u:Int),.int .i64 (m:Int)] [] [] (fun y:Nat × Nat=>.pointer (some ⟨y.1,0,none⟩)) (fun _=>[]) (fun y=>[gtC y.1 W u m y.2 []]):=by
  intro w H;refine en_call Tryz.func9 H ?_;refine en (EF [(.bool (decide ((((W:Int)):Int) < 1)),.bool false),(.bool (decide ((((W:Int)):Int) > 64)),.bool false),(.bool (decide ((((u:Int)):Int) < 0)),.bool false),(.bool (decide ((((u:Int)):Int) ≥ (W:Int))),.bool false),(.bool (decide ((((m:Int)):Int) < 16)),.bool false),(.bool (decide ((((m:Int)):Int) > 65536)),.bool false)] ⟨dcF (by omega),dcF (by omega),dcF (by omega),dcF (by omega),dcF (by omega),dcF (by omega),trivial⟩) (.c::.c::.f 0::.c::.c::.f 1::eC 3 (.f 2::eC 4 (.f 3::eC 3 (.f 4::eC 3 (.f 5::eC 4 []))))) ?_;refine en_ops (ops_map (P:=Tryz.prog) fI 80 80 (fun w=>by kernel_rfl)) [] [] [] (fun mb=>?_);refine en1 E0 [.c,.x,.c] fun g=>?_
  refine en_new0 (many []) ?_ (fun _=>⟨fun c hc=>(by cases hc),List.Pairwise.nil⟩) (fun j ⟨c,hc,_⟩=>(by cases hc));refine en_shut 0 ⟨g,gtL W u m mb,82⟩ ?_;refine en_pack [0,1,0] (gtC g W u m mb []) _ ?_;exact en_rets (g,mb) [] [0] []
def mayN (W u m:Int):Bool:=decide (1≤W) && (decide (W≤64) && (decide (0≤u) && (decide (u < W) && (decide (16≤m) && decide (m≤65536)))))
set_option maxRecDepth 100000 in
set_option maxHeartbeats 4000000 in
theorem gate_NewN {wb:World} (W u m:Int) (hm:mayN W u m=false):Spec Tryz.prog wb 9 #[.int .i64 W,.int .i64 u,.int .i64 m] [] [] (fun _:Unit=>.pointer none) (fun _=>[]) (fun _=>[]):=by
  intro w H;refine en_call Tryz.func9 H ?_;by_cases h8:W < 1
  · refine en (EF [(.bool (decide (((W):Int) < 1)),.bool true)] ⟨dcT (by omega),trivial⟩) (.c::.c::.f 0::eC 22 []) ?_
    exact en_rets () [] [] []
  by_cases h11:W > 64
  · refine en (EF [(.bool (decide (((W):Int) < 1)),.bool false),(.bool (decide (((W):Int) > 64)),.bool true)] ⟨dcF (by omega),dcT (by omega),trivial⟩) (.c::.c::.f 0::.c::.c::.f 1::eC 19 []) ?_
    exact en_rets () [] [] []
  by_cases h15:u < 0
  · refine en (EF [(.bool (decide (((W):Int) < 1)),.bool false),(.bool (decide (((W):Int) > 64)),.bool false),(.bool (decide (((u):Int) < 0)),.bool true)] ⟨dcF (by omega),dcF (by omega),dcT (by omega),trivial⟩) (.c::.c::.f 0::.c::.c::.f 1::eC 3 (.f 2::eC 15 [])) ?_
    exact en_rets () [] [] []
  by_cases h20:u ≥ W
  · refine en (EF [(.bool (decide (((W):Int) < 1)),.bool false),(.bool (decide (((W):Int) > 64)),.bool false),(.bool (decide (((u):Int) < 0)),.bool false),(.bool (decide (((u):Int) ≥ W)),.bool true)] ⟨dcF (by omega),dcF (by omega),dcF (by omega),dcT (by omega),trivial⟩) (.c::.c::.f 0::.c::.c::.f 1::eC 3 (.f 2::eC 4 (.f 3::eC 10 []))) ?_
    exact en_rets () [] [] []
  by_cases h24:m < 16
  · refine en (EF [(.bool (decide (((W):Int) < 1)),.bool false),(.bool (decide (((W):Int) > 64)),.bool false),(.bool (decide (((u):Int) < 0)),.bool false),(.bool (decide (((u):Int) ≥ W)),.bool false),(.bool (decide (((m):Int) < 16)),.bool true)] ⟨dcF (by omega),dcF (by omega),dcF (by omega),dcF (by omega),dcT (by omega),trivial⟩) (.c::.c::.f 0::.c::.c::.f 1::eC 3 (.f 2::eC 4 (.f 3::eC 3 (.f 4::eC 6 [])))) ?_
    exact en_rets () [] [] []
  by_cases h28:m > 65536
  · refine en (EF [(.bool (decide (((W):Int) < 1)),.bool false),(.bool (decide (((W):Int) > 64)),.bool false),(.bool (decide (((u):Int) < 0)),.bool false),(.bool (decide (((u):Int) ≥ W)),.bool false),(.bool (decide (((m):Int) < 16)),.bool false),(.bool (decide (((m):Int) > 65536)),.bool true)] ⟨dcF (by omega),dcF (by omega),dcF (by omega),dcF (by omega),dcF (by omega),dcT (by omega),trivial⟩) (.c::.c::.f 0::.c::.c::.f 1::eC 3 (.f 2::eC 4 (.f 3::eC 3 (.f 4::eC 3 [.f 5,.c,.c])))) ?_
    exact en_rets () [] [] []
  exfalso
  simp only [mayN,Bool.and_eq_false_iff,decide_eq_false_iff_not] at hm;omega
set_option maxRecDepth 100000 in
set_option maxHeartbeats 4000000 in
theorem gate_find {wb:World} {g W u m mb:Nat} {K:List CnG} (n:Int):Spec Tryz.prog wb 36 #[.pointer (some ⟨g,0,none⟩),.int .i64 n] [] [gtC g W u m mb K] (fun _:Unit=>ptO (getK K n)) (fun _=>[]) (fun _=>[gtC g W u m mb K]):=by
  intro w H;refine en_call Tryz.func36 H ?_;refine en_unpack 0 (gtC g W u m mb K) _ ?_;refine en_open 0 ⟨g,gtL W u m mb,82⟩ ?_;refine en ⟨⟨[],[(lkT 80 (.map (some mb)) (.int .i64 n) 88,ptO (getK K n))]⟩,[],[],[],fun _ _ h=>⟨trivial,⟨by rw [← get_map];exact rd_lookup keyG Tryz.underlying80 (is_at h.hp.is 0 (c:=mpC mb (cnM K)) rfl) n (zConn _) 88,trivial⟩⟩,trivial,trivial,trivial⟩ (eC 6 [.b 0 3,.c,.r 0,.c]) ?_;refine en_shut 0 ⟨g,gtL W u m mb,82⟩ ?_;refine en_pack [0,0,0] (gtC g W u m mb K) _ ?_;exact en_rets () [] [0] []
set_option maxRecDepth 100000 in
set_option maxHeartbeats 4000000 in
theorem gate_Hangup {wb:World} {g W u m mb:Nat} {K:List CnG} (n:Int):Spec Tryz.prog wb 27 #[.pointer (some ⟨g,0,none⟩),.int .i64 n] [] [gtC g W u m mb K] (fun _:{K':List CnG // absK K'=modG (fun c=>{ c with hung:=true }) (absK K) n}=>.bool (getG (absK K) n).isSome) (fun _=>[]) (fun y=>[gtC g W u m mb y.1]):=by
  intro w H;refine en_call Tryz.func27 H ?_;rw [get_abs];refine en E0 (eC 3 []) ?_;refine en_spec0 (gate_find (g:=g) (W:=W) (u:=u) (m:=m) (mb:=mb) (K:=K) n) [] [0] [] ?_;cases hK:getK K n
  · replace hK:=hK
    refine en E0 (eC 6 []) ?_;exact en_rets ⟨K,abs_none hK⟩ [] [0] []
  · rename_i c
    obtain ⟨A,B,rfl,hn,hA⟩:=get_split hK;obtain ⟨c,b,x,v⟩:=c;simp only at hn
    refine en_unpack 0 (gtC g W u m mb (A++(c,b,x,v)::B)) _ ?_;refine en_out 2 (many ((A++(c,b,x,v)::B).map (cnC m))) (cnC m (c,b,x,v)) ((A++(c,b,x,v)::B).map (cnC m)) ((A++B).map (cnC m)) (cn_out m (c,b,x,v) A B) ?_;refine en_unpack 0 (cnC m (c,b,x,v)) _ ?_;refine en_open 0 ⟨b,cnL c x,93⟩ ?_;refine en E0 (eC 6 (.s 0 3::eC 3 [])) ?_;refine gc_shut g W u m mb b x v v A c ({ c with hung:=true }) B rfl [0] [0,0,1,0] ?_;exact en_rets ⟨(A++({ c with hung:=true },b,x,v)::B),abs_mod (fun c=>{ c with hung:=true }) hn rfl A hA⟩ [] [0] []
def dropD (c:Cn):Cn:={ c with drain:=⟨#[]⟩ }
def stG (G:List Cn) (n:Int):Nat:=((getG G n).map (·.st)).getD 0
def sentG (G:List Cn) (n:Int):ByteArray:=((getG G n).map (·.sent)).getD ⟨#[]⟩
def drainG (G:List Cn) (n:Int):ByteArray:=((getG G n).map (·.drain)).getD ⟨#[]⟩
def fedC (s:ByteArray) (c:Cn):Cn:=if c.st=6∨c.e≠0 then c else { c with L:=c.L++bl s }
set_option maxRecDepth 100000 in
set_option maxHeartbeats 4000000 in
theorem gate_Drain {wb:World} {g W u m mb:Nat} {K:List CnG} (n:Int):Spec Tryz.prog wb 25 #[.pointer (some ⟨g,0,none⟩),.int .i64 n] [] [gtC g W u m mb K] (fun _:{K':List CnG // absK K'=modG dropD (absK K) n}=>.string (drainG (absK K) n)) (fun _=>[]) (fun y=>[gtC g W u m mb y.1]):=by
  intro w H;refine en_call Tryz.func25 H ?_;unfold drainG;rw [get_abs];refine en E0 (eC 3 []) ?_;refine en_spec0 (gate_find (g:=g) (W:=W) (u:=u) (m:=m) (mb:=mb) (K:=K) n) [] [0] [] ?_;cases hK:getK K n
  · replace hK:=hK
    refine en E0 (eC 4 []) ?_;exact en_rets ⟨K,abs_none hK⟩ [] [0] []
  · rename_i c
    obtain ⟨A,B,rfl,hn,hA⟩:=get_split hK;obtain ⟨c,b,x,v⟩:=c;simp only at hn
    refine en_unpack 0 (gtC g W u m mb (A++(c,b,x,v)::B)) _ ?_;refine en_out 2 (many ((A++(c,b,x,v)::B).map (cnC m))) (cnC m (c,b,x,v)) ((A++(c,b,x,v)::B).map (cnC m)) ((A++B).map (cnC m)) (cn_out m (c,b,x,v) A B) ?_;refine en_unpack 0 (cnC m (c,b,x,v)) _ ?_;refine en_open 0 ⟨b,cnL c x,93⟩ ?_;refine en E0 (eC 6 (.b 0 8::eC 4 [.s 0 8,.c,.c])) ?_;refine gc_shut g W u m mb b x v v A c (dropD c) B rfl [0] [0,0,1,0] ?_;exact en_rets ⟨(A++(dropD c,b,x,v)::B),abs_mod dropD hn rfl A hA⟩ [] [0] []
set_option maxRecDepth 100000 in
set_option maxHeartbeats 4000000 in
theorem gate_State {wb:World} {g W u m mb:Nat} {K:List CnG} (n:Int):Spec Tryz.prog wb 16 #[.pointer (some ⟨g,0,none⟩),.int .i64 n] [] [gtC g W u m mb K] (fun _:Unit=>.int .u8 (stG (absK K) n:Int)) (fun _=>[]) (fun _=>[gtC g W u m mb K]):=by
  intro w H;refine en_call Tryz.func16 H ?_;unfold stG;rw [get_abs];refine en E0 (eC 3 []) ?_;refine en_spec0 (gate_find (g:=g) (W:=W) (u:=u) (m:=m) (mb:=mb) (K:=K) n) [] [0] [] ?_;cases hK:getK K n
  · replace hK:=hK
    refine en E0 (eC 4 []) ?_;exact en_rets () [] [0] []
  · rename_i c
    obtain ⟨A,B,rfl,hn,hA⟩:=get_split hK;obtain ⟨c,b,x,v⟩:=c;simp only at hn
    refine en_unpack 0 (gtC g W u m mb (A++(c,b,x,v)::B)) _ ?_;refine en_out 2 (many ((A++(c,b,x,v)::B).map (cnC m))) (cnC m (c,b,x,v)) ((A++(c,b,x,v)::B).map (cnC m)) ((A++B).map (cnC m)) (cn_out m (c,b,x,v) A B) ?_;refine en_unpack 0 (cnC m (c,b,x,v)) _ ?_;refine en_open 0 ⟨b,cnL c x,93⟩ ?_;refine en E0 (eC 6 [.b 0 1,.c]) ?_;refine gc_shut g W u m mb b x v v A c c B rfl [0] [0,0,1,0] ?_;exact en_rets () [] [0] []
set_option maxRecDepth 100000 in
set_option maxHeartbeats 4000000 in
theorem frame_PushE {wb:World} {x m e:Nat} {v:Value} {L:Bs} (hm:0 < m) (he:e≠0) (s:ByteArray):Spec Tryz.prog wb 37 #[.pointer (some ⟨x,0,none⟩),.string s] [] [frC x m v L e] (fun _:Unit=>.tuple #[]) (fun _=>[]) (fun _=>[frC x m v L e]):=by
  intro w H;refine en_call Tryz.func37 H ?_;refine en_unpack 0 (frC x m v L e) _ ?_;refine en_open 0 ⟨x,frL m v e,114⟩ ?_;refine en (EF [(.bool (decide ((((m:Int)):Int) > 0)),.bool true),(.bool ((((e:Int)):Int) == 0),.bool false)] ⟨dcT (by omega),eqI' (by omega),trivial⟩) (eC 6 (.b 0 0::.f 0::eC 5 [.b 0 2,.f 1,.c])) ?_;refine en_shut 0 ⟨x,frL m v e,114⟩ ?_;refine en_pack [0,0] (frC x m v L e) _ ?_;exact en_rets () [] [0] []
set_option maxRecDepth 100000 in
set_option maxHeartbeats 4000000 in
theorem gate_Feed {wb:World} {g W u m mb:Nat} {K:List CnG} (n:Int) (s:ByteArray) (hm:0 < m) (hl:∀ c,getG (absK K) n=some c→c.L.length+s.size≤300000000):Spec Tryz.prog wb 14 #[.pointer (some ⟨g,0,none⟩),.int .i64 n,.string s] [] [gtC g W u m mb K] (fun _:{K':List CnG // absK K'=modG (fedC s) (absK K) n}=>.bool (getG (absK K) n).isSome) (fun _=>[]) (fun y=>[gtC g W u m mb y.1]):=by
  intro w H;refine en_call Tryz.func14 H ?_;rw [get_abs];refine en E0 (eC 3 []) ?_;refine en_spec0 (gate_find (g:=g) (W:=W) (u:=u) (m:=m) (mb:=mb) (K:=K) n) [] [0] [] ?_;cases hK:getK K n
  · replace hK:=hK
    refine en E0 (eC 13 []) ?_;exact en_rets ⟨K,abs_none hK⟩ [] [0] []
  · rename_i c
    obtain ⟨A,B,rfl,hn,hA⟩:=get_split hK;obtain ⟨c,b,x,v⟩:=c;simp only at hn
    refine en_unpack 0 (gtC g W u m mb (A++(c,b,x,v)::B)) _ ?_;refine en_out 2 (many ((A++(c,b,x,v)::B).map (cnC m))) (cnC m (c,b,x,v)) ((A++(c,b,x,v)::B).map (cnC m)) ((A++B).map (cnC m)) (cn_out m (c,b,x,v) A B) ?_;refine en_unpack 0 (cnC m (c,b,x,v)) _ ?_;refine en_open 0 ⟨b,cnL c x,93⟩ ?_;have hm0:0 < m:=hm;by_cases h6:c.st=6
    · refine en (EF [(.bool ((((c.st:Int)):Int) != 6),.bool false)] ⟨neI' (by omega),trivial⟩) (eC 7 (.b 0 1::.f 0::eC 4 [])) ?_
      have e1:c=fedC s c:=by unfold fedC;rw [if_pos (Or.inl h6)]
      refine gc_shut g W u m mb b x v v A c c B rfl [0] [0,0,1,0] ?_;exact en_rets ⟨(A++(c,b,x,v)::B),abs_mod (fedC s) hn e1 A hA⟩ [] [0] []
    refine en (EF [(.bool ((((c.st:Int)):Int) != 6),.bool true)] ⟨neI (by omega),trivial⟩) (eC 7 (.b 0 1::.f 0::eC 4 [.b 0 2,.c])) ?_;by_cases he:c.e≠0
    · refine en_spec0 (frame_PushE (x:=x) (m:=m) (e:=c.e) (v:=v) (L:=c.L) hm0 he s) [] [0] [] ?_
      refine en E0 (eC 3 []) ?_;have e1:c=fedC s c:=by unfold fedC;rw [if_pos (Or.inr he)]
      refine gc_shut g W u m mb b x v v A c c B rfl [0] [0,0,1,0] ?_;exact en_rets ⟨(A++(c,b,x,v)::B),abs_mod (fedC s) hn e1 A hA⟩ [] [0] []
    have he0:c.e=0:=by omega
    have hL:=hl c (by rw [get_abs,hK];rfl);refine en_word 0 (frC x m v c.L c.e) (frC x m v c.L 0) (by rw [he0]) ?_;refine en_spec (frame_PushS (x:=x) (m:=m) (v:=v) (L:=c.L) hm0 s hL) [] [0] [] (fun v2=>?_);refine en E0 (eC 3 []) ?_;refine en_word 0 (frC x m v2 (c.L++bl s) 0) (frC x m v2 (c.L++bl s) c.e) (by rw [he0]) ?_;have e1:{ c with L:=c.L++bl s }=fedC s c:=by unfold fedC;rw [if_neg (by omega)]
    refine gc_shut g W u m mb b x v v2 A c ({ c with L:=c.L++bl s }) B rfl [0] [0,0,1,0] ?_;exact en_rets ⟨(A++({ c with L:=c.L++bl s },b,x,v2)::B),abs_mod (fedC s) hn e1 A hA⟩ [] [0] []
def newC (n:Int):Cn:=⟨n,1,[],0,false,⟨#[]⟩,0,0,0,⟨#[]⟩,⟨#[]⟩⟩
def mayO (W u:Nat) (G:List Cn) (n:Int):Bool:=!(getG G n).isSome && decide (gateL n (W:Int)=(u:Int))
set_option maxRecDepth 100000 in
set_option maxHeartbeats 4000000 in
theorem gate_OpenN {wb:World} {g W u m mb:Nat} {K:List CnG} (n:Int) (hn:n < 9223372036854775808) (hm:mayO W u (absK K) n=false):Spec Tryz.prog wb 13 #[.pointer (some ⟨g,0,none⟩),.int .i64 n] [] [gtC g W u m mb K] (fun _:Unit=>.bool false) (fun _=>[]) (fun _=>[gtC g W u m mb K]):=by
  intro w H;refine en_call Tryz.func13 H ?_;refine en_unpack 0 (gtC g W u m mb K) _ ?_;refine en_open 0 ⟨g,gtL W u m mb,82⟩ ?_;unfold mayO at hm;rw [get_abs] at hm;cases hK:getK K n
  · rw [hK] at hm
    have hq:gateL n (W:Int)≠(u:Int):=by simpa using hm
    refine en E0 [.c] ?_;refine en ⟨⟨[],[(lkT 80 (.map (some mb)) (.int .i64 n) 88,.pointer none)]⟩,[(.bool ((((gateL n (W:Int))):Int) != (u:Int)),.bool true)],[],[⟨34,#[.int .i64 n,.int .i64 (W:Int)],.int .i64 (gateL n (W:Int)),[],[]⟩],fun _ _ h=>⟨trivial,⟨by have h2:=rd_lookup keyG Tryz.underlying80 (is_at h.hp.is 0 (c:=mpC mb (cnM K)) rfl) n (zConn _) 88;rw [get_map,hK] at h2;exact h2,trivial⟩⟩,⟨neI (hq),trivial⟩,trivial,⟨fun _ w _ _=>Calls.mono (shard_Gate n (W:Int) w hn) (by rintro e w' ⟨rfl,rfl⟩;exact ⟨rfl,Below.refl _ _⟩),trivial⟩⟩ [.g [(0,3,1),(0,0,1),(0,1,1)] 1000 true,.d [(0,.c),(1,.c),(2,.c),(3,.c),(4,.c),(5,.c),(6,.l 0 0),(7,.c),(8,.r 0),(9,.c),(10,.c),(11,.c),(12,.c),(13,.c),(14,.c),(15,.c),(16,.l 1 0),(18,.c),(19,.c),(20,.c),(21,.l 2 0)],.k 0,.d (eN 22 [.f 0,.c]),.c] ?_;refine en_shut 0 ⟨g,gtL W u m mb,82⟩ ?_;refine en_pack [0,0,0] (gtC g W u m mb K) _ ?_;exact en_rets () [] [0] []
  · rename_i c
    obtain ⟨c,b,x,v⟩:=c;refine en E0 [.c] ?_;refine en ⟨⟨[],[(lkT 80 (.map (some mb)) (.int .i64 n) 88,.pointer (some ⟨b,0,none⟩))]⟩,[],[],[],fun _ _ h=>⟨trivial,⟨by have h2:=rd_lookup keyG Tryz.underlying80 (is_at h.hp.is 0 (c:=mpC mb (cnM K)) rfl) n (zConn _) 88;rw [get_map,hK] at h2;exact h2,trivial⟩⟩,trivial,trivial,trivial⟩ [.g [(0,3,1)] 1000 true,.d (eN 0 (eC 6 (.l 0 0::.c::.r 0::eC 15 []))),.c] ?_;refine en_shut 0 ⟨g,gtL W u m mb,82⟩ ?_;refine en_pack [0,0,0] (gtC g W u m mb K) _ ?_;exact en_rets () [] [0] []
set_option maxRecDepth 100000 in
set_option maxHeartbeats 4000000 in
theorem gate_OpenY {wb:World} {g W u m mb:Nat} {K:List CnG} (n:Int) (hn:n < 9223372036854775808) (hm:mayO W u (absK K) n=true) (h1:16≤m) (h2:m≤65536):Spec Tryz.prog wb 13 #[.pointer (some ⟨g,0,none⟩),.int .i64 n] [] [gtC g W u m mb K] (fun _:{K':List CnG // absK K'=absK K++[newC n]}=>.bool true) (fun _=>[]) (fun y=>[gtC g W u m mb y.1]):=by
  intro w H;refine en_call Tryz.func13 H ?_;refine en_unpack 0 (gtC g W u m mb K) _ ?_;refine en_open 0 ⟨g,gtL W u m mb,82⟩ ?_;unfold mayO at hm;rw [get_abs] at hm;have hK:getK K n=none:=by
    cases hK:getK K n
    · rfl
    · rw [hK] at hm;simp at hm
  rw [hK] at hm;have hq:gateL n (W:Int)=(u:Int):=by simpa using hm
  refine en E0 [.c] ?_;refine en ⟨⟨[],[(lkT 80 (.map (some mb)) (.int .i64 n) 88,.pointer none)]⟩,[(.bool ((((gateL n (W:Int))):Int) != (u:Int)),.bool false)],[],[⟨34,#[.int .i64 n,.int .i64 (W:Int)],.int .i64 (gateL n (W:Int)),[],[]⟩],fun _ _ h=>⟨trivial,⟨by have h2:=rd_lookup keyG Tryz.underlying80 (is_at h.hp.is 0 (c:=mpC mb (cnM K)) rfl) n (zConn _) 88;rw [get_map,hK] at h2;exact h2,trivial⟩⟩,⟨neI' (hq),trivial⟩,trivial,⟨fun _ w _ _=>Calls.mono (shard_Gate n (W:Int) w hn) (by rintro e w' ⟨rfl,rfl⟩;exact ⟨rfl,Below.refl _ _⟩),trivial⟩⟩ [.g [(0,3,1),(0,0,1),(0,1,1)] 1000 true,.d [(0,.c),(1,.c),(2,.c),(3,.c),(4,.c),(5,.c),(6,.l 0 0),(7,.c),(8,.r 0),(9,.c),(10,.c),(11,.c),(12,.c),(13,.c),(14,.c),(15,.c),(16,.l 1 0),(18,.c),(19,.c),(20,.c),(21,.l 2 0)],.k 0,.d (eN 22 [.f 0,.c]),.g [(0,3,1),(0,2,1)] 13 false,.d (eN 0 (eC 3 (.l 0 0::eC 5 [.l 1 0])))] ?_;refine en_spec (frame_NewS m h1 h2) [] [] [(0,3,1),(0,2,1)] (fun x=>?_);refine en1 E0 [.d (eN 11 [.c]),.x] fun b=>?_
  refine en_ops (ops_update keyG Tryz.underlying80 0 (b:=mb) (es:=cnM K) n (.pointer (some ⟨b,0,none⟩))) [] [1] [(0,3,1),(0,2,1)] (fun _=>?_);refine en E0 [.c] ?_;refine en_word 0 (mapC mb fI (putE (cnM K) n (.pointer (some ⟨b,0,none⟩)))) (mpC mb (cnM (K++[(newC n,b,x,Value.slice none 0 0)]))) (by rw [show Value.pointer (some ⟨b,0,none⟩)=ptC (newC n,b,x,Value.slice none 0 0) from rfl,put_new _ hK rfl];rfl) ?_;refine en_shut 1 ⟨b,cnL (newC n) x,93⟩ ?_;refine en_pack [0,1] (cnC m (newC n,b,x,Value.slice none 0 0)) _ ?_;refine en_in [0,1] (many ((K++[(newC n,b,x,Value.slice none 0 0)]).map (cnC m))) (cnC m (newC n,b,x,Value.slice none 0 0)) ((K++[(newC n,b,x,Value.slice none 0 0)]).map (cnC m)) (K.map (cnC m)) (by rw [List.map_append];exact (List.perm_append_singleton _ _).symm) ?_;refine en_shut 0 ⟨g,gtL W u m mb,82⟩ ?_;refine en_pack [0,1,0] (gtC g W u m mb ((K++[(newC n,b,x,Value.slice none 0 0)]))) _ ?_;exact en_rets ⟨K++[(newC n,b,x,Value.slice none 0 0)],by unfold absK;rw [List.map_append];rfl⟩ [] [0] []
end Go.Proofs.YtehpihmgjbmoaaaGreatDoor
