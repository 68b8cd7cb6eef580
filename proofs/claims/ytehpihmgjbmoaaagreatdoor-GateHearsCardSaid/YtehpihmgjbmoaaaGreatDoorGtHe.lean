import Derived.Test.YtehpihmgjbmoaaaGreatDoorGtGt
namespace Go.Proofs.YtehpihmgjbmoaaaGreatDoor
open Go.RowKit
attribute [local irreducible] Ok
structure Im where
  k:Nat
  op:Int
  cn:Int
  cl:ByteArray
  fl:ByteArray
  p:Pk
  pa:Option Addr
  pc:Nat
  ms:Ms
  a1:Option Addr
  n1:Nat
  c1:Nat
  a2:Option Addr
  n2:Nat
  c2:Nat
  pk:Option Addr
  ps:List PkE
  cap:Nat
  fr:Int
  mn:Int
def itR (i:Im):List Value:=[.int .u8 (i.k:Int),.int .i64 i.op,.int .i64 i.cn,.string i.cl,.string i.fl]++(pkV i.p i.pa i.pc).toList++[.string i.ms.topic,.string i.ms.payload,.int .u8 (i.ms.qos:Int),.bool i.ms.ret,.slice i.a1 i.n1 i.c1,.slice i.a2 i.n2 i.c2,.slice i.pk i.ps.length i.cap,.int .i64 i.fr,.int .i64 i.mn]
def itCs (l:List Im):List Value:=l.flatMap itR
theorem itR_len (i:Im):(itR i).length=38:=rfl
structure ItIn (w:World) (i:Im):Prop where
  cl:i.cl.size≤1000000
  few:i.ps.length≤1000
  row:CellsA w i.pk (pkCells i.ps)
  each:∀ p ∈ i.ps,PkIn w p
theorem it_range {w:World} {al:Option Addr} {l:List Im} (h:CellsA w al (itCs l)) {k:Nat} {x:Im} (hx:l[k]? = some x):∃ b o,al=some ⟨b,o,none⟩∧w.rangeAt b (o+k * 38) (itR x)∧b < w.heap.size:=by
  obtain ⟨b,o,e,hj⟩:=CellsA.elem itR_len h hx (.int .u8 (x.k:Int)) rfl;exact ⟨b,o,e,fun j v hv=>hj j v hv,World.block_lt_of_cell? _ _ (hj 0 _ rfl)⟩
def hearC (k:Nat) (ps:List Pk) (c:Cn):Cn :=
  if k=13∧c.st≠6 then sndC c ps
  else if k=14∧(c.st=2∨c.st=4) then { c with st:=3 }
  else if k=15∧c.st=5 then { c with st:=6 } else c
theorem hearC_num (k:Nat) (ps:List Pk) (c:Cn):(hearC k ps c).num=c.num:=by unfold hearC;repeat (split <;> try rfl)
theorem hearC_L (k:Nat) (ps:List Pk) (c:Cn):(hearC k ps c).L=c.L:=by unfold hearC;repeat (split <;> try rfl)
theorem hearC_e (k:Nat) (ps:List Pk) (c:Cn):(hearC k ps c).e=c.e:=by unfold hearC;repeat (split <;> try rfl)
def pksI (i:Im):List Pk:=i.ps.map (·.1)
set_option maxRecDepth 100000 in
set_option maxHeartbeats 4000000 in
theorem conn_hears {wb:World} {b x:Nat} {c:Cn} {it:Im} {X:Chk} (hX:∀ w,Below wb.heap.size wb w→X.is w→ItIn w it) (hn:it.ps.length≤1000) (hs:∀ p ∈ it.ps,(encS p.1).size≤1000000000) (hd:c.drain.size≤1000000000000000) (hd2:c.sent.size≤1000000000000000):Spec Tryz.prog wb 44 #[.pointer (some ⟨b,0,none⟩),.agg (itR it).toArray] [⟨b,cnL c x,93⟩] [X] (fun _:Unit=>.tuple #[]) (fun _=>[⟨b,cnL (hearC it.k (pksI it) c) x,93⟩]) (fun _=>[X]):=by
  obtain ⟨z,hz⟩:∃ z,hearC it.k (pksI it) c=z:=⟨_,rfl⟩
  rw [hz];intro w H;refine en_call Tryz.func44 H ?_;by_cases hk:it.k=13∧c.st≠6
  · refine en1 (EF [(.bool ((((it.k:Int)):Int) == 13),.bool true),(.bool ((((c.st:Int)):Int) != 6),.bool true)] ⟨eqI (by omega),neI (by omega),trivial⟩) (.x::.c::.b 1 0::.f 0::eC 4 (.b 0 1::.f 1::eC 4 [.b 1 35])) fun Y=>?_
    refine en_spec0 (conn_send (b:=b) (x:=x) (cap:=it.cap) (c:=c) (A:=it.pk) (ps:=it.ps) (X:=X) (fun w h1 h2=>⟨(hX w h1 h2).row,(hX w h1 h2).each⟩) hs (by omega) hd hd2) [0] [0] [] ?_;have e1:z=sndC c (it.ps.map (·.1)):=by rw [← hz];unfold hearC;rw [if_pos hk];rfl
    subst e1;exact en_rets () [0] [0] []
  by_cases h14:it.k=14∧(c.st=2∨c.st=4)
  · have hno:¬ (it.k=13∧c.st≠6):=hk
    by_cases h2:c.st=2
    · refine en1 (EF [(.bool ((((it.k:Int)):Int) == 13),.bool false),(.bool ((((it.k:Int)):Int) == 14),.bool true),(.bool ((((c.st:Int)):Int) == 2),.bool true)] ⟨eqI' (by omega),eqI (by omega),eqI (by omega),trivial⟩) (.x::.c::.b 1 0::.f 0::eC 9 (.b 1 0::.f 1::eC 4 (.b 0 1::.f 2::eC 12 [.s 0 1]))) fun Y=>?_
      have e1:z={ c with st:=3 }:=by rw [← hz];unfold hearC;rw [if_neg hk,if_pos h14]
      subst e1;exact en_rets () [0] [0] []
    · refine en1 (EF [(.bool ((((it.k:Int)):Int) == 13),.bool false),(.bool ((((it.k:Int)):Int) == 14),.bool true),(.bool ((((c.st:Int)):Int) == 2),.bool false),(.bool ((((c.st:Int)):Int) == 4),.bool true)] ⟨eqI' (by omega),eqI (by omega),eqI' (by omega),eqI (by omega),trivial⟩) (.x::.c::.b 1 0::.f 0::eC 9 (.b 1 0::.f 1::eC 4 (.b 0 1::.f 2::eC 4 (.b 0 1::.f 3::eC 6 [.s 0 1])))) fun Y=>?_
      have e1:z={ c with st:=3 }:=by rw [← hz];unfold hearC;rw [if_neg hk,if_pos h14]
      subst e1;exact en_rets () [0] [0] []
  by_cases h15:it.k=15∧c.st=5
  · refine en1 (EF [(.bool ((((it.k:Int)):Int) == 13),.bool false),(.bool ((((it.k:Int)):Int) == 14),.bool false),(.bool ((((it.k:Int)):Int) == 15),.bool true),(.bool ((((c.st:Int)):Int) == 5),.bool true)] ⟨eqI' (by omega),eqI' (by omega),eqI (by omega),eqI (by omega),trivial⟩) (.x::.c::.b 1 0::.f 0::eC 9 (.b 1 0::.f 1::eC 16 (.b 1 0::.f 2::eC 4 (.b 0 1::.f 3::eC 5 [.s 0 1])))) fun Y=>?_
    have e1:z={ c with st:=6 }:=by rw [← hz];unfold hearC;rw [if_neg hk,if_neg h14,if_pos h15]
    subst e1;exact en_rets () [0] [0] []
  by_cases h1:it.k=13
  · refine en1 (EF [(.bool ((((it.k:Int)):Int) == 13),.bool true),(.bool ((((c.st:Int)):Int) != 6),.bool false),(.bool ((((it.k:Int)):Int) == 14),.bool false),(.bool ((((it.k:Int)):Int) == 15),.bool false)] ⟨eqI (by omega),neI' (by omega),eqI' (by omega),eqI' (by omega),trivial⟩) (.x::.c::.b 1 0::.f 0::eC 4 (.b 0 1::.f 1::eC 3 (.b 1 0::.f 2::eC 16 (.b 1 0::.f 3::eC 8 [])))) fun Y=>?_
    have e1:z=c:=by rw [← hz];unfold hearC;rw [if_neg hk,if_neg h14,if_neg h15]
    subst e1;exact en_rets () [0] [0] []
  by_cases h2:it.k=14
  · refine en1 (EF [(.bool ((((it.k:Int)):Int) == 13),.bool false),(.bool ((((it.k:Int)):Int) == 14),.bool true),(.bool ((((c.st:Int)):Int) == 2),.bool false),(.bool ((((c.st:Int)):Int) == 4),.bool false),(.bool ((((it.k:Int)):Int) == 15),.bool false)] ⟨eqI' (by omega),eqI (by omega),eqI' (by omega),eqI' (by omega),eqI' (by omega),trivial⟩) (.x::.c::.b 1 0::.f 0::eC 9 (.b 1 0::.f 1::eC 4 (.b 0 1::.f 2::eC 4 (.b 0 1::.f 3::eC 4 (.b 1 0::.f 4::eC 8 []))))) fun Y=>?_
    have e1:z=c:=by rw [← hz];unfold hearC;rw [if_neg hk,if_neg h14,if_neg h15]
    subst e1;exact en_rets () [0] [0] []
  by_cases h3:it.k=15
  · refine en1 (EF [(.bool ((((it.k:Int)):Int) == 13),.bool false),(.bool ((((it.k:Int)):Int) == 14),.bool false),(.bool ((((it.k:Int)):Int) == 15),.bool true),(.bool ((((c.st:Int)):Int) == 5),.bool false)] ⟨eqI' (by omega),eqI' (by omega),eqI (by omega),eqI' (by omega),trivial⟩) (.x::.c::.b 1 0::.f 0::eC 9 (.b 1 0::.f 1::eC 16 (.b 1 0::.f 2::eC 4 [.b 0 1,.f 3,.c,.c]))) fun Y=>?_
    have e1:z=c:=by rw [← hz];unfold hearC;rw [if_neg hk,if_neg h14,if_neg h15]
    subst e1;exact en_rets () [0] [0] []
  refine en1 (EF [(.bool ((((it.k:Int)):Int) == 13),.bool false),(.bool ((((it.k:Int)):Int) == 14),.bool false),(.bool ((((it.k:Int)):Int) == 15),.bool false)] ⟨eqI' (by omega),eqI' (by omega),eqI' (by omega),trivial⟩) (.x::.c::.b 1 0::.f 0::eC 9 (.b 1 0::.f 1::eC 16 (.b 1 0::.f 2::eC 8 []))) fun Y=>?_
  have e1:z=c:=by rw [← hz];unfold hearC;rw [if_neg hk,if_neg h14,if_neg h15]
  subst e1;exact en_rets () [0] [0] []
def closeM (W:Nat) (c:Option Cn) (i:Im):Ml:=⟨homeL (bl i.cl) (W:Int),3,4,i.op,i.cn,i.cl,Pk.zero,match c with | some c=>if c.st=5 then c.leaves else 0 | none=>0⟩
def shutC (c:Cn):Cn:={ c with st:=6 }
def mlV (x:Ml):Value:=.agg (mlC (x,none,0)).toArray
set_option maxRecDepth 100000 in
set_option maxHeartbeats 4000000 in
theorem gate_closesN {wb:World} {g W u m mb:Nat} {it:Im} (hc:it.cl.size≤1000000):Spec Tryz.prog wb 43 #[.pointer (some ⟨g,0,none⟩),.pointer none,.agg (itR it).toArray] [⟨g,gtL W u m mb,82⟩] [] (fun _:Unit=>mlV (closeM W none it)) (fun _=>[⟨g,gtL W u m mb,82⟩]) (fun _=>[]):=by
  intro w H;refine en_call Tryz.func43 H ?_;refine en2 E0 [.x,.n,.c,.b 1 1,.c,.b 1 2,.c,.b 1 3,.c] fun Y R=>?_
  refine en1 (EK [] trivial [⟨63,#[.string it.cl,.int .i64 (W:Int)],.int .i64 (homeL (bl it.cl) (W:Int)),[],[]⟩] ⟨fun _ w _ _=>shard_Home it.cl (W:Int) w (by omega),trivial⟩) [.n,.s 3 0,.c,.c,.g [(1,3,1),(0,0,1),(3,0,38)] 9 false,.d [(0,.c),(1,.l 0 0),(2,.c),(3,.c),(4,.c),(5,.l 1 0),(7,.l 2 0)],.k 0,.d (eN 8 [.c]),.s 2 0] fun Z=>?_
  exact en_rets () [0] [] [2]
set_option maxRecDepth 100000 in
set_option maxHeartbeats 4000000 in
theorem gate_closesS {wb:World} {g W u m mb b x:Nat} {c:Cn} {it:Im} (hc:it.cl.size≤1000000):Spec Tryz.prog wb 43 #[.pointer (some ⟨g,0,none⟩),.pointer (some ⟨b,0,none⟩),.agg (itR it).toArray] [⟨g,gtL W u m mb,82⟩,⟨b,cnL c x,93⟩] [] (fun _:Unit=>mlV (closeM W (some c) it)) (fun _=>[⟨g,gtL W u m mb,82⟩,⟨b,cnL (shutC c) x,93⟩]) (fun _=>[]):=by
  obtain ⟨z,hz⟩:∃ z,closeM W (some c) it=z:=⟨_,rfl⟩
  rw [hz];intro w H;refine en_call Tryz.func43 H ?_;by_cases h5:c.st=5
  · refine en2 E0 [.x,.n,.c,.b 2 1,.c,.b 2 2,.c,.b 2 3,.c] fun Y R=>?_
    refine en1 (EK [(.bool ((((c.st:Int)):Int) == 5),.bool true)] ⟨eqI (by omega),trivial⟩ [⟨63,#[.string it.cl,.int .i64 (W:Int)],.int .i64 (homeL (bl it.cl) (W:Int)),[],[]⟩] ⟨fun _ w _ _=>shard_Home it.cl (W:Int) w (by omega),trivial⟩) (.n::.s 4 0::eC 5 (.b 1 1::.f 0::eC 3 (.b 1 7::.c::.s 4 37::eC 3 [.s 1 1,.g [(2,3,1),(0,0,1),(4,0,38)] 9 false,.d [(0,.c),(1,.l 0 0),(2,.c),(3,.c),(4,.c),(5,.l 1 0),(7,.l 2 0)],.k 0,.d (eN 8 [.c]),.s 3 0]))) fun Z=>?_
    have e1:z=⟨homeL (bl it.cl) (W:Int),3,4,it.op,it.cn,it.cl,Pk.zero,c.leaves⟩:=by rw [← hz];unfold closeM;simp only [if_pos h5]
    subst e1;exact en_rets () [0,0] [] [3]
  · refine en2 E0 [.x,.n,.c,.b 2 1,.c,.b 2 2,.c,.b 2 3,.c] fun Y R=>?_
    refine en1 (EK [(.bool ((((c.st:Int)):Int) == 5),.bool false)] ⟨eqI' (by omega),trivial⟩ [⟨63,#[.string it.cl,.int .i64 (W:Int)],.int .i64 (homeL (bl it.cl) (W:Int)),[],[]⟩] ⟨fun _ w _ _=>shard_Home it.cl (W:Int) w (by omega),trivial⟩) (.n::.s 4 0::eC 5 (.b 1 1::.f 0::eC 3 [.s 1 1,.g [(2,3,1),(0,0,1),(4,0,38)] 9 false,.d [(0,.c),(1,.l 0 0),(2,.c),(3,.c),(4,.c),(5,.l 1 0),(7,.l 2 0)],.k 0,.d (eN 8 [.c]),.s 3 0])) fun Z=>?_
    have e1:z=⟨homeL (bl it.cl) (W:Int),3,4,it.op,it.cn,it.cl,Pk.zero,0⟩:=by rw [← hz];unfold closeM;simp only [if_neg h5]
    subst e1;exact en_rets () [0,0] [] [3]
def hear1 (G:List Cn) (i:Im):List Cn:=if i.k=3 then modG shutC G i.cn else modG (hearC i.k (pksI i)) G i.cn
def hearM1 (W:Nat) (G:List Cn) (i:Im):List Ml:=if i.k=3 then [closeM W (getG G i.cn) i] else []
def hearG (G:List Cn) (xs:List Im):List Cn:=xs.foldl hear1 G
def hearM (W:Nat):List Cn→List Im→List Ml
  | _,[]=>[]
  | G,i::xs=>hearM1 W G i++hearM W (hear1 G i) xs
def mls (M:List Ml):List MlG:=M.map fun x=>(x,none,0)
theorem hearG_snoc (G:List Cn) (xs:List Im) (i:Im):hearG G (xs++[i])=hear1 (hearG G xs) i:=by unfold hearG;rw [List.foldl_append];rfl
theorem hearM_snoc (W:Nat):∀ (xs:List Im) (G:List Cn) (i:Im),hearM W G (xs++[i])=hearM W G xs++hearM1 W (hearG G xs) i
  | [],G,i=>by show hearM1 W G i++[]=[]++hearM1 W G i;simp
  | x::xs,G,i=>by
    show hearM1 W G x++hearM W (hear1 G x) (xs++[i])=(hearM1 W G x++hearM W (hear1 G x) xs)++hearM1 W (hearG (hear1 G x) xs) i;rw [hearM_snoc W xs,List.append_assoc]
theorem hearM_len (W:Nat):∀ (xs:List Im) (G:List Cn),(hearM W G xs).length≤xs.length
  | [],_=>Nat.le_refl _
  | x::xs,G=>by
    have h:=hearM_len W xs (hear1 G x);have h2:(hearM1 W G x).length≤1:=by unfold hearM1;split <;> simp
    show (hearM1 W G x++hearM W (hear1 G x) xs).length≤xs.length+1;rw [List.length_append];omega
set_option maxRecDepth 100000 in
set_option maxHeartbeats 4000000 in
theorem gate_Hear {wb:World} {g W u m mb cap:Nat} {K:List CnG} {al:Option Addr} {xs:List Im} {X:Chk} (hX:∀ w,Below wb.heap.size wb w→X.is w→CellsA w al (itCs xs)∧∀ i ∈ xs,ItIn w i) (hok:∀ i ∈ xs,i.cl.size≤1000000∧i.ps.length≤1000∧∀ p ∈ i.ps,PkOk p.1) (hn:xs.length≤10000) (hb:∀ k c n,getG (hearG (absK K) (xs.take k)) n=some c→c.drain.size≤1000000000000000∧c.sent.size≤1000000000000000):Spec Tryz.prog wb 17 #[.pointer (some ⟨g,0,none⟩),.slice al xs.length cap] [] [gtC g W u m mb K,X] (fun y:{y:Value × List CnG // absK y.2=hearG (absK K) xs}=>y.1.1) (fun _=>[]) (fun y=>[gtC g W u m mb y.1.2,mlK y.1.1 (mls (hearM W (absK K) xs)),X]):=by
  intro w H;refine en_call Tryz.func17 H ?_;obtain ⟨i0,hi,hz0,hz1,hz2⟩:=info_parts gt_infoMl;refine en E0 (eC 7 []) ?_;refine en_row0 51 40 ?_;refine en_new0 (many []) ?_ (fun _=>⟨fun c hc=>(by cases hc),List.Pairwise.nil⟩) (fun j ⟨c,hc,_⟩=>(by cases hc));refine en_pack [1,0] (mlK (.slice none 0 0) []) _ ?_;refine en_drop [] [1,0,0] ?_;refine en_loop (α:={y:Nat × Value × List CnG // absK y.2.2=hearG (absK K) (xs.take y.1)}) (fun y=>xs.length - y.1.1) (fun y=>[(0,.pointer (some ⟨g,0,none⟩)),(11,.slice al xs.length cap),(12,.int .i64 (xs.length:Int)),(13,.int .i64 (y.1.1:Int)),(5,y.1.2.1)]) (fun y=>[]) (fun y=>many [gtC g W u m mb y.1.2.2,mlK y.1.2.1 (mls (hearM W (absK K) (xs.take y.1.1))),X]) ⟨(0,.slice none 0 0,K),rfl⟩ (by kernel_rfl) ?_;intro ⟨⟨k,v0,K2⟩,hK2⟩ J HJ;simp only at HJ hK2
  rcases Nat.lt_or_ge k xs.length with hk | hk
  · obtain ⟨it,hq⟩:∃ q,xs[k]? = some q:=⟨_,List.getElem?_eq_getElem hk⟩
    have hqm:it ∈ xs:=List.mem_of_getElem? hq;have ht:xs.take (k+1)=xs.take k++[it]:=by rw [List.take_add_one,hq];rfl
    obtain ⟨hcl,hfew,hps⟩:=hok it hqm;have hml:(mls (hearM W (absK K) (xs.take k))).length≤10000:=by
      have h:=hearM_len W (xs.take k) (absK K);rw [List.length_take] at h;unfold mls;rw [List.length_map];omega
    refine en_factK (p:=∃ ga oa,al=some ⟨ga,oa,none⟩) (fun w h=>by obtain ⟨g,o,h1,_⟩:=it_range (hX w h.hp.low (is_at h.hp.is 2 (c:=X) rfl)).1 hq;exact ⟨g,o,h1⟩) ?_;rintro ⟨ga,oa,rfl⟩;have HR:∀ w,Below wb.heap.size wb w→X.is w→w.rangeAt ga (oa+k * 38) (itR it):=fun w h1 h2=>by
      obtain ⟨g',o',h3,h4,_⟩:=it_range (hX w h1 h2).1 hq;injection h3 with h3
      injection h3 with h3 h5
      subst h3 h5;exact h4
    have HP:∀ w,Below wb.heap.size wb w→X.is w→ItIn w it:=fun w h1 h2=>(hX w h1 h2).2 it hqm
    refine en1 ⟨⟨[⟨ga,oa+k * 38,itR it⟩],[]⟩,[(.bool (decide ((((k:Int)):Int) < (xs.length:Int))),.bool true)],[⟨some ⟨ga,oa,none⟩,xs.length,cap,.i64,k,38,⟨ga,oa+k * 38,none⟩⟩],[],fun _ _ h=>⟨⟨HR _ h.hp.low (is_at h.hp.is 2 (c:=X) rfl),trivial⟩,trivial⟩,⟨dcT (by omega),trivial⟩,⟨⟨ga,oa,k,rfl,rfl,hk,rfl⟩,trivial⟩,trivial⟩ [.f 0,.i 0,.l 0 0,.n,.s 0 0,.c,.c,.b 0 2] fun Y=>?_
    refine en_spec0 (gate_find (g:=g) (W:=W) (u:=u) (m:=m) (mb:=mb) (K:=K2) it.cn) [] [0] [] ?_;cases hK:getK K2 it.cn
    · by_cases h3:it.k=3
      · refine en (EF [(.bool ((((it.k:Int)):Int) == 3),.bool true)] ⟨eqI (by omega),trivial⟩) (.c::.c::.b 0 0::.f 0::eC 3 [.b 0 0]) ?_
        refine en_unpack 0 (gtC g W u m mb K2) _ ?_;refine en_open 0 ⟨g,gtL W u m mb,82⟩ ?_;refine en_spec0 (gate_closesN (g:=g) (W:=W) (u:=u) (m:=m) (mb:=mb) (it:=it) hcl) [1] [] [] ?_;refine en_shut 0 ⟨g,gtL W u m mb,82⟩ ?_;refine en_pack [0,0,0] (gtC g W u m mb K2) _ ?_;refine en_ops (ops_one 46 51 46 (mlV (closeM W none it)) (mlC ((closeM W none it),none,0)).toArray rfl i0 _ hz1.symm Tryz.underlying46 hi hz0 (by rw [hz1];decide) (by rw [hz1];decide) (by rw [hz1];kernel_rfl) (by rw [hz1];rfl)) [] [] [] (fun d=>?_);refine en_unpack 2 (mlK v0 (mls (hearM W (absK K) (xs.take k)))) _ ?_;refine en_ops (ops_app 46 46 51 i0 _ Tryz.underlying46 hi hz0 (hz1 ▸ rfl) (by rw [hz1];decide) (hz1.symm) (v:=v0) (x:=.slice (some ⟨d,0,none⟩) 1 1) (n:=(mls (hearM W (absK K) (xs.take k))).length) (m:=1) (xs:=mlCs (mls (hearM W (absK K) (xs.take k)))) (news:=mlC ((closeM W none it),none,0)) (mlC_one _) (by unfold maxLen;omega) (by rw [hz2];omega)) [] [0,1] [] (fun v'=>?_);obtain ⟨M',hM'⟩:∃ M',M'=mls (hearM W (absK K) (xs.take k))++[((closeM W none it),none,0)]:=⟨_,rfl⟩
        have e1:mlCs (mls (hearM W (absK K) (xs.take k)))++mlC ((closeM W none it),none,0)=mlCs M':=by rw [hM'];unfold mlCs;simp
        have e2:(mls (hearM W (absK K) (xs.take k))).length+1=M'.length:=by rw [hM'];simp
        rw [e1,e2];refine en_new0 (sbC (Pk.zero,none,0)) ?_ (fun w=>World.ownsRow_nil w 0 _ _) (fun j h=>by cases h);refine en_in [0,2] (many (M'.map fun x=>sbC (x.1.p,x.2))) (sbC (Pk.zero,none,0)) (M'.map fun x=>sbC (x.1.p,x.2)) ((mls (hearM W (absK K) (xs.take k))).map fun x=>sbC (x.1.p,x.2)) (by rw [hM',List.map_append];exact (List.perm_append_singleton _ _).symm) ?_;refine en_pack [1,0] (mlK v' M') _ ?_;have hg:getG (hearG (absK K) (xs.take k)) it.cn=none:=by rw [← hK2,get_abs,hK];rfl
        have e3:M'=mls (hearM W (absK K) (xs.take (k+1))):=by rw [hM',ht,hearM_snoc];unfold hearM1;rw [if_pos h3,hg];unfold mls;simp
        refine en_word 0 (mlK v' M') (mlK v' (mls (hearM W (absK K) (xs.take (k+1))))) (by rw [e3]) ?_;refine en (EF [(.int .i64 (IntKind.i64.wrap ((k:Int)+1)),.int .i64 ((k+1:Nat):Int))] ⟨addI (by omega),trivial⟩) [.c,.f 0,.c] ?_;refine en_drop [] [2,0,1] ?_;exact en_stopI (fun a w F HK=>HJ ⟨(k+1,v',K2),by simp only;rw [ht,hearG_snoc,← hK2];unfold hear1;rw [if_pos h3];exact abs_none hK⟩ a w (by show xs.length - (k+1) < xs.length - k;omega) F HK)
      · refine en (EF [(.bool ((((it.k:Int)):Int) == 3),.bool false),(.int .i64 (IntKind.i64.wrap ((k:Int)+1)),.int .i64 ((k+1:Nat):Int))] ⟨eqI' (by omega),addI (by omega),trivial⟩) [.c,.c,.b 0 0,.f 0,.c,.c,.f 1,.c] ?_
        have e3:(hearM W (absK K) (xs.take (k+1)))=(hearM W (absK K) (xs.take k)):=by rw [ht,hearM_snoc];unfold hearM1;rw [if_neg h3,List.append_nil]
        refine en_word 1 (mlK v0 (mls (hearM W (absK K) (xs.take k)))) (mlK v0 (mls (hearM W (absK K) (xs.take (k+1))))) (by rw [e3]) ?_;refine en_drop [] [1,0,0] ?_;exact en_stopI (fun a w F HK=>HJ ⟨(k+1,v0,K2),by simp only;rw [ht,hearG_snoc,← hK2];unfold hear1;rw [if_neg h3];exact abs_none hK⟩ a w (by show xs.length - (k+1) < xs.length - k;omega) F HK)
    · rename_i c
      obtain ⟨A,B,rfl,hcn,hA⟩:=get_split hK;obtain ⟨c,b,x,v⟩:=c;simp only at hcn
      obtain ⟨hd,hd2⟩:=hb k c it.cn (by rw [← hK2,get_abs,hK];rfl);by_cases h3:it.k=3
      · refine en (EF [(.bool ((((it.k:Int)):Int) == 3),.bool true)] ⟨eqI (by omega),trivial⟩) (.c::.c::.b 0 0::.f 0::eC 3 [.b 0 0]) ?_
        refine en_unpack 0 (gtC g W u m mb (A++(c,b,x,v)::B)) _ ?_;refine en_open 0 ⟨g,gtL W u m mb,82⟩ ?_;refine en_out 1 (many ((A++(c,b,x,v)::B).map (cnC m))) (cnC m (c,b,x,v)) ((A++(c,b,x,v)::B).map (cnC m)) ((A++B).map (cnC m)) (cn_out m (c,b,x,v) A B) ?_;refine en_unpack 0 (cnC m (c,b,x,v)) _ ?_;refine en_open 0 ⟨b,cnL c x,93⟩ ?_;refine en_spec0 (gate_closesS (g:=g) (W:=W) (u:=u) (m:=m) (mb:=mb) (b:=b) (x:=x) (c:=c) (it:=it) hcl) [1,1] [] [] ?_;refine en_shut 0 ⟨g,gtL W u m mb,82⟩ ?_;refine gc_shut g W u m mb b x v v A c (shutC c) B rfl [0] [1,1,1,0] ?_;refine en_ops (ops_one 46 51 46 (mlV (closeM W (some c) it)) (mlC ((closeM W (some c) it),none,0)).toArray rfl i0 _ hz1.symm Tryz.underlying46 hi hz0 (by rw [hz1];decide) (by rw [hz1];decide) (by rw [hz1];kernel_rfl) (by rw [hz1];rfl)) [] [] [] (fun d=>?_);refine en_unpack 2 (mlK v0 (mls (hearM W (absK K) (xs.take k)))) _ ?_;refine en_ops (ops_app 46 46 51 i0 _ Tryz.underlying46 hi hz0 (hz1 ▸ rfl) (by rw [hz1];decide) (hz1.symm) (v:=v0) (x:=.slice (some ⟨d,0,none⟩) 1 1) (n:=(mls (hearM W (absK K) (xs.take k))).length) (m:=1) (xs:=mlCs (mls (hearM W (absK K) (xs.take k)))) (news:=mlC ((closeM W (some c) it),none,0)) (mlC_one _) (by unfold maxLen;omega) (by rw [hz2];omega)) [] [0,1] [] (fun v'=>?_);obtain ⟨M',hM'⟩:∃ M',M'=mls (hearM W (absK K) (xs.take k))++[((closeM W (some c) it),none,0)]:=⟨_,rfl⟩
        have e1:mlCs (mls (hearM W (absK K) (xs.take k)))++mlC ((closeM W (some c) it),none,0)=mlCs M':=by rw [hM'];unfold mlCs;simp
        have e2:(mls (hearM W (absK K) (xs.take k))).length+1=M'.length:=by rw [hM'];simp
        rw [e1,e2];refine en_new0 (sbC (Pk.zero,none,0)) ?_ (fun w=>World.ownsRow_nil w 0 _ _) (fun j h=>by cases h);refine en_in [0,2] (many (M'.map fun x=>sbC (x.1.p,x.2))) (sbC (Pk.zero,none,0)) (M'.map fun x=>sbC (x.1.p,x.2)) ((mls (hearM W (absK K) (xs.take k))).map fun x=>sbC (x.1.p,x.2)) (by rw [hM',List.map_append];exact (List.perm_append_singleton _ _).symm) ?_;refine en_pack [1,0] (mlK v' M') _ ?_;have hg:getG (hearG (absK K) (xs.take k)) it.cn=some c:=by rw [← hK2,get_abs,hK];rfl
        have e3:M'=mls (hearM W (absK K) (xs.take (k+1))):=by rw [hM',ht,hearM_snoc];unfold hearM1;rw [if_pos h3,hg];unfold mls;simp
        refine en_word 0 (mlK v' M') (mlK v' (mls (hearM W (absK K) (xs.take (k+1))))) (by rw [e3]) ?_;refine en (EF [(.int .i64 (IntKind.i64.wrap ((k:Int)+1)),.int .i64 ((k+1:Nat):Int))] ⟨addI (by omega),trivial⟩) [.c,.f 0,.c] ?_;refine en_drop [] [2,0,1] ?_;exact en_stopI (fun a w F HK=>HJ ⟨(k+1,v',A++(shutC c,b,x,v)::B),by simp only;rw [ht,hearG_snoc,← hK2];unfold hear1;rw [if_pos h3];exact abs_mod shutC hcn rfl A hA⟩ a w (by show xs.length - (k+1) < xs.length - k;omega) F HK)
      · refine en (EF [(.bool ((((it.k:Int)):Int) == 3),.bool false)] ⟨eqI' (by omega),trivial⟩) (.c::.c::.b 0 0::.f 0::eC 3 [.b 0 0]) ?_
        refine en_unpack 0 (gtC g W u m mb (A++(c,b,x,v)::B)) _ ?_;refine en_out 2 (many ((A++(c,b,x,v)::B).map (cnC m))) (cnC m (c,b,x,v)) ((A++(c,b,x,v)::B).map (cnC m)) ((A++B).map (cnC m)) (cn_out m (c,b,x,v) A B) ?_;refine en_unpack 0 (cnC m (c,b,x,v)) _ ?_;refine en_open 0 ⟨b,cnL c x,93⟩ ?_;refine en_spec0 (conn_hears (b:=b) (x:=x) (c:=c) (it:=it) (X:=X) HP hfew (fun p hp=>Nat.le_trans (enc_size (hps p hp)) (by decide)) hd hd2) [1] [5] [] ?_;refine en_word 1 (frC x m v c.L c.e) (frC x m v (hearC it.k (pksI it) c).L (hearC it.k (pksI it) c).e) (by rw [hearC_L,hearC_e]) ?_;refine gc_shut g W u m mb b x v v A c (hearC it.k (pksI it) c) B ((hearC_num _ _ _)) [0] [0,1,2,1] ?_;refine en (EF [(.int .i64 (IntKind.i64.wrap ((k:Int)+1)),.int .i64 ((k+1:Nat):Int))] ⟨addI (by omega),trivial⟩) [.f 0,.c] ?_;have e3:(hearM W (absK K) (xs.take (k+1)))=(hearM W (absK K) (xs.take k)):=by rw [ht,hearM_snoc];unfold hearM1;rw [if_neg h3,List.append_nil]
        refine en_word 2 (mlK v0 (mls (hearM W (absK K) (xs.take k)))) (mlK v0 (mls (hearM W (absK K) (xs.take (k+1))))) (by rw [e3]) ?_;refine en_drop [] [1,0,0] ?_;exact en_stopI (fun a w F HK=>HJ ⟨(k+1,v0,A++(hearC it.k (pksI it) c,b,x,v)::B),by simp only;rw [ht,hearG_snoc,← hK2];unfold hear1;rw [if_neg h3];exact abs_mod (hearC it.k (pksI it)) hcn rfl A hA⟩ a w (by show xs.length - (k+1) < xs.length - k;omega) F HK)
  have e1:xs.take k=xs:=List.take_of_length_le hk;rw [e1] at hK2;refine en_word 1 (mlK v0 (mls (hearM W (absK K) (xs.take k)))) (mlK v0 (mls (hearM W (absK K) xs))) (by rw [e1]) ?_;refine en (EF [(.bool (decide ((((k:Int)):Int) < (xs.length:Int))),.bool false)] ⟨dcF (by omega),trivial⟩) [.f 0,.c,.c] ?_;exact en_rets ⟨(v0,K2),hK2⟩ [] [1,0,0] []
end Go.Proofs.YtehpihmgjbmoaaaGreatDoor
