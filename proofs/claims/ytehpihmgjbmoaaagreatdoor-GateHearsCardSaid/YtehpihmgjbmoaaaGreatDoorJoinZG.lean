import Derived.Test.YtehpihmgjbmoaaaGreatDoorJoinZF
import Derived.Test.YtehpihmgjbmoaaaGreatDoorJoinRR
import Derived.Test.YtehpihmgjbmoaaaGreatDoorJoinRN
import Derived.Test.YtehpihmgjbmoaaaGreatDoorJoinZA
namespace Go.Proofs.YtehpihmgjbmoaaaGreatDoor
open Go.RowKit
attribute [local irreducible] Ok
theorem bB_one {L M:Bs} (h:bB L=bB M):L=M:=by
  have h2:=congrArg bl h;rw [bl_bB,bl_bB] at h2;exact h2
set_option maxRecDepth 100000 in
set_option maxHeartbeats 4000000 in
theorem r5_Decode {wb:World} (L:Bs) (hL:L.length≤90000000) {p:Pk} {n e:Nat} (hd:decR L=(p,n,e)):Spec Tryz.prog wb 89 #[.string (bB L)] [] [] (fun y:Option Addr × Nat=>.tuple #[.agg (pkV p y.1 y.2),.int .i64 (n:Int),.int .i64 (e:Int)]) (fun _=>[]) (fun y=>[sbC (p,y)]):=by
  rw [← ref_dec L hL] at hd;cases L with
  | nil =>
    intro w H;refine en_call Tryz.func89 H ?_;refine en1 (EF [(.bool (((bB []):ByteArray).toList == (⟨#[]⟩:ByteArray).toList),.bool true)] ⟨eqS (rfl),trivial⟩) (.n::eC 3 [.f 0,.c,.s 0 0,.c,.c]) fun R=>?_
    have hz:(p,n,e)=(Pk.zero,0,2):=by rw [← hd];rfl
    simp only [Prod.mk.injEq] at hz;obtain ⟨rfl,rfl,rfl⟩:=hz;refine en_row0 112 2 ?_;exact en_rets (none,0) [] [0] [0]
  | cons b t =>
    have hb:=b.toNat_lt;have hne:bB (b::t)≠⟨#[]⟩:=fun e=>by have h:=congrArg ByteArray.size e;cases h
    have hsz:(bB (b::t)).size=(t.length+1:Nat):=rfl;simp only [List.length_cons] at hL;simp only [refD] at hd;cases hfo:firstOk b.toNat
    · rw [if_pos hfo] at hd
      intro w H;refine en_call Tryz.func89 H ?_;refine en1 ⟨⟨[],[(ixT (.string (bB (b::t))) (.int .i64 ((0:Nat):Int)) 5,.int .u8 (b.toNat:Int))]⟩,[(.bool (((bB (b::t)):ByteArray).toList == (⟨#[]⟩:ByteArray).toList),.bool false)],[],[],fun _ _ h=>⟨trivial,⟨ix_run (L:=b::t) (i:=0) rfl 5,trivial⟩⟩,⟨eqS' (hne),trivial⟩,trivial,trivial⟩ (.n::eC 3 [.f 0,.c,.r 0]) fun R=>?_
      have HF:=r5_First (wb:=wb) b.toNat (by omega);rw [hfo] at HF;refine en_spec0 (HF) [] [] [] ?_;refine en E0 [.c,.c,.s 0 0,.c,.c] ?_;simp only [Prod.mk.injEq] at hd;obtain ⟨rfl,rfl,rfl⟩:=hd;refine en_row0 112 2 ?_;exact en_rets (none,0) [] [0] [0]
    · rw [if_neg (by rw [hfo];decide)] at hd
      rcases hlen:lenR t with ⟨m,u,f⟩
      rw [hlen] at hd;simp only at hd
      intro w H;refine en_call Tryz.func89 H ?_;refine en1 ⟨⟨[],[(ixT (.string (bB (b::t))) (.int .i64 ((0:Nat):Int)) 5,.int .u8 (b.toNat:Int))]⟩,[(.bool (((bB (b::t)):ByteArray).toList == (⟨#[]⟩:ByteArray).toList),.bool false)],[],[],fun _ _ h=>⟨trivial,⟨ix_run (L:=b::t) (i:=0) rfl 5,trivial⟩⟩,⟨eqS' (hne),trivial⟩,trivial,trivial⟩ (.n::eC 3 [.f 0,.c,.r 0]) fun R=>?_
      have HF:=r5_First (wb:=wb) b.toNat (by omega);rw [hfo] at HF;refine en_spec0 (HF) [] [] [] ?_;refine en ⟨⟨[],[(tlT (.string (bB (b::t))) (.int .i64 ((1:Nat):Int)) 9,.string (bB t))]⟩,[],[],[],fun _ _ h=>⟨trivial,⟨tl_run' (L:=b::t) (i:=1) (M:=t) (Nat.le_add_left 1 t.length) rfl 9,trivial⟩⟩,trivial,trivial,trivial⟩ [.c,.c,.r 0] ?_;have HL:=r1_ReadLen (wb:=wb) t (by omega);rw [hlen] at HL;refine en_spec0 (HL) [] [] [] ?_;refine en E0 (eC 7 []) ?_;refine en_norm (runP (codeOf Tryz.f89) [1,1,1,1,0,0] [] 0) [(0,.string (bB (b::t))),(2,.pointer (some ⟨R,0,none⟩)),(3,.int .i64 0),(4,.int .i64 0),(5,.int .i64 (m:Int)),(6,.int .i64 (u:Int)),(7,.int .i64 (f:Int))] [⟨R,(pkV Pk.zero none 0).toList,33⟩] ?_;by_cases he:f≠0
      · rw [if_pos he] at hd
        refine en (EF [(.bool ((((f:Int)):Int) != 0),.bool true)] ⟨neI (by omega),trivial⟩) [.c,.f 0,.c,.c,.s 0 0,.c,.c] ?_;simp only [Prod.mk.injEq] at hd;obtain ⟨rfl,rfl,rfl⟩:=hd;refine en_row0 112 2 ?_;exact en_rets (none,0) [] [0] [0]
      rw [if_neg he] at hd;simp only [ne_eq,Decidable.not_not] at he;subst he;obtain ⟨u1,u2,u3,u4,u5⟩:=lenR_inv hlen;by_cases hs:t.length < u+m
      · rw [if_pos hs] at hd
        refine en (EF [(.bool (((((0:Nat):Int)):Int) != 0),.bool false),(.int .i64 (IntKind.i64.wrap (1+(u:Int))),.int .i64 ((1+u:Nat):Int)),(.int .i64 (IntKind.i64.wrap (((1+u:Nat):Int)+(m:Int))),.int .i64 ((1+u+m:Nat):Int)),(.bool (decide ((((((bB (b::t))).size:Int)):Int) < ((1+u+m:Nat):Int))),.bool true)] ⟨neI' (by omega),wrN (by omega) (by omega),wrN (by omega) (by omega),dcT (by omega),trivial⟩) (.c::.f 0::.c::.f 1::.c::.f 2::eC 4 [.f 3,.c,.s 0 0,.c,.c]) ?_;simp only [Prod.mk.injEq] at hd;obtain ⟨rfl,rfl,rfl⟩:=hd;refine en_row0 112 2 ?_;exact en_rets (none,0) [] [0] [0]
      rw [if_neg hs] at hd;obtain ⟨M,hM⟩:∃ M,(t.drop u).take m=M:=⟨_,rfl⟩
      rw [hM] at hd;have hml:M.length≤90000000:=by rw [← hM,List.length_take,List.length_drop];omega
      have hmz:(bB M).size=M.length:=rfl;refine en ⟨⟨[],[(mdT (.string (bB (b::t))) (.int .i64 ((1+u:Nat):Int)) (.int .i64 ((1+u+m:Nat):Int)) 9,.string (bB M))]⟩,[(.bool (((((0:Nat):Int)):Int) != 0),.bool false),(.int .i64 (IntKind.i64.wrap (1+(u:Int))),.int .i64 ((1+u:Nat):Int)),(.int .i64 (IntKind.i64.wrap (((1+u:Nat):Int)+(m:Int))),.int .i64 ((1+u+m:Nat):Int)),(.bool (decide ((((((bB (b::t))).size:Int)):Int) < ((1+u+m:Nat):Int))),.bool false),(.int .i64 (IntKind.i64.wrap (1+(u:Int))),.int .i64 ((1+u:Nat):Int))],[],[],fun _ _ h=>⟨trivial,⟨md_run' (L:=b::t) (i:=1+u) (j:=1+u+m) (M:=M) (by omega) (by show 1+u+m≤t.length+1;omega) (by show t.length+1≤_;omega) (by rw [show 1+u+m - (1+u)=m by omega,show (b::t).drop (1+u)=t.drop u by rw [Nat.add_comm];rfl];exact hM) 9,trivial⟩⟩,⟨neI' (by omega),wrN (by omega) (by omega),wrN (by omega) (by omega),dcF (by omega),wrN (by omega) (by omega),trivial⟩,trivial,trivial⟩ (.c::.f 0::.c::.f 1::.c::.f 2::eC 4 [.f 3,.c,.c,.f 4,.c,.r 0,.c]) ?_;refine en_norm (runP (codeOf Tryz.f89) [1,1,1,1,1,1,1,1,0,0] [] 0) [(0,.string (bB (b::t))),(2,.pointer (some ⟨R,0,none⟩)),(3,.int .i64 0),(4,.int .i64 0),(8,.int .i64 ((1+u+m:Nat):Int)),(9,.string (bB M))] [⟨R,(pkV Pk.zero none 0).toList,33⟩] ?_;by_cases hcs:b.toNat=16∧6 < M.length∧M.take 6=dataB mqtt∧M[6]?≠some 4
      · rw [if_pos hcs] at hd
        obtain ⟨q1,q2,q3,q4⟩:=hcs;obtain ⟨c,hc⟩:∃ c,M[6]? = some c:=⟨_,List.getElem?_eq_getElem q2⟩
        have hg:M.getD 6 0=c:=by rw [List.getD_eq_getElem?_getD,hc];rfl
        have hc4:c.toNat≠4:=fun h=>q4 (by rw [hc];exact congrArg some (UInt8.toNat_inj.1 h))
        rw [hg] at hd;refine en ⟨⟨[],[(ixT (.string (bB (b::t))) (.int .i64 ((0:Nat):Int)) 5,.int .u8 (b.toNat:Int)),(hdT' (.string (bB M)) (.int .i64 ((6:Nat):Int)) 9,.string (bB (M.take 6))),(ixT (.string (bB M)) (.int .i64 ((6:Nat):Int)) 5,.int .u8 (c.toNat:Int))]⟩,[(.bool ((((b.toNat:Int)):Int) == 16),.bool true),(.bool (decide ((((((bB M)).size:Int)):Int) > 6)),.bool true),(.bool (((bB (M.take 6)):ByteArray).toList == (⟨#[0,4,77,81,84,84]⟩:ByteArray).toList),.bool true),(.bool ((((c.toNat:Int)):Int) != 4),.bool true)],[],[],fun _ _ h=>⟨trivial,⟨ix_run (L:=b::t) (i:=0) rfl 5,hd_run (L:=M) (j:=6) (by omega) (by omega) 9,ix_run (L:=M) (i:=6) hc 5,trivial⟩⟩,⟨eqI (by omega),dcT (by omega),eqS ((show bB (M.take 6)=⟨#[0,4,77,81,84,84]⟩ by rw [q3];rfl)),neI (by omega),trivial⟩,trivial,trivial⟩ (.c::.r 0::.f 0::eC 3 (.f 1::eC 3 (.r 1::.f 2::eC 3 [.r 2,.f 3,.c,.c,.r 2,.c,.c,.s 0 0,.c,.c]))) ?_;simp only [Prod.mk.injEq] at hd;obtain ⟨rfl,rfl,rfl⟩:=hd;refine en_row0 112 2 ?_;exact en_rets (none,0) [] [0] [0]
      rw [if_neg hcs] at hd;refine en_meetP (codeOf Tryz.f89) [1,1,1,1,1,1,1,1,0] [] (α:=Unit) 1 (fun _=>[(0,.string (bB (b::t))),(2,.pointer (some ⟨R,0,none⟩)),(3,.int .i64 0),(4,.int .i64 0),(8,.int .i64 ((1+u+m:Nat):Int)),(9,.string (bB M))]) (fun _=>[⟨R,(pkV Pk.zero none 0).toList,33⟩]) (fun _=>many []) ?_ ?_
      · intro JM HJM
        by_cases q1:b.toNat=16
        · by_cases q2:6 < M.length
          · by_cases q3:M.take 6=dataB mqtt
            · obtain ⟨c,hc⟩:∃ c,M[6]? = some c:=⟨_,List.getElem?_eq_getElem q2⟩
              have hc4:c.toNat=4:=Decidable.byContradiction fun h=>hcs ⟨q1,q2,q3,fun h2=>h (by rw [hc] at h2;rw [Option.some.inj h2];rfl)⟩
              refine en ⟨⟨[],[(ixT (.string (bB (b::t))) (.int .i64 ((0:Nat):Int)) 5,.int .u8 (b.toNat:Int)),(hdT' (.string (bB M)) (.int .i64 ((6:Nat):Int)) 9,.string (bB (M.take 6))),(ixT (.string (bB M)) (.int .i64 ((6:Nat):Int)) 5,.int .u8 (c.toNat:Int))]⟩,[(.bool ((((b.toNat:Int)):Int) == 16),.bool true),(.bool (decide ((((((bB M)).size:Int)):Int) > 6)),.bool true),(.bool (((bB (M.take 6)):ByteArray).toList == (⟨#[0,4,77,81,84,84]⟩:ByteArray).toList),.bool true),(.bool ((((c.toNat:Int)):Int) != 4),.bool false)],[],[],fun _ _ h=>⟨trivial,⟨ix_run (L:=b::t) (i:=0) rfl 5,hd_run (L:=M) (j:=6) (by omega) (by omega) 9,ix_run (L:=M) (i:=6) hc 5,trivial⟩⟩,⟨eqI (by omega),dcT (by omega),eqS ((show bB (M.take 6)=⟨#[0,4,77,81,84,84]⟩ by rw [q3];rfl)),neI' (by omega),trivial⟩,trivial,trivial⟩ (.c::.r 0::.f 0::eC 3 (.f 1::eC 3 (.r 1::.f 2::eC 3 [.r 2,.f 3,.c]))) ?_;exact en_stopI (fun a w F HK=>HJM () a w F HK)
            · refine en ⟨⟨[],[(ixT (.string (bB (b::t))) (.int .i64 ((0:Nat):Int)) 5,.int .u8 (b.toNat:Int)),(hdT' (.string (bB M)) (.int .i64 ((6:Nat):Int)) 9,.string (bB (M.take 6)))]⟩,[(.bool ((((b.toNat:Int)):Int) == 16),.bool true),(.bool (decide ((((((bB M)).size:Int)):Int) > 6)),.bool true),(.bool (((bB (M.take 6)):ByteArray).toList == (⟨#[0,4,77,81,84,84]⟩:ByteArray).toList),.bool false)],[],[],fun _ _ h=>⟨trivial,⟨ix_run (L:=b::t) (i:=0) rfl 5,hd_run (L:=M) (j:=6) (by omega) (by omega) 9,trivial⟩⟩,⟨eqI (by omega),dcT (by omega),eqS' ((fun h=>q3 (bB_one (M:=dataB mqtt) h))),trivial⟩,trivial,trivial⟩ (.c::.r 0::.f 0::eC 3 (.f 1::eC 3 (.r 1::.f 2::eC 6 []))) ?_
              exact en_stopI (fun a w F HK=>HJM () a w F HK)
          · refine en ⟨⟨[],[(ixT (.string (bB (b::t))) (.int .i64 ((0:Nat):Int)) 5,.int .u8 (b.toNat:Int))]⟩,[(.bool ((((b.toNat:Int)):Int) == 16),.bool true),(.bool (decide ((((((bB M)).size:Int)):Int) > 6)),.bool false)],[],[],fun _ _ h=>⟨trivial,⟨ix_run (L:=b::t) (i:=0) rfl 5,trivial⟩⟩,⟨eqI (by omega),dcF (by omega),trivial⟩,trivial,trivial⟩ (.c::.r 0::.f 0::eC 3 (.f 1::eC 11 [])) ?_
            exact en_stopI (fun a w F HK=>HJM () a w F HK)
        · refine en ⟨⟨[],[(ixT (.string (bB (b::t))) (.int .i64 ((0:Nat):Int)) 5,.int .u8 (b.toNat:Int))]⟩,[(.bool ((((b.toNat:Int)):Int) == 16),.bool false)],[],[],fun _ _ h=>⟨trivial,⟨ix_run (L:=b::t) (i:=0) rfl 5,trivial⟩⟩,⟨eqI' (by omega),trivial⟩,trivial,trivial⟩ (.c::.r 0::.f 0::eC 15 []) ?_
          exact en_stopI (fun a w F HK=>HJM () a w F HK)
      intro _;have hpk:=guess_pk (b:=b.toNat) (by omega) hml;have HG:=r5_guess (wb:=wb) (b:=b.toNat) (by omega) hml;obtain ⟨gp,hgp⟩:∃ x,guessR b.toNat M=x:=⟨_,rfl⟩
      have hsay:saysR b.toNat M=(rightR gp && (decide (16 * gp.ty+flagsN gp=b.toNat) && decide (restB gp=M))):=by unfold saysR;rw [hgp]
      rw [hsay,hgp] at hd;rw [hgp] at HG hpk;refine en ⟨⟨[],[(ixT (.string (bB (b::t))) (.int .i64 ((0:Nat):Int)) 5,.int .u8 (b.toNat:Int))]⟩,[],[],[],fun _ _ h=>⟨trivial,⟨ix_run (L:=b::t) (i:=0) rfl 5,trivial⟩⟩,trivial,trivial,trivial⟩ [.c,.r 0,.c] ?_;refine en_spec (HG) [] [] [] (fun y=>?_);obtain ⟨a,k⟩:=y;refine en1 E0 [.n,.s 1 0] fun G=>?_
      refine en_norm (cfgP (codeOf Tryz.f89) [1,1,1,1,1,1,1,1,1,1,0,0] []) [(0,.string (bB (b::t))),(2,.pointer (some ⟨R,0,none⟩)),(3,.int .i64 0),(4,.int .i64 0),(8,.int .i64 ((1+u+m:Nat):Int)),(9,.string (bB M)),(10,.pointer (some ⟨G,0,none⟩))] [⟨R,(pkV Pk.zero none 0).toList,33⟩,⟨G,[.int .u8 (gp.ty:Int),.bool gp.dup,.int .u8 (gp.qos:Int),.bool gp.ret,.int .u16 (gp.id:Int),.string gp.topic,.string gp.payload,.int .u8 (gp.level:Int),.bool gp.clean,.int .u16 (gp.keep:Int),.string gp.client,.bool gp.hasWill,.string gp.wtopic,.string gp.wpayload,.int .u8 (gp.wqos:Int),.bool gp.wret,.bool gp.hasUser,.bool gp.hasPass,.string gp.user,.string gp.pass,.bool gp.present,.int .u8 (gp.code:Int),.slice a gp.subs.length k,.string gp.codes],33⟩] ?_;have hrr:=(right_rest gp hpk).1;cases hri:rightR gp
      · refine en (EK [] trivial [⟨105,#[.agg (pkV gp a k)],.bool false,[],[]⟩] ⟨fun _ w h _=>by have hR:=ref03_Right gp a k w h.hp.env hpk (own_cells (show w.ownsRow 0 112 2 (.slice a gp.subs.length k) gp.subs.length (subCells gp.subs) from is_at h.hp.is 0 (c:=sbC (gp,a,k)) rfl));rw [hri] at hR;exact hR,trivial⟩) [.g [(1,0,24)] 1000 false,.d (eN 0 [.l 0 0]),.k 0,.d (eN 2 (eC 15 [])),.c,.s 0 0,.c,.c] ?_
        rw [hri] at hd;simp only [Bool.false_and,Bool.false_eq_true,if_false] at hd;simp only [Prod.mk.injEq] at hd;obtain ⟨rfl,rfl,rfl⟩:=hd;refine en_row0 112 2 ?_;exact en_rets (none,0) [] [0] [0]
      · rw [hri] at hd hrr
        have h0:0≤restP gp:=of_decide_eq_true hrr.symm;have hty:=rest_types h0;have hq3:gp.ty=3→gp.qos≤2:=fun h3=>(pub_parts h3 h0).2.1
        obtain ⟨g1,hg1⟩:∃ x,16 * gp.ty+flagsN gp=x:=⟨_,rfl⟩
        rw [hg1] at hd;have HF1:=fun w (hE:Env w)=>ref04_First gp a k w hE hty hq3
        rw [hg1] at HF1;simp only [Bool.true_and] at hd;by_cases hfe:¬ g1=b.toNat
        · refine en ⟨⟨[],[(ixT (.string (bB (b::t))) (.int .i64 ((0:Nat):Int)) 5,.int .u8 (b.toNat:Int))]⟩,[(.int .i64 (IntKind.i64.wrap ((b.toNat:Int))),.int .i64 (b.toNat:Int)),(.bool ((((g1:Int)):Int) != (b.toNat:Int)),.bool true)],[],[⟨105,#[.agg (pkV gp a k)],.bool true,[],[]⟩,⟨103,#[.agg (pkV gp a k)],.int .i64 (g1:Int),[],[]⟩],fun _ _ h=>⟨trivial,⟨ix_run (L:=b::t) (i:=0) rfl 5,trivial⟩⟩,⟨cI (by omega),neI (by omega),trivial⟩,trivial,⟨fun _ w h _=>by have hR:=ref03_Right gp a k w h.hp.env hpk (own_cells (show w.ownsRow 0 112 2 (.slice a gp.subs.length k) gp.subs.length (subCells gp.subs) from is_at h.hp.is 0 (c:=sbC (gp,a,k)) rfl));rw [hri] at hR;exact hR,fun _ w h _=>HF1 w h.hp.env,trivial⟩⟩ [.g [(1,0,24)] 1000 true,.d (eN 0 [.l 0 0]),.k 0,.d [(2,.c),(3,.c),(4,.l 0 0),(6,.c),(7,.r 0),(8,.f 0)],.k 1,.d (eN 9 (.f 1::eC 7 [])),.c,.s 0 0,.c,.c] ?_
          rw [decide_eq_false hfe] at hd;simp only [Bool.false_and,Bool.false_eq_true,if_false] at hd;simp only [Prod.mk.injEq] at hd;obtain ⟨rfl,rfl,rfl⟩:=hd;refine en_row0 112 2 ?_;exact en_rets (none,0) [] [0] [0]
        have hfe:g1=b.toNat:=by omega
        rw [decide_eq_true hfe] at hd;simp only [Bool.true_and] at hd;by_cases hre:¬ restB gp=M
        · refine en ⟨⟨[],[(ixT (.string (bB (b::t))) (.int .i64 ((0:Nat):Int)) 5,.int .u8 (b.toNat:Int))]⟩,[(.int .i64 (IntKind.i64.wrap ((b.toNat:Int))),.int .i64 (b.toNat:Int)),(.bool ((((g1:Int)):Int) != (b.toNat:Int)),.bool false),(.bool (!(((bB (restB gp)):ByteArray).toList == ((bB M):ByteArray).toList)),.bool true)],[],[⟨105,#[.agg (pkV gp a k)],.bool true,[],[]⟩,⟨103,#[.agg (pkV gp a k)],.int .i64 (g1:Int),[],[]⟩,⟨106,#[.agg (pkV gp a k)],.string (bB (restB gp)),[],[]⟩],fun _ _ h=>⟨trivial,⟨ix_run (L:=b::t) (i:=0) rfl 5,trivial⟩⟩,⟨cI (by omega),neI' (by omega),neS ((fun h=>hre (bB_one h))),trivial⟩,trivial,⟨fun _ w h _=>by have hR:=ref03_Right gp a k w h.hp.env hpk (own_cells (show w.ownsRow 0 112 2 (.slice a gp.subs.length k) gp.subs.length (subCells gp.subs) from is_at h.hp.is 0 (c:=sbC (gp,a,k)) rfl));rw [hri] at hR;exact hR,fun _ w h _=>HF1 w h.hp.env,fun _ w h _=>ref04_Rest gp a k w h.hp.env hpk (own_cells (show w.ownsRow 0 112 2 (.slice a gp.subs.length k) gp.subs.length (subCells gp.subs) from is_at h.hp.is 0 (c:=sbC (gp,a,k)) rfl)) h0,trivial⟩⟩ [.g [(1,0,24)] 1000 true,.d (eN 0 [.l 0 0]),.k 0,.d [(2,.c),(3,.c),(4,.l 0 0),(6,.c),(7,.r 0),(8,.f 0)],.k 1,.d [(9,.f 1),(10,.c),(11,.c),(12,.l 0 0),(14,.c)],.k 2,.d (eN 15 [.f 2,.c]),.c,.s 0 0,.c,.c] ?_
          rw [decide_eq_false hre] at hd;simp only [Bool.false_eq_true,if_false] at hd;simp only [Prod.mk.injEq] at hd;obtain ⟨rfl,rfl,rfl⟩:=hd;refine en_row0 112 2 ?_;exact en_rets (none,0) [] [0] [0]
        have hre:restB gp=M:=Decidable.byContradiction hre;rw [decide_eq_true hre] at hd;simp only [if_true] at hd;refine en ⟨⟨[],[(ixT (.string (bB (b::t))) (.int .i64 ((0:Nat):Int)) 5,.int .u8 (b.toNat:Int))]⟩,[(.int .i64 (IntKind.i64.wrap ((b.toNat:Int))),.int .i64 (b.toNat:Int)),(.bool ((((g1:Int)):Int) != (b.toNat:Int)),.bool false),(.bool (!(((bB (restB gp)):ByteArray).toList == ((bB M):ByteArray).toList)),.bool false)],[],[⟨105,#[.agg (pkV gp a k)],.bool true,[],[]⟩,⟨103,#[.agg (pkV gp a k)],.int .i64 (g1:Int),[],[]⟩,⟨106,#[.agg (pkV gp a k)],.string (bB (restB gp)),[],[]⟩],fun _ _ h=>⟨trivial,⟨ix_run (L:=b::t) (i:=0) rfl 5,trivial⟩⟩,⟨cI (by omega),neI' (by omega),neS' ((congrArg bB hre)),trivial⟩,trivial,⟨fun _ w h _=>by have hR:=ref03_Right gp a k w h.hp.env hpk (own_cells (show w.ownsRow 0 112 2 (.slice a gp.subs.length k) gp.subs.length (subCells gp.subs) from is_at h.hp.is 0 (c:=sbC (gp,a,k)) rfl));rw [hri] at hR;exact hR,fun _ w h _=>HF1 w h.hp.env,fun _ w h _=>ref04_Rest gp a k w h.hp.env hpk (own_cells (show w.ownsRow 0 112 2 (.slice a gp.subs.length k) gp.subs.length (subCells gp.subs) from is_at h.hp.is 0 (c:=sbC (gp,a,k)) rfl)) h0,trivial⟩⟩ [.g [(1,0,24)] 1000 true,.d (eN 0 [.l 0 0]),.k 0,.d [(2,.c),(3,.c),(4,.l 0 0),(6,.c),(7,.r 0),(8,.f 0)],.k 1,.d [(9,.f 1),(10,.c),(11,.c),(12,.l 0 0),(14,.c)],.k 2,.d (eN 15 [.f 2,.c]),.b 1 0,.c,.s 0 0,.c,.c] ?_;simp only [Prod.mk.injEq] at hd;obtain ⟨rfl,rfl,rfl⟩:=hd;exact en_rets (a,k) [] [0] [0]
end Go.Proofs.YtehpihmgjbmoaaaGreatDoor
namespace Go.Proofs.YtehpihmgjbmoaaaGreatDoor
open Go.RowKit
attribute [local irreducible] Ok
def rfL (m:Nat) (L:Bs) (e:Nat):List Value:=[.int .i64 (m:Int),.string (bB L),.int .i64 (e:Int)]
theorem dec_take {b:UInt8} {t:Bs} {n u:Nat} (hl:lenR t=(n,u,0)) (h:u+n≤t.length):decR ((b::t).take (1+u+n))=decR (b::t):=by
  have e:(b::t).take (1+u+n)=b::t.take (u+n):=by rw [show 1+u+n=(u+n)+1 by omega];rfl
  have e2:lenR (t.take (u+n))=(n,u,0):=by rw [len_whole t (u+n) (by rw [hl];exact Nat.le_add_right u n) (by rw [hl]),hl]
  have e3:((t.take (u+n)).drop u).take n=(t.drop u).take n:=by rw [List.drop_take,List.take_take];congr 1;omega
  rw [e];simp only [decR];rw [e2,hl];simp only [e3,List.length_take];rw [if_neg (show ¬ (0≠0) by decide),if_neg (show ¬ (0≠0) by decide),if_neg (show ¬ min (u+n) t.length - u < n by omega),if_neg (show ¬ t.length - u < n by omega)]
theorem dec_used {b:UInt8} {t:Bs} {n u k:Nat} {p:Pk} (hl:lenR t=(n,u,0)) (h:decR (b::t)=(p,k,0)):k=1+u+n:=by
  simp only [decR] at h;rw [hl] at h;simp only at h
  split at h
  · cases h
  split at h
  · rename_i h2
    exact absurd rfl h2
  split at h
  · cases h
  split at h
  · rename_i h4
    injection h with _ h
    injection h with _ h
    exact absurd h h4
  · injection h with _ h
    injection h with h _
    exact h.symm
def cpT (a b:Value) (ty:TypeId):Sem Next:=opT [a,b] (.binOp .add 9 (.tmp 0) (.tmp 1) 9) ty
theorem cp_run {L:Bs} {s:ByteArray} (h:L.length+s.size≤9223372036854775807) {w:World} (ty:TypeId):(cpT (.string (bB L)) (.string s) ty).run Tryz.prog w=.ok (.value (.string (bB (L++bl s)))) w:=by
  have e3:(bB L).size=L.length:=rfl;have e4:bB L++s=bB (L++bl s):=by
    apply ByteArray.ext
    rw [ByteArray.data_append];unfold bB bl;simp
  unfold cpT opT;unfold execOp;have e0:∀ y l,known (numL 0 (y::l)) (.tmp 0)=y:=fun _ _=>rfl
  have e1:∀ x y l,known (numL 0 (x::y::l)) (.tmp 1)=y:=fun _ _ _=>rfl
  go_simp;first | done | rw [← e4] | simp [e4]
theorem nx_nil (m:Nat):nxT m [] 0=(Pk.zero,false,0,[],0):=rfl
theorem nx_of {m:Nat} {L:Bs} {n e:Nat} (h:wholeR m L=(n,e)):nxT m L 0=if e≠0 then (Pk.zero,false,e,[],e) else if n=0 then (Pk.zero,false,0,L,0) else if (decR (L.take n)).2.2≠0 then (Pk.zero,false,(decR (L.take n)).2.2,[],(decR (L.take n)).2.2) else ((decR (L.take n)).1,true,0,L.drop n,0):=by
  unfold nxT nextR;rw [h,if_neg (show ¬ (0≠0) by decide)];simp only
  by_cases h1:e≠0
  · rw [if_pos h1,if_pos h1]
  rw [if_neg h1,if_neg h1];by_cases h2:n=0
  · rw [if_pos h2,if_pos h2]
  rw [if_neg h2,if_neg h2];by_cases h3:(decR (L.take n)).2.2≠0
  · rw [if_pos h3,if_pos h3]
  · rw [if_neg h3,if_neg h3]
set_option maxRecDepth 100000 in
set_option maxHeartbeats 4000000 in
theorem r6_New {wb:World} (m:Nat) (h1:16≤m) (h2:m≤65536):Spec Tryz.prog wb 65 #[.int .i64 (m:Int)] [] [] (fun x:Nat=>.pointer (some ⟨x,0,none⟩)) (fun x=>[⟨x,rfL m [] 0,146⟩]) (fun _=>[]):=by
  intro w H;refine en_call Tryz.func65 H ?_;refine en1 (EF [(.bool (decide ((((m:Int)):Int) < 16)),.bool false),(.bool (decide ((((m:Int)):Int) > 65536)),.bool false)] ⟨dcF (by omega),dcF (by omega),trivial⟩) (.c::.c::.f 0::.c::.c::.f 1::eC 3 [.x,.c]) fun x=>?_
  exact en_rets x [0] [] []
set_option maxRecDepth 100000 in
set_option maxHeartbeats 4000000 in
theorem r6_Push {wb:World} {x m:Nat} {L:Bs} (s:ByteArray) (hs:L.length+s.size≤300000000):Spec Tryz.prog wb 66 #[.pointer (some ⟨x,0,none⟩),.string s] [⟨x,rfL m L 0,146⟩] [] (fun _:Unit=>.tuple #[]) (fun _=>[⟨x,rfL m (L++bl s) 0,146⟩]) (fun _=>[]):=by
  intro w H;refine en_call Tryz.func66 H ?_;refine en ⟨⟨[],[(cpT (.string (bB L)) (.string s) 9,.string (bB (L++bl s)))]⟩,[],[],[],fun _ _ h=>⟨trivial,⟨cp_run (by omega) 9,trivial⟩⟩,trivial,trivial,trivial⟩ (eC 3 (.b 0 2::eC 5 [.b 0 1,.c,.r 0,.c,.c,.s 0 1])) ?_;exact en_rets () [0] [] []
set_option maxRecDepth 100000 in
set_option maxHeartbeats 4000000 in
theorem r6_PushE {wb:World} {x m e:Nat} {L:Bs} (s:ByteArray) (he:e≠0):Spec Tryz.prog wb 66 #[.pointer (some ⟨x,0,none⟩),.string s] [⟨x,rfL m L e,146⟩] [] (fun _:Unit=>.tuple #[]) (fun _=>[⟨x,rfL m L e,146⟩]) (fun _=>[]):=by
  intro w H;refine en_call Tryz.func66 H ?_;refine en (EF [(.bool ((((e:Int)):Int) == 0),.bool false)] ⟨eqI' (by omega),trivial⟩) (eC 3 [.b 0 2,.f 0]) ?_;exact en_rets () [0] [] []
set_option maxRecDepth 100000 in
set_option maxHeartbeats 4000000 in
theorem r6_fails {wb:World} {x m e k:Nat} {L:Bs}:Spec Tryz.prog wb 88 #[.pointer (some ⟨x,0,none⟩),.int .i64 (k:Int)] [⟨x,rfL m L e,146⟩] [] (fun _:Unit=>.tuple #[.agg (pkV Pk.zero none 0),.bool false,.int .i64 (k:Int)]) (fun _=>[⟨x,rfL m [] k,146⟩]) (fun _=>[]):=by
  intro w H;refine en_call Tryz.func88 H ?_;refine en1 E0 (.n::eC 6 (.s 0 2::eC 3 [.s 0 1,.c,.c,.s 1 0,.c,.c])) fun R=>?_
  exact en_rets () [0] [] [1]
set_option maxRecDepth 100000 in
set_option maxHeartbeats 4000000 in
theorem r6_Next {wb:World} {x m e:Nat} {L:Bs} (hL:L.length≤90000000):Spec Tryz.prog wb 67 #[.pointer (some ⟨x,0,none⟩)] [⟨x,rfL m L e,146⟩] [] (fun y:Option Addr × Nat=>.tuple #[.agg (pkV (nxT m L e).1 y.1 y.2),.bool (nxT m L e).2.1,.int .i64 ((nxT m L e).2.2.1:Int)]) (fun _=>[⟨x,rfL m (nxT m L e).2.2.2.1 (nxT m L e).2.2.2.2,146⟩]) (fun y=>[sbC ((nxT m L e).1,y)]):=by
  obtain ⟨z,hz⟩:∃ z,nxT m L e=z:=⟨_,rfl⟩
  rw [hz];by_cases he:e≠0
  · intro w H
    refine en_call Tryz.func67 H ?_;refine en1 (EF [(.bool ((((e:Int)):Int) != 0),.bool true)] ⟨neI (by omega),trivial⟩) (.n::eC 5 [.b 0 2,.f 0,.g [(0,2,1)] 1000 false,.d (eN 0 (eC 4 [.l 0 0])),.s 1 0,.d (eN 6 [.c,.c])]) fun R=>?_
    have hzz:z=(Pk.zero,false,e,L,e):=by rw [← hz];unfold nxT;rw [if_pos he]
    subst hzz;refine en_row0 112 2 ?_;exact en_rets (none,0) [0] [0] [1]
  simp only [ne_eq,Decidable.not_not] at he;subst he;cases L with
  | nil =>
    intro w H;refine en_call Tryz.func67 H ?_;refine en1 (EF [(.bool (((bB []):ByteArray).toList == (⟨#[]⟩:ByteArray).toList),.bool true)] ⟨eqS (rfl),trivial⟩) (.n::eC 5 (.b 0 2::eC 4 [.b 0 1,.f 0,.c,.s 1 0,.c,.c])) fun R=>?_
    have hzz:z=(Pk.zero,false,0,[],0):=by rw [← hz,nx_nil]
    subst hzz;refine en_row0 112 2 ?_;exact en_rets (none,0) [0] [0] [1]
  | cons b t =>
    have hb:=b.toNat_lt;have hne:bB (b::t)≠⟨#[]⟩:=fun e=>by have h:=congrArg ByteArray.size e;cases h
    have hsz:(bB (b::t)).size=(t.length+1:Nat):=rfl;simp only [List.length_cons] at hL;rcases hlen:lenR t with ⟨n,u,f⟩
    have HL:=r1_ReadLen (wb:=wb) t (by omega);rw [hlen] at HL;have HF:=r5_First (wb:=wb) b.toNat (by omega);have hw:wholeR m (b::t)=wholeR m (b::t):=rfl;conv at hw=>rhs;simp only [wholeR,hlen]
    intro w H;refine en_call Tryz.func67 H ?_;refine en1 ⟨⟨[],[(tlT (.string (bB (b::t))) (.int .i64 ((1:Nat):Int)) 9,.string (bB t))]⟩,[(.bool (((bB (b::t)):ByteArray).toList == (⟨#[]⟩:ByteArray).toList),.bool false)],[],[],fun _ _ h=>⟨trivial,⟨tl_run' (L:=b::t) (i:=1) (M:=t) (Nat.le_add_left 1 t.length) rfl 9,trivial⟩⟩,⟨eqS' (hne),trivial⟩,trivial,trivial⟩ (.n::eC 5 (.b 0 2::eC 4 (.b 0 1::.f 0::eC 3 [.b 0 1,.r 0]))) fun R=>?_
    refine en_spec0 (HL) [] [] [] ?_;refine en ⟨⟨[],[(ixT (.string (bB (b::t))) (.int .i64 ((0:Nat):Int)) 5,.int .u8 (b.toNat:Int))]⟩,[],[],[],fun _ _ h=>⟨trivial,⟨ix_run (L:=b::t) (i:=0) rfl 5,trivial⟩⟩,trivial,trivial,trivial⟩ (eC 10 [.b 0 1,.r 0]) ?_;refine en_norm (runP (codeOf Tryz.f67) [1,1,1,1,0,0] [] 5) [(0,.pointer (some ⟨x,0,none⟩)),(2,.pointer (some ⟨R,0,none⟩)),(3,.bool false),(4,.int .i64 0),(5,.int .i64 (n:Int)),(6,.int .i64 (u:Int)),(7,.int .i64 (f:Int)),(41,.int .u8 (b.toNat:Int))] [⟨x,rfL m (b::t) 0,146⟩,⟨R,(pkV Pk.zero none 0).toList,33⟩] ?_;cases hfo:firstOk b.toNat
    · rw [hfo] at HF
      rw [if_pos hfo] at hw;refine en_spec0 (HF) [] [] [] ?_;refine en E0 (eC 6 []) ?_;refine en_spec0 (r6_fails (x:=x) (m:=m) (e:=0) (k:=4) (L:=b::t)) [0] [] [] ?_;refine en E0 (eC 3 [.s 1 0,.c,.c]) ?_;have hzz:z=(Pk.zero,false,4,[],4):=by rw [← hz,nx_of hw];rfl
      subst hzz;refine en_row0 112 2 ?_;exact en_rets (none,0) [0] [0] [1]
    · rw [hfo] at HF
      rw [if_neg (by rw [hfo];decide)] at hw;refine en_spec0 (HF) [] [] [] ?_;refine en_norm (runP (codeOf Tryz.f67) [1,1,1,1,0,0] [] 6) [(0,.pointer (some ⟨x,0,none⟩)),(2,.pointer (some ⟨R,0,none⟩)),(3,.bool false),(4,.int .i64 0),(5,.int .i64 (n:Int)),(6,.int .i64 (u:Int)),(7,.int .i64 (f:Int)),(42,.bool true)] [⟨x,rfL m (b::t) 0,146⟩,⟨R,(pkV Pk.zero none 0).toList,33⟩] ?_;by_cases hf4:f=4
      · subst hf4
        rw [if_neg (by decide),if_pos (by decide)] at hw;refine en E0 (eC 6 []) ?_;refine en_spec0 (r6_fails (x:=x) (m:=m) (e:=0) (k:=4) (L:=b::t)) [0] [] [] ?_;refine en E0 (eC 3 [.s 1 0,.c,.c]) ?_;have hzz:z=(Pk.zero,false,4,[],4):=by rw [← hz,nx_of hw];rfl
        subst hzz;refine en_row0 112 2 ?_;exact en_rets (none,0) [0] [0] [1]
      by_cases hf2:f=2
      · subst hf2
        rw [if_pos rfl] at hw;refine en E0 (eC 33 [.s 1 0,.c,.c]) ?_;have hzz:z=(Pk.zero,false,0,b::t,0):=by rw [← hz,nx_of hw];rfl
        subst hzz;refine en_row0 112 2 ?_;exact en_rets (none,0) [0] [0] [1]
      have hf0:f=0:=by
        have h:=lenRf_err 4 1 0 0 t;have h2:lenRf 4 1 0 0 t=(n,u,f):=hlen;rw [h2] at h;simp only at h
        omega
      subst hf0;obtain ⟨u1,u2,u3,u4,u5⟩:=lenR_inv hlen;rw [if_neg (by decide),if_neg (by decide)] at hw;by_cases hlo:m < 1+u+n
      · rw [if_pos hlo] at hw
        refine en (EF [(.int .i64 (IntKind.i64.wrap (1+(u:Int))),.int .i64 ((1+u:Nat):Int)),(.int .i64 (IntKind.i64.wrap (((1+u:Nat):Int)+(n:Int))),.int .i64 ((1+u+n:Nat):Int)),(.bool (decide (((((1+u+n:Nat):Int)):Int) > (m:Int))),.bool true)] ⟨wrN (by omega) (by omega),wrN (by omega) (by omega),dcT (by omega),trivial⟩) (eC 9 (.f 0::.c::.f 1::eC 3 [.b 0 0,.f 2,.c,.c])) ?_;refine en_spec0 (r6_fails (x:=x) (m:=m) (e:=0) (k:=3) (L:=b::t)) [0] [] [] ?_;refine en E0 (eC 3 [.s 1 0,.c,.c]) ?_;have hzz:z=(Pk.zero,false,3,[],3):=by rw [← hz,nx_of hw];rfl
        subst hzz;refine en_row0 112 2 ?_;exact en_rets (none,0) [0] [0] [1]
      rw [if_neg hlo] at hw;by_cases hsh:t.length+1 < 1+u+n
      · rw [if_pos hsh] at hw
        refine en (EF [(.int .i64 (IntKind.i64.wrap (1+(u:Int))),.int .i64 ((1+u:Nat):Int)),(.int .i64 (IntKind.i64.wrap (((1+u:Nat):Int)+(n:Int))),.int .i64 ((1+u+n:Nat):Int)),(.bool (decide (((((1+u+n:Nat):Int)):Int) > (m:Int))),.bool false),(.int .i64 (IntKind.i64.wrap (1+(u:Int))),.int .i64 ((1+u:Nat):Int)),(.int .i64 (IntKind.i64.wrap (((1+u:Nat):Int)+(n:Int))),.int .i64 ((1+u+n:Nat):Int)),(.bool (decide ((((((bB (b::t))).size:Int)):Int) < ((1+u+n:Nat):Int))),.bool true)] ⟨wrN (by omega) (by omega),wrN (by omega) (by omega),dcF (by omega),wrN (by omega) (by omega),wrN (by omega) (by omega),dcT (by omega),trivial⟩) (eC 9 (.f 0::.c::.f 1::eC 3 (.b 0 0::.f 2::eC 7 [.b 0 1,.c,.c,.f 3,.c,.f 4,.f 5,.c,.c,.s 1 0,.c,.c]))) ?_;have hzz:z=(Pk.zero,false,0,b::t,0):=by rw [← hz,nx_of hw];rfl
        subst hzz;refine en_row0 112 2 ?_;exact en_rets (none,0) [0] [0] [1]
      rw [if_neg hsh] at hw;have hnx:=nx_of hw;rw [if_neg (by decide),if_neg (by omega),dec_take hlen (by omega)] at hnx;rcases hd:decR (b::t) with ⟨p,k,g⟩
      rw [hd] at hnx;simp only at hnx
      have HD:=r5_Decode (wb:=wb) (b::t) (by simp only [List.length_cons];omega) hd;refine en (EF [(.int .i64 (IntKind.i64.wrap (1+(u:Int))),.int .i64 ((1+u:Nat):Int)),(.int .i64 (IntKind.i64.wrap (((1+u:Nat):Int)+(n:Int))),.int .i64 ((1+u+n:Nat):Int)),(.bool (decide (((((1+u+n:Nat):Int)):Int) > (m:Int))),.bool false),(.int .i64 (IntKind.i64.wrap (1+(u:Int))),.int .i64 ((1+u:Nat):Int)),(.int .i64 (IntKind.i64.wrap (((1+u:Nat):Int)+(n:Int))),.int .i64 ((1+u+n:Nat):Int)),(.bool (decide ((((((bB (b::t))).size:Int)):Int) < ((1+u+n:Nat):Int))),.bool false)] ⟨wrN (by omega) (by omega),wrN (by omega) (by omega),dcF (by omega),wrN (by omega) (by omega),wrN (by omega) (by omega),dcF (by omega),trivial⟩) (eC 9 (.f 0::.c::.f 1::eC 3 (.b 0 0::.f 2::eC 7 (.b 0 1::.c::.c::.f 3::.c::.f 4::.f 5::eC 4 [.b 0 1])))) ?_;refine en_spec (HD) [] [] [] (fun y=>?_);obtain ⟨a,c⟩:=y;refine en1 E0 (eC 4 [.n,.s 2 0,.c,.c]) fun P=>?_
      refine en_norm (runP (codeOf Tryz.f67) [1,1,1,1,1,1,1,1,0,0] [] 0) [(0,.pointer (some ⟨x,0,none⟩)),(2,.pointer (some ⟨R,0,none⟩)),(3,.bool false),(4,.int .i64 0),(8,.pointer (some ⟨P,0,none⟩)),(9,.int .i64 (k:Int)),(10,.int .i64 (g:Int))] [⟨x,rfL m (b::t) 0,146⟩,⟨R,(pkV Pk.zero none 0).toList,33⟩,⟨P,[.int .u8 (p.ty:Int),.bool p.dup,.int .u8 (p.qos:Int),.bool p.ret,.int .u16 (p.id:Int),.string p.topic,.string p.payload,.int .u8 (p.level:Int),.bool p.clean,.int .u16 (p.keep:Int),.string p.client,.bool p.hasWill,.string p.wtopic,.string p.wpayload,.int .u8 (p.wqos:Int),.bool p.wret,.bool p.hasUser,.bool p.hasPass,.string p.user,.string p.pass,.bool p.present,.int .u8 (p.code:Int),.slice a p.subs.length c,.string p.codes],33⟩] ?_;by_cases hg:g≠0
      · rw [if_pos hg] at hnx
        refine en (EF [(.bool ((((g:Int)):Int) != 0),.bool true)] ⟨neI (by omega),trivial⟩) [.c,.f 0,.c,.c] ?_;refine en_spec0 (r6_fails (x:=x) (m:=m) (e:=0) (k:=g) (L:=b::t)) [0] [] [] ?_;refine en E0 (eC 3 [.s 1 0,.c,.c]) ?_;rw [hnx] at hz;subst hz;refine en_row0 112 2 ?_;exact en_rets (none,0) [0] [0] [1]
      rw [if_neg hg] at hnx;simp only [ne_eq,Decidable.not_not] at hg;subst hg;obtain rfl:=dec_used hlen hd;refine en ⟨⟨[],[(tlT (.string (bB (b::t))) (.int .i64 ((1+u+n:Nat):Int)) 9,.string (bB ((b::t).drop (1+u+n))))]⟩,[],[],[],fun _ _ h=>⟨trivial,⟨tl_run (L:=b::t) (i:=1+u+n) (by simp only [List.length_cons];omega) 9,trivial⟩⟩,trivial,trivial,trivial⟩ (eC 6 [.b 0 1,.c,.r 0,.c,.c,.s 0 1,.b 2 0,.s 1 0,.c,.c]) ?_;rw [hnx] at hz;subst hz;exact en_rets (a,c) [0] [0] [1]
end Go.Proofs.YtehpihmgjbmoaaaGreatDoor
namespace Go.Proofs.YtehpihmgjbmoaaaGreatDoor
open Go.RowKit
attribute [local irreducible] Ok
end Go.Proofs.YtehpihmgjbmoaaaGreatDoor
