import Derived.Test.YtehpihmgjbmoaaaGreatDoorJoinZA
import Derived.Test.YtehpihmgjbmoaaaGreatDoorJoinSR
import Derived.Test.YtehpihmgjbmoaaaGreatDoorJoinG
import Derived.Test.YtehpihmgjbmoaaaGreatDoorJoinPB
import Derived.Test.YtehpihmgjbmoaaaGreatDoorJoinA
namespace Go.Proofs.YtehpihmgjbmoaaaGreatDoor
open Go.RowKit
attribute [local irreducible] Ok
def curL (c:Cur) (C:List Value):List Value:=.string (baB c.1)::.bool c.2::C
theorem ne0 (b:UInt8) (t:Bs):bB (b::t)≠⟨#[]⟩:=fun e=>by have h:=congrArg ByteArray.size e;cases h
theorem bit_gt {m f:Nat} (hm:0 < m) {b:Bool} (hb:decide (f / m % 2=1)=b):Value.bool (decide (((bitM m f:Nat):Int) > 0))=.bool b:=by
  subst hb;congr 1;rw [decide_eq_decide,← bit_pos m f hm];omega
theorem bit_m {f:Nat} (hf:f < 256) {m:Nat} (hm:m ∈ ([1,2,4,8,32,64,128]:List Nat)):Value.int .u8 (bits BinOp.and IntKind.u8 (f:Int) (m:Int))=.int .u8 ((bitM m f:Nat):Int):=congrArg (Value.int .u8) (bit_all f hf m hm)
theorem shr_k {K:IntKind} (f n:Nat):Value.int K (Int.fdiv (f:Int) (2 ^ n))=.int K ((f / 2 ^ n:Nat):Int):=by
  congr 1;rw [Int.fdiv_eq_ediv_of_nonneg _ (by have:=Int.pow_nonneg (n:=2) (m:=n) (by decide);omega)];exact (Int.natCast_ediv f (2 ^ n)).symm ▸ (by simp)
theorem and3S {f:Nat} (hf:f < 256):Value.int .u8 (bits BinOp.and IntKind.u8 ((f / 2 ^ 3:Nat):Int) 3)=.int .u8 ((f / 8 % 4:Nat):Int):=by
  have h:=and3_u8 f hf;have e:((f / 2 ^ 3:Nat):Int)=(f:Int) / 8:=by simp
  rw [e,h]
theorem bne_t {a b:ByteArray} (h:a≠b):(a != b)=true:=by
  rw [← ne_toList];have h2:=neS h;injection h2 with h2
theorem bne_f (a:ByteArray):(a != a)=false:=by
  rw [← ne_toList];simp
theorem readW2_cases (L:Bs) (k:Bool):(∃ x n t,x < 65536∧L.drop n=t∧readW L=(x,n,0)∧wordR (L,k)=(x,(t,k))∧n≤L.length)∨(∃ z,z≠0∧readW L=(0,0,z)∧wordR (L,k)=(0,(L,true))):=by
  rcases readW_cases L with ⟨a,b,t,hb,hr⟩ | ⟨hlt,hr⟩
  · subst hb
    have h1:=a.toNat_lt;have h2:=b.toNat_lt;exact Or.inl ⟨_,2,t,by omega,rfl,hr,rfl,by simp⟩
  · refine Or.inr ⟨2,by decide,hr,?_⟩
    rcases L with _ | ⟨a,_ | ⟨b,t⟩⟩
    · rfl
    · rfl
    · simp at hlt;omega
set_option maxRecDepth 100000 in
set_option maxHeartbeats 4000000 in
theorem curOne {wb:World} {X:Nat} {p:Pk} {a:Option Addr} {cc:Nat} (c:Cur):Spec Tryz.prog wb 95 #[.pointer (some ⟨X,0,none⟩)] [⟨X,curL c (pkV p a cc).toList,141⟩] [] (fun _:Unit=>.int .u8 ((oneR c).1:Int)) (fun _=>[⟨X,curL (oneR c).2 (pkV p a cc).toList,141⟩]) (fun _=>[]):=by
  obtain ⟨L,k⟩:=c;cases L with
  | nil =>
    intro w H;refine en_call Tryz.func95 H ?_;refine en (EF [(.bool (((baB []):ByteArray).toList == (⟨#[]⟩:ByteArray).toList),.bool true)] ⟨eqS (rfl),trivial⟩) (eC 4 (.b 0 0::.f 0::eC 3 [.s 0 1,.c])) ?_;exact en_rets () [0] [] []
  | cons b t =>
    intro w H;refine en_call Tryz.func95 H ?_;refine en ⟨⟨[],[(ixT (.string (bB (b::t))) (.int .i64 ((0:Nat):Int)) 5,.int .u8 (b.toNat:Int)),(tlT (.string (bB (b::t))) (.int .i64 ((1:Nat):Int)) 9,.string (bB t))]⟩,[(.bool (((baB (b::t)):ByteArray).toList == (⟨#[]⟩:ByteArray).toList),.bool false)],[],[],fun _ _ h=>⟨trivial,⟨ix_run (L:=b::t) (i:=0) rfl 5,tl_run (L:=b::t) (i:=1) (Nat.le_add_left 1 t.length) 9,trivial⟩⟩,⟨eqS' (ne0 b t),trivial⟩,trivial,trivial⟩ (eC 4 (.b 0 0::.f 0::eC 3 (.b 0 0::.r 0::eC 5 [.b 0 0,.r 1,.c,.c,.s 0 0,.c,.c]))) ?_;exact en_rets () [0] [] []
set_option maxRecDepth 100000 in
set_option maxHeartbeats 4000000 in
theorem curWord {wb:World} {X:Nat} {p:Pk} {a:Option Addr} {cc:Nat} (c:Cur) (hc:c.1.length≤300000000):Spec Tryz.prog wb 97 #[.pointer (some ⟨X,0,none⟩)] [⟨X,curL c (pkV p a cc).toList,141⟩] [] (fun _:Unit=>.int .u16 ((wordR c).1:Int)) (fun _=>[⟨X,curL (wordR c).2 (pkV p a cc).toList,141⟩]) (fun _=>[]):=by
  obtain ⟨L,k⟩:=c;simp only at hc
  have HC:=fun w1 (hE:Env w1)=>num_ReadWord (baB L) w1
  rw [bl_baB] at HC;rcases readW2_cases L k with ⟨x,n,t,h0,h1,h2,h3,h4⟩ | ⟨z,hz,h2,h3⟩
  · rw [h3]
    rw [h2] at HC;cases k
    · intro w H
      refine en_call Tryz.func97 H ?_;refine en ⟨⟨[],[(tlT (.string (bB L)) (.int .i64 (n:Int)) 9,.string (bB t))]⟩,[(.int .u16 (IntKind.u16.wrap (x:Int)),.int .u16 (x:Int))],[],[⟨117,#[.string (baB L)],.tuple #[.int .i64 (x:Int),.int .i64 (n:Int),.int .i64 0],[],[]⟩],fun _ _ h=>⟨trivial,⟨tl_run' (L:=L) (i:=n) h4 h1 9,trivial⟩⟩,⟨cW h0,trivial⟩,trivial,⟨fun _ w1 h _=>HC w1 h.hp.env,trivial⟩⟩ (eC 4 (.b 0 0::.k 0::eC 11 (.b 0 1::eC 6 (.s 0 1::eC 4 [.b 0 0,.c,.r 0,.c,.c,.s 0 0,.c,.f 0,.c])))) ?_;exact en_rets () [0] [] []
    · intro w H
      refine en_call Tryz.func97 H ?_;refine en ⟨⟨[],[(tlT (.string (bB L)) (.int .i64 (n:Int)) 9,.string (bB t))]⟩,[(.int .u16 (IntKind.u16.wrap (x:Int)),.int .u16 (x:Int))],[],[⟨117,#[.string (baB L)],.tuple #[.int .i64 (x:Int),.int .i64 (n:Int),.int .i64 0],[],[]⟩],fun _ _ h=>⟨trivial,⟨tl_run' (L:=L) (i:=n) h4 h1 9,trivial⟩⟩,⟨cW h0,trivial⟩,trivial,⟨fun _ w1 h _=>HC w1 h.hp.env,trivial⟩⟩ (eC 4 (.b 0 0::.k 0::eC 11 (.b 0 1::eC 6 (.s 0 1::eC 4 [.b 0 0,.c,.r 0,.c,.c,.s 0 0,.c,.f 0,.c])))) ?_;exact en_rets () [0] [] []
  · rw [h3]
    rw [h2] at HC;cases k
    · intro w H
      refine en_call Tryz.func97 H ?_;refine en ⟨⟨[],[(tlT (.string (bB L)) (.int .i64 ((0:Nat):Int)) 9,.string (bB L))]⟩,[(.bool ((((z:Int)):Int) != 0),.bool true),(.int .u16 (IntKind.u16.wrap 0),.int .u16 0)],[],[⟨117,#[.string (baB L)],.tuple #[.int .i64 0,.int .i64 0,.int .i64 (z:Int)],[],[]⟩],fun _ _ h=>⟨trivial,⟨tl_run (L:=L) (i:=0) (Nat.zero_le _) 9,trivial⟩⟩,⟨neI (by omega),rfl,trivial⟩,trivial,⟨fun _ w1 h _=>HC w1 h.hp.env,trivial⟩⟩ (eC 4 (.b 0 0::.k 0::eC 11 (.b 0 1::.c::.c::.f 0::eC 3 (.s 0 1::eC 4 [.b 0 0,.c,.r 0,.c,.c,.s 0 0,.c,.f 1,.c])))) ?_;exact en_rets () [0] [] []
    · intro w H
      refine en_call Tryz.func97 H ?_;refine en ⟨⟨[],[(tlT (.string (bB L)) (.int .i64 ((0:Nat):Int)) 9,.string (bB L))]⟩,[(.int .u16 (IntKind.u16.wrap 0),.int .u16 0)],[],[⟨117,#[.string (baB L)],.tuple #[.int .i64 0,.int .i64 0,.int .i64 (z:Int)],[],[]⟩],fun _ _ h=>⟨trivial,⟨tl_run (L:=L) (i:=0) (Nat.zero_le _) 9,trivial⟩⟩,⟨rfl,trivial⟩,trivial,⟨fun _ w1 h _=>HC w1 h.hp.env,trivial⟩⟩ (eC 4 (.b 0 0::.k 0::eC 11 (.b 0 1::eC 6 (.s 0 1::eC 4 [.b 0 0,.c,.r 0,.c,.c,.s 0 0,.c,.f 0,.c])))) ?_;exact en_rets () [0] [] []
set_option maxRecDepth 100000 in
set_option maxHeartbeats 4000000 in
theorem curText {wb:World} {X:Nat} {p:Pk} {a:Option Addr} {cc:Nat} (c:Cur) (hc:c.1.length≤300000000):Spec Tryz.prog wb 96 #[.pointer (some ⟨X,0,none⟩)] [⟨X,curL c (pkV p a cc).toList,141⟩] [] (fun _:Unit=>.string (textR c).1) (fun _=>[⟨X,curL (textR c).2 (pkV p a cc).toList,141⟩]) (fun _=>[]):=by
  obtain ⟨L,k⟩:=c;simp only at hc
  have HC:=fun w1 (hE:Env w1)=>text_Get (baB L) hc w1 hE
  rw [bl_baB] at HC;rcases readT_cases L k with ⟨x,n,t,h1,h2,h3,h4⟩ | ⟨z,hz,h2,h3⟩
  · rw [h3]
    rw [h2] at HC;cases k
    · intro w H
      refine en_call Tryz.func96 H ?_;refine en ⟨⟨[],[(tlT (.string (bB L)) (.int .i64 (n:Int)) 9,.string (bB t))]⟩,[],[],[⟨116,#[.string (baB L)],.tuple #[.string x,.int .i64 (n:Int),.int .i64 0],[],[]⟩],fun _ _ h=>⟨trivial,⟨tl_run' (L:=L) (i:=n) h4 h1 9,trivial⟩⟩,trivial,trivial,⟨fun _ w1 h _=>HC w1 h.hp.env,trivial⟩⟩ (eC 4 (.b 0 0::.k 0::eC 11 (.b 0 1::eC 6 (.s 0 1::eC 4 [.b 0 0,.c,.r 0,.c,.c,.s 0 0,.c,.c])))) ?_;exact en_rets () [0] [] []
    · intro w H
      refine en_call Tryz.func96 H ?_;refine en ⟨⟨[],[(tlT (.string (bB L)) (.int .i64 (n:Int)) 9,.string (bB t))]⟩,[],[],[⟨116,#[.string (baB L)],.tuple #[.string x,.int .i64 (n:Int),.int .i64 0],[],[]⟩],fun _ _ h=>⟨trivial,⟨tl_run' (L:=L) (i:=n) h4 h1 9,trivial⟩⟩,trivial,trivial,⟨fun _ w1 h _=>HC w1 h.hp.env,trivial⟩⟩ (eC 4 (.b 0 0::.k 0::eC 11 (.b 0 1::eC 6 (.s 0 1::eC 4 [.b 0 0,.c,.r 0,.c,.c,.s 0 0,.c,.c])))) ?_;exact en_rets () [0] [] []
  · rw [h3]
    rw [h2] at HC;cases k
    · intro w H
      refine en_call Tryz.func96 H ?_;refine en ⟨⟨[],[(tlT (.string (bB L)) (.int .i64 ((0:Nat):Int)) 9,.string (bB L))]⟩,[(.bool ((((z:Int)):Int) != 0),.bool true)],[],[⟨116,#[.string (baB L)],.tuple #[.string e0,.int .i64 0,.int .i64 (z:Int)],[],[]⟩],fun _ _ h=>⟨trivial,⟨tl_run (L:=L) (i:=0) (Nat.zero_le _) 9,trivial⟩⟩,⟨neI (by omega),trivial⟩,trivial,⟨fun _ w1 h _=>HC w1 h.hp.env,trivial⟩⟩ (eC 4 (.b 0 0::.k 0::eC 11 (.b 0 1::.c::.c::.f 0::eC 3 (.s 0 1::eC 4 [.b 0 0,.c,.r 0,.c,.c,.s 0 0,.c,.c])))) ?_;exact en_rets () [0] [] []
    · intro w H
      refine en_call Tryz.func96 H ?_;refine en ⟨⟨[],[(tlT (.string (bB L)) (.int .i64 ((0:Nat):Int)) 9,.string (bB L))]⟩,[],[],[⟨116,#[.string (baB L)],.tuple #[.string e0,.int .i64 0,.int .i64 (z:Int)],[],[]⟩],fun _ _ h=>⟨trivial,⟨tl_run (L:=L) (i:=0) (Nat.zero_le _) 9,trivial⟩⟩,trivial,trivial,⟨fun _ w1 h _=>HC w1 h.hp.env,trivial⟩⟩ (eC 4 (.b 0 0::.k 0::eC 11 (.b 0 1::eC 6 (.s 0 1::eC 4 [.b 0 0,.c,.r 0,.c,.c,.s 0 0,.c,.c])))) ?_;exact en_rets () [0] [] []
set_option maxRecDepth 100000 in
set_option maxHeartbeats 4000000 in
theorem curData {wb:World} {X:Nat} {p:Pk} {a:Option Addr} {cc:Nat} (c:Cur) (hc:c.1.length≤300000000):Spec Tryz.prog wb 115 #[.pointer (some ⟨X,0,none⟩)] [⟨X,curL c (pkV p a cc).toList,141⟩] [] (fun _:Unit=>.string (dataR c).1) (fun _=>[⟨X,curL (dataR c).2 (pkV p a cc).toList,141⟩]) (fun _=>[]):=by
  obtain ⟨L,k⟩:=c;simp only at hc
  have HC:=fun w1 (hE:Env w1)=>text_GetData (baB L) hc w1
  rw [bl_baB] at HC;rcases readD_cases L k with ⟨x,n,t,h1,h2,h3,h4⟩ | ⟨z,hz,h2,h3⟩
  · rw [h3]
    rw [h2] at HC;cases k
    · intro w H
      refine en_call Tryz.func115 H ?_;refine en ⟨⟨[],[(tlT (.string (bB L)) (.int .i64 (n:Int)) 9,.string (bB t))]⟩,[],[],[⟨143,#[.string (baB L)],.tuple #[.string x,.int .i64 (n:Int),.int .i64 0],[],[]⟩],fun _ _ h=>⟨trivial,⟨tl_run' (L:=L) (i:=n) h4 h1 9,trivial⟩⟩,trivial,trivial,⟨fun _ w1 h _=>HC w1 h.hp.env,trivial⟩⟩ (eC 4 (.b 0 0::.k 0::eC 11 (.b 0 1::eC 6 (.s 0 1::eC 4 [.b 0 0,.c,.r 0,.c,.c,.s 0 0,.c,.c])))) ?_;exact en_rets () [0] [] []
    · intro w H
      refine en_call Tryz.func115 H ?_;refine en ⟨⟨[],[(tlT (.string (bB L)) (.int .i64 (n:Int)) 9,.string (bB t))]⟩,[],[],[⟨143,#[.string (baB L)],.tuple #[.string x,.int .i64 (n:Int),.int .i64 0],[],[]⟩],fun _ _ h=>⟨trivial,⟨tl_run' (L:=L) (i:=n) h4 h1 9,trivial⟩⟩,trivial,trivial,⟨fun _ w1 h _=>HC w1 h.hp.env,trivial⟩⟩ (eC 4 (.b 0 0::.k 0::eC 11 (.b 0 1::eC 6 (.s 0 1::eC 4 [.b 0 0,.c,.r 0,.c,.c,.s 0 0,.c,.c])))) ?_;exact en_rets () [0] [] []
  · rw [h3]
    rw [h2] at HC;cases k
    · intro w H
      refine en_call Tryz.func115 H ?_;refine en ⟨⟨[],[(tlT (.string (bB L)) (.int .i64 ((0:Nat):Int)) 9,.string (bB L))]⟩,[(.bool ((((z:Int)):Int) != 0),.bool true)],[],[⟨143,#[.string (baB L)],.tuple #[.string e0,.int .i64 0,.int .i64 (z:Int)],[],[]⟩],fun _ _ h=>⟨trivial,⟨tl_run (L:=L) (i:=0) (Nat.zero_le _) 9,trivial⟩⟩,⟨neI (by omega),trivial⟩,trivial,⟨fun _ w1 h _=>HC w1 h.hp.env,trivial⟩⟩ (eC 4 (.b 0 0::.k 0::eC 11 (.b 0 1::.c::.c::.f 0::eC 3 (.s 0 1::eC 4 [.b 0 0,.c,.r 0,.c,.c,.s 0 0,.c,.c])))) ?_;exact en_rets () [0] [] []
    · intro w H
      refine en_call Tryz.func115 H ?_;refine en ⟨⟨[],[(tlT (.string (bB L)) (.int .i64 ((0:Nat):Int)) 9,.string (bB L))]⟩,[],[],[⟨143,#[.string (baB L)],.tuple #[.string e0,.int .i64 0,.int .i64 (z:Int)],[],[]⟩],fun _ _ h=>⟨trivial,⟨tl_run (L:=L) (i:=0) (Nat.zero_le _) 9,trivial⟩⟩,trivial,trivial,⟨fun _ w1 h _=>HC w1 h.hp.env,trivial⟩⟩ (eC 4 (.b 0 0::.k 0::eC 11 (.b 0 1::eC 6 (.s 0 1::eC 4 [.b 0 0,.c,.r 0,.c,.c,.s 0 0,.c,.c])))) ?_;exact en_rets () [0] [] []
set_option maxRecDepth 100000 in
set_option maxHeartbeats 4000000 in
theorem curEnd {wb:World} {X:Nat} {p:Pk} {a:Option Addr} {cc:Nat} (c:Cur):Spec Tryz.prog wb 98 #[.pointer (some ⟨X,0,none⟩)] [⟨X,curL c (pkV p a cc).toList,141⟩] [] (fun _:Unit=>.string (baB c.1)) (fun _=>[⟨X,curL ([],c.2) (pkV p a cc).toList,141⟩]) (fun _=>[]):=by
  intro w H;refine en_call Tryz.func98 H ?_;refine en E0 (eC 4 (.b 0 0::eC 4 [.s 0 0,.c,.c])) ?_;exact en_rets () [0] [] []
set_option maxRecDepth 100000 in
set_option maxHeartbeats 4000000 in
theorem restConnect {wb:World} {X:Nat} (c0:Cur) (hc:c0.1.length≤90000000):Spec Tryz.prog wb 94 #[.pointer (some ⟨X,0,none⟩)] [⟨X,curL c0 (pkV { Pk.zero with ty:=1 } none 0).toList,141⟩] [] (fun _:Unit=>.tuple #[]) (fun _=>[⟨X,curL (conR c0).2 (pkV (conR c0).1 none 0).toList,141⟩]) (fun _=>[]):=by
  obtain ⟨z,hz⟩:∃ z,conR c0=z:=⟨_,rfl⟩
  rw [hz];have H1:=fun p=>curText (wb:=wb) (X:=X) (p:=p) (a:=none) (cc:=0) c0 (by omega)
  have l1:=text_len c0;rcases ha:textR c0 with ⟨n1,c1⟩
  rw [ha] at H1 l1;have H2:=fun p=>curOne (wb:=wb) (X:=X) (p:=p) (a:=none) (cc:=0) c1
  have l2:=one_len c1;rcases hb:oneR c1 with ⟨lv,c2⟩
  rw [hb] at H2 l2;have H3:=fun p=>curOne (wb:=wb) (X:=X) (p:=p) (a:=none) (cc:=0) c2
  have l3:=one_len c2;have hf:=one_lt c2;rcases hd:oneR c2 with ⟨f,L3,b3⟩
  rw [hd] at H3 l3 hf;simp only at H3
  obtain ⟨bad,hbad⟩:∃ b,(b3 || (n1 != mqtt) || decide (f % 2=1))=b:=⟨_,rfl⟩
  simp only at hf l1 l2 l3
  have H4:=fun p=>curWord (wb:=wb) (X:=X) (p:=p) (a:=none) (cc:=0) (L3,bad) (by show L3.length≤_;omega)
  have l4:=word_len (L3,bad);rcases hk:wordR (L3,bad) with ⟨kp,c4⟩
  rw [hk] at H4 l4;simp only at l4
  have H5:=fun p=>curText (wb:=wb) (X:=X) (p:=p) (a:=none) (cc:=0) c4 (by omega)
  have l5:=text_len c4;rcases hn:textR c4 with ⟨cl,c5⟩
  rw [hn] at H5 l5;simp only at l5
  obtain ⟨hw,hhw⟩:∃ b,decide (f / 4 % 2=1)=b:=⟨_,rfl⟩
  obtain ⟨hu,hhu⟩:∃ b,decide (f / 128 % 2=1)=b:=⟨_,rfl⟩
  obtain ⟨hs,hhs⟩:∃ b,decide (f / 64 % 2=1)=b:=⟨_,rfl⟩
  rcases hwt:(if hw=true then textR c5 else (e0,c5)) with ⟨wt,c6⟩
  rcases hwp:(if hw=true then dataR c6 else (e0,c6)) with ⟨wp,c7⟩
  rcases hus:(if hu=true then textR c7 else (e0,c7)) with ⟨us,c8⟩
  rcases hps:(if hs=true then dataR c8 else (e0,c8)) with ⟨ps,c9⟩
  have e1:z=({ Pk.zero with ty:=1,level:=lv,clean:=decide (f / 2 % 2=1),hasWill:=hw,wqos:=f / 8 % 4,wret:=decide (f / 32 % 2=1),hasPass:=hs,hasUser:=hu,keep:=kp,client:=cl,wtopic:=wt,wpayload:=wp,user:=us,pass:=ps },c9):=by
    rw [← hz];subst hhw hhu hhs;simp only [decide_eq_true_eq] at hwt hwp hus hps;unfold conR;simp only [ha,hb,hd,hbad,hk,hn,hwt,hwp,hus,hps]
  subst e1;have l6:c6.1.length≤90000000:=by
    cases hw
    · injection hwt with _ e;rw [← e];omega
    · have h:=text_len c5;rw [show textR c5=(wt,c6) from hwt] at h;simp only at h;omega
  have l7:c7.1.length≤90000000:=by
    cases hw
    · injection hwp with _ e;rw [← e];omega
    · have h:=data_len c6;rw [show dataR c6=(wp,c7) from hwp] at h;simp only at h;omega
  have l8:c8.1.length≤90000000:=by
    cases hu
    · injection hus with _ e;rw [← e];omega
    · have h:=text_len c7;rw [show textR c7=(us,c8) from hus] at h;simp only at h;omega
  clear hz ha hb hd hk hn;intro w H;refine en_call Tryz.func94 H ?_;refine en E0 (eC 3 []) ?_;refine en_spec0 (H1 { Pk.zero with ty:=1 }) [0] [] [] ?_;refine en E0 (eC 5 []) ?_;refine en_spec0 (H2 { Pk.zero with ty:=1 }) [0] [] [] ?_;refine en E0 (eC 3 (.s 0 9::eC 3 [])) ?_;refine en_spec0 (H3 { Pk.zero with ty:=1,level:=lv }) [0] [] [] ?_;refine en E0 [.c] ?_;refine en_meetP (codeOf Tryz.f94) [1,1,1,0] [] (α:=Unit) 0 (fun _=>[(0,.pointer (some ⟨X,0,none⟩)),(3,.int .u8 (f:Int))]) (fun _=>[⟨X,[.string (baB L3),.bool bad,.int .u8 (1:Int),.bool false,.int .u8 (0:Int),.bool false,.int .u16 (0:Int),.string e0,.string e0,.int .u8 (lv:Int),.bool false,.int .u16 (0:Int),.string e0,.bool false,.string e0,.string e0,.int .u8 (0:Int),.bool false,.bool false,.bool false,.string e0,.string e0,.bool false,.int .u8 (0:Int),.slice none 0 0,.string e0],141⟩]) (fun _=>many []) ?_ ?_
  · intro JB HJB
    cases b3
    · by_cases hm:n1≠mqtt
      · have e:bad=true:=by rw [← hbad,bne_t hm];rfl
        subst e;refine en (EF [(.bool (!((n1:ByteArray).toList == (mqtt:ByteArray).toList)),.bool true)] ⟨neS (hm),trivial⟩) (eC 5 (.b 0 1::eC 3 (.f 0::eC 9 [.s 0 1]))) ?_;exact en_stopI (fun a w F HK=>HJB () a w F HK)
      have hm2:n1=mqtt:=Decidable.byContradiction hm;have hb1:=bit_pos 1 f (by decide);rw [Nat.div_one] at hb1;by_cases h1:f % 2=1
      · have e:bad=true:=by rw [← hbad,hm2,bne_f];simp [h1]
        have h2:0 < bitM 1 f:=by rw [hb1];exact h1
        subst e;refine en (EF [(.bool (!((n1:ByteArray).toList == (mqtt:ByteArray).toList)),.bool false),(.int .u8 (bits BinOp.and IntKind.u8 (f:Int) 1),.int .u8 ((bitM 1 f:Nat):Int)),(.bool (decide (((((bitM 1 f:Nat):Int)):Int) > 0)),.bool true)] ⟨neS' (hm2),bit_m hf (m:=1) (by simp),dcT (by omega),trivial⟩) (eC 5 (.b 0 1::eC 3 (.f 0::eC 3 (.f 1::.f 2::eC 4 [.s 0 1])))) ?_;exact en_stopI (fun a w F HK=>HJB () a w F HK)
      · have e:bad=false:=by rw [← hbad,hm2,bne_f];simp [h1]
        have h2:¬ 0 < bitM 1 f:=by rw [hb1];exact h1
        subst e;refine en (EF [(.bool (!((n1:ByteArray).toList == (mqtt:ByteArray).toList)),.bool false),(.int .u8 (bits BinOp.and IntKind.u8 (f:Int) 1),.int .u8 ((bitM 1 f:Nat):Int)),(.bool (decide (((((bitM 1 f:Nat):Int)):Int) > 0)),.bool false)] ⟨neS' (hm2),bit_m hf (m:=1) (by simp),dcF (by omega),trivial⟩) (eC 5 (.b 0 1::eC 3 (.f 0::eC 3 (.f 1::.f 2::eC 4 [.s 0 1])))) ?_;exact en_stopI (fun a w F HK=>HJB () a w F HK)
    · have e:bad=true:=hbad.symm
      subst e;refine en E0 (eC 5 (.b 0 1::eC 13 [.s 0 1])) ?_;exact en_stopI (fun a w F HK=>HJB () a w F HK)
  intro _;refine en (EF [(.int .u8 (bits BinOp.and IntKind.u8 (f:Int) 2),.int .u8 ((bitM 2 f:Nat):Int)),(.bool (decide (((bitM 2 f:Nat):Int) > 0)),.bool (decide (f / 2 % 2=1))),(.int .u8 (bits BinOp.and IntKind.u8 (f:Int) 4),.int .u8 ((bitM 4 f:Nat):Int)),(.bool (decide (((bitM 4 f:Nat):Int) > 0)),.bool hw),(.int .u8 (Int.fdiv (f:Int) (2 ^ 3)),.int .u8 ((f / 2 ^ 3:Nat):Int)),(.int .u8 (bits BinOp.and IntKind.u8 ((f / 2 ^ 3:Nat):Int) 3),.int .u8 ((f / 8 % 4:Nat):Int)),(.int .u8 (bits BinOp.and IntKind.u8 (f:Int) 32),.int .u8 ((bitM 32 f:Nat):Int)),(.bool (decide (((bitM 32 f:Nat):Int) > 0)),.bool (decide (f / 32 % 2=1))),(.int .u8 (bits BinOp.and IntKind.u8 (f:Int) 64),.int .u8 ((bitM 64 f:Nat):Int)),(.bool (decide (((bitM 64 f:Nat):Int) > 0)),.bool hs),(.int .u8 (bits BinOp.and IntKind.u8 (f:Int) 128),.int .u8 ((bitM 128 f:Nat):Int)),(.bool (decide (((bitM 128 f:Nat):Int) > 0)),.bool hu)] ⟨bit_m hf (m:=2) (by simp),bit_gt (by decide) rfl,bit_m hf (m:=4) (by simp),bit_gt (by decide) hhw,shr_k f 3,and3S hf,bit_m hf (m:=32) (by simp),bit_gt (by decide) rfl,bit_m hf (m:=64) (by simp),bit_gt (by decide) hhs,bit_m hf (m:=128) (by simp),bit_gt (by decide) hhu,trivial⟩) (.c::.c::.f 0::.f 1::eC 3 (.s 0 10::.c::.c::.f 2::.f 3::eC 3 (.s 0 13::.c::.c::.f 4::.f 5::eC 4 (.s 0 16::.c::.c::.f 6::.f 7::eC 4 (.s 0 17::.c::.c::.f 8::.f 9::eC 3 (.s 0 19::.c::.c::.f 10::.f 11::eC 3 (.s 0 18::eC 4 []))))))) ?_;refine en_spec0 (H4 { Pk.zero with ty:=1,level:=lv,clean:=(decide (f / 2 % 2=1)),hasWill:=hw,wqos:=(f / 8 % 4:Nat),wret:=(decide (f / 32 % 2=1)),hasUser:=hu,hasPass:=hs }) [0] [] [] ?_;refine en E0 (eC 3 (.s 0 11::eC 4 [])) ?_;refine en_spec0 (H5 { Pk.zero with ty:=1,level:=lv,clean:=(decide (f / 2 % 2=1)),keep:=kp,hasWill:=hw,wqos:=(f / 8 % 4:Nat),wret:=(decide (f / 32 % 2=1)),hasUser:=hu,hasPass:=hs }) [0] [] [] ?_;refine en E0 (eC 3 [.s 0 12]) ?_;refine en_meetP (codeOf Tryz.f94) [1,1,1,1,1,1,1,1,1,1,1,1,0] [] (α:=Unit) 1 (fun _=>[(0,.pointer (some ⟨X,0,none⟩))]) (fun _=>[⟨X,[.string (baB c7.1),.bool c7.2,.int .u8 (1:Int),.bool false,.int .u8 (0:Int),.bool false,.int .u16 (0:Int),.string e0,.string e0,.int .u8 (lv:Int),.bool (decide (f / 2 % 2=1)),.int .u16 (kp:Int),.string cl,.bool hw,.string wt,.string wp,.int .u8 ((f / 8 % 4:Nat):Int),.bool (decide (f / 32 % 2=1)),.bool hu,.bool hs,.string e0,.string e0,.bool false,.int .u8 (0:Int),.slice none 0 0,.string e0],141⟩]) (fun _=>many []) ?_ ?_
  · intro JW HJW
    cases hw
    · injection hwt with e0W f0W
      subst e0W f0W;injection hwp with e1W f1W
      subst e1W f1W;refine en E0 (eC 4 [.b 0 13]) ?_;exact en_stopI (fun a w F HK=>HJW () a w F HK)
    · have HA:=fun p=>curText (wb:=wb) (X:=X) (p:=p) (a:=none) (cc:=0) c5 (by omega)
      rw [show textR c5=(wt,c6) from hwt] at HA;have HB:=fun p=>curData (wb:=wb) (X:=X) (p:=p) (a:=none) (cc:=0) c6 (by omega)
      rw [show dataR c6=(wp,c7) from hwp] at HB;refine en E0 (eC 4 (.b 0 13::eC 4 [])) ?_;refine en_spec0 (HA { Pk.zero with ty:=1,level:=lv,clean:=(decide (f / 2 % 2=1)),keep:=kp,client:=cl,hasWill:=true,wqos:=(f / 8 % 4:Nat),wret:=(decide (f / 32 % 2=1)),hasUser:=hu,hasPass:=hs }) [0] [] [] ?_;refine en E0 (eC 4 (.s 0 14::eC 4 [])) ?_;refine en_spec0 (HB { Pk.zero with ty:=1,level:=lv,clean:=(decide (f / 2 % 2=1)),keep:=kp,client:=cl,hasWill:=true,wtopic:=wt,wqos:=(f / 8 % 4:Nat),wret:=(decide (f / 32 % 2=1)),hasUser:=hu,hasPass:=hs }) [0] [] [] ?_;refine en E0 (eC 4 [.s 0 15]) ?_;exact en_stopI (fun a w F HK=>HJW () a w F HK)
  intro _;refine en_meetP (codeOf Tryz.f94) [1,1,1,1,1,1,1,1,1,1,1,1,1,0] [] (α:=Unit) 1 (fun _=>[(0,.pointer (some ⟨X,0,none⟩))]) (fun _=>[⟨X,[.string (baB c8.1),.bool c8.2,.int .u8 (1:Int),.bool false,.int .u8 (0:Int),.bool false,.int .u16 (0:Int),.string e0,.string e0,.int .u8 (lv:Int),.bool (decide (f / 2 % 2=1)),.int .u16 (kp:Int),.string cl,.bool hw,.string wt,.string wp,.int .u8 ((f / 8 % 4:Nat):Int),.bool (decide (f / 32 % 2=1)),.bool hu,.bool hs,.string us,.string e0,.bool false,.int .u8 (0:Int),.slice none 0 0,.string e0],141⟩]) (fun _=>many []) ?_ ?_
  · intro JU HJU
    cases hu
    · injection hus with e0U f0U
      subst e0U f0U;refine en E0 (eC 4 [.b 0 18]) ?_;exact en_stopI (fun a w F HK=>HJU () a w F HK)
    · have HA:=fun p=>curText (wb:=wb) (X:=X) (p:=p) (a:=none) (cc:=0) c7 (by omega)
      rw [show textR c7=(us,c8) from hus] at HA;refine en E0 (eC 4 (.b 0 18::eC 4 [])) ?_;refine en_spec0 (HA { Pk.zero with ty:=1,level:=lv,clean:=(decide (f / 2 % 2=1)),keep:=kp,client:=cl,hasWill:=hw,wtopic:=wt,wpayload:=wp,wqos:=(f / 8 % 4:Nat),wret:=(decide (f / 32 % 2=1)),hasUser:=true,hasPass:=hs }) [0] [] [] ?_;refine en E0 (eC 3 [.s 0 20]) ?_;exact en_stopI (fun a w F HK=>HJU () a w F HK)
  intro _;cases hs
  · injection hps with e9 f9
    subst e9 f9;refine en E0 (eC 4 [.b 0 19]) ?_;exact en_rets () [0] [] []
  · have HA:=fun p=>curData (wb:=wb) (X:=X) (p:=p) (a:=none) (cc:=0) c8 (by omega)
    rw [show dataR c8=(ps,c9) from hps] at HA;refine en E0 (eC 4 (.b 0 19::eC 4 [])) ?_;refine en_spec0 (HA { Pk.zero with ty:=1,level:=lv,clean:=(decide (f / 2 % 2=1)),keep:=kp,client:=cl,hasWill:=hw,wtopic:=wt,wpayload:=wp,wqos:=(f / 8 % 4:Nat),wret:=(decide (f / 32 % 2=1)),hasUser:=hu,hasPass:=true,user:=us }) [0] [] [] ?_;refine en E0 (eC 3 [.s 0 21]) ?_;exact en_rets () [0] [] []
end Go.Proofs.YtehpihmgjbmoaaaGreatDoor
