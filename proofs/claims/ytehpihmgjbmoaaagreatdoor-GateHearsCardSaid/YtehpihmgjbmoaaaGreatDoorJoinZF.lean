import Derived.Test.YtehpihmgjbmoaaaGreatDoorJoinSR
import Derived.Test.YtehpihmgjbmoaaaGreatDoorGtFr
import Derived.Test.YtehpihmgjbmoaaaGreatDoorJoinRN
import Derived.Test.YtehpihmgjbmoaaaGreatDoorPlainGuess
namespace Go.Proofs.YtehpihmgjbmoaaaGreatDoor
open Go.RowKit
attribute [local irreducible] Ok
set_option maxRecDepth 100000 in
set_option maxHeartbeats 4000000 in
theorem r1_ReadWordN {wb:World} {L:Bs} (h:L.length < 2):Spec Tryz.prog wb 149 #[.string (bB L)] [] [] (fun _:Unit=>.tuple #[.int .i64 0,.int .i64 0,.int .i64 2]) (fun _=>[]) (fun _=>[]):=by
  have hsz:(bB L).size=L.length:=rfl;intro w H;refine en_call Tryz.func149 H ?_;refine en (EF [(.bool (decide ((((((bB L)).size:Int)):Int) < 2)),.bool true)] ⟨dcT (by omega),trivial⟩) (eC 5 (.f 0::eC 3 [])) ?_;exact en_rets () [] [] []
set_option maxRecDepth 100000 in
set_option maxHeartbeats 4000000 in
theorem r1_ReadWordS {wb:World} {a b:UInt8} {t:Bs}:Spec Tryz.prog wb 149 #[.string (bB (a::b::t))] [] [] (fun _:Unit=>.tuple #[.int .i64 ((a.toNat * 256+b.toNat:Nat):Int),.int .i64 2,.int .i64 0]) (fun _=>[]) (fun _=>[]):=by
  have ha:=a.toNat_lt;have hb:=b.toNat_lt;have hsz:(bB (a::b::t)).size=(t.length+1+1:Nat):=rfl;intro w H;refine en_call Tryz.func149 H ?_;refine en (EF [(.bool (decide ((((((bB (a::b::t))).size:Int)):Int) < 2)),.bool false)] ⟨dcF (by omega),trivial⟩) (eC 5 [.f 0]) ?_;refine en ⟨⟨[],[(ixT (.string (bB (a::b::t))) (.int .i64 ((0:Nat):Int)) 5,.int .u8 (a.toNat:Int)),(ixT (.string (bB (a::b::t))) (.int .i64 ((1:Nat):Int)) 5,.int .u8 (b.toNat:Int))]⟩,[(.int .i64 (IntKind.i64.wrap ((a.toNat:Int))),.int .i64 (a.toNat:Int)),(.int .i64 (IntKind.i64.wrap (256 * (a.toNat:Int))),.int .i64 ((256 * a.toNat:Nat):Int)),(.int .i64 (IntKind.i64.wrap ((b.toNat:Int))),.int .i64 (b.toNat:Int)),(.int .i64 (IntKind.i64.wrap (((256 * a.toNat:Nat):Int)+(b.toNat:Int))),.int .i64 ((a.toNat * 256+b.toNat:Nat):Int))],[],[],fun _ _ h=>⟨trivial,⟨ix_run (L:=a::b::t) (i:=0) rfl 5,ix_run (L:=a::b::t) (i:=1) rfl 5,trivial⟩⟩,⟨cI (by omega),wrN (by omega) (by omega),cI (by omega),wrN (by omega) (by omega),trivial⟩,trivial,trivial⟩ [.g [] 1000 true,.d (eN 0 (.c::.r 0::.f 0::.f 1::.c::.r 1::.f 2::.f 3::eC 3 []))] ?_;exact en_rets () [] [] []
set_option maxRecDepth 100000 in
set_option maxHeartbeats 4000000 in
theorem r2_GetDataN {wb:World} {L:Bs} (h:L.length < 2):Spec Tryz.prog wb 148 #[.string (bB L)] [] [] (fun _:Unit=>.tuple #[.string ⟨#[]⟩,.int .i64 0,.int .i64 2]) (fun _=>[]) (fun _=>[]):=by
  intro w H;refine en_call Tryz.func148 H ?_;refine en E0 (eC 4 []) ?_;refine en_spec0 (r1_ReadWordN h) [] [] [] ?_;refine en E0 (eC 19 []) ?_;exact en_rets () [] [] []
set_option maxRecDepth 100000 in
set_option maxHeartbeats 4000000 in
theorem r2_GetDataS {wb:World} {a b:UInt8} {t:Bs} (hL:t.length≤90000000):Spec Tryz.prog wb 148 #[.string (bB (a::b::t))] [] [] (fun _:Unit=>(if a.toNat * 256+b.toNat≤t.length then .tuple #[.string (baB (t.take (a.toNat * 256+b.toNat))),.int .i64 ((2+(a.toNat * 256+b.toNat):Nat):Int),.int .i64 0] else .tuple #[.string ⟨#[]⟩,.int .i64 0,.int .i64 2])) (fun _=>[]) (fun _=>[]):=by
  have ha:=a.toNat_lt;have hb:=b.toNat_lt;obtain ⟨n,hn⟩:∃ n,a.toNat * 256+b.toNat=n:=⟨_,rfl⟩
  have HW:=r1_ReadWordS (wb:=wb) (a:=a) (b:=b) (t:=t);rw [hn] at HW;rw [hn];have hsz:(bB (a::b::t)).size=(t.length+1+1:Nat):=rfl;by_cases hc:n≤t.length
  · rw [if_pos hc]
    intro w H;refine en_call Tryz.func148 H ?_;refine en E0 (eC 4 []) ?_;refine en_spec0 (HW) [] [] [] ?_;refine en ⟨⟨[],[(mdT (.string (bB (a::b::t))) (.int .i64 ((2:Nat):Int)) (.int .i64 ((2+n:Nat):Int)) 9,.string (baB (t.take n)))]⟩,[(.int .i64 (IntKind.i64.wrap (2+(n:Int))),.int .i64 ((2+n:Nat):Int)),(.bool (decide ((((((bB (a::b::t))).size:Int)):Int) < ((2+n:Nat):Int))),.bool false),(.int .i64 (IntKind.i64.wrap (2+(n:Int))),.int .i64 ((2+n:Nat):Int)),(.int .i64 (IntKind.i64.wrap (2+(n:Int))),.int .i64 ((2+n:Nat):Int))],[],[],fun _ _ h=>⟨trivial,⟨md_run' (L:=a::b::t) (i:=2) (j:=2+n) (M:=t.take n) (by omega) (by show 2+n≤t.length+1+1;omega) (by show t.length+1+1≤_;omega) (by rw [show 2+n - 2=n by omega];rfl) 9,trivial⟩⟩,⟨wrN (by omega) (by omega),dcF (by omega),wrN (by omega) (by omega),wrN (by omega) (by omega),trivial⟩,trivial,trivial⟩ (eC 13 (.f 0::.f 1::eC 3 (.f 2::.r 0::.c::.f 3::eC 3 []))) ?_;exact en_rets () [] [] []
  · rw [if_neg hc]
    intro w H;refine en_call Tryz.func148 H ?_;refine en E0 (eC 4 []) ?_;refine en_spec0 (HW) [] [] [] ?_;refine en (EF [(.int .i64 (IntKind.i64.wrap (2+(n:Int))),.int .i64 ((2+n:Nat):Int)),(.bool (decide ((((((bB (a::b::t))).size:Int)):Int) < ((2+n:Nat):Int))),.bool true)] ⟨wrN (by omega) (by omega),dcT (by omega),trivial⟩) (eC 13 (.f 0::.f 1::eC 4 [])) ?_;exact en_rets () [] [] []
set_option maxRecDepth 100000 in
set_option maxHeartbeats 4000000 in
theorem byte1N {wb:World} {x:Nat}:Spec Tryz.prog wb 126 #[.pointer (some ⟨x,0,none⟩)] [⟨x,[.string (bB [])],173⟩] [] (fun _:Unit=>.int .i64 0) (fun _=>[⟨x,[.string (bB [])],173⟩]) (fun _=>[]):=by
  intro w H;refine en_call Tryz.func126 H ?_;refine en (EF [(.bool (((bB []):ByteArray).toList == (⟨#[]⟩:ByteArray).toList),.bool true)] ⟨eqS (rfl),trivial⟩) (eC 4 [.b 0 0,.f 0,.c]) ?_;exact en_rets () [0] [] []
set_option maxRecDepth 100000 in
set_option maxHeartbeats 4000000 in
theorem byte1S {wb:World} {x:Nat} {b:UInt8} {t:Bs}:Spec Tryz.prog wb 126 #[.pointer (some ⟨x,0,none⟩)] [⟨x,[.string (bB (b::t))],173⟩] [] (fun _:Unit=>.int .i64 (b.toNat:Int)) (fun _=>[⟨x,[.string (bB t)],173⟩]) (fun _=>[]):=by
  have hb:=b.toNat_lt;have hne:bB (b::t)≠⟨#[]⟩:=fun e=>by have h:=congrArg ByteArray.size e;cases h
  intro w H;refine en_call Tryz.func126 H ?_;refine en ⟨⟨[],[(ixT (.string (bB (b::t))) (.int .i64 ((0:Nat):Int)) 5,.int .u8 (b.toNat:Int)),(tlT (.string (bB (b::t))) (.int .i64 ((1:Nat):Int)) 9,.string (bB t))]⟩,[(.bool (((bB (b::t)):ByteArray).toList == (⟨#[]⟩:ByteArray).toList),.bool false),(.int .i64 (IntKind.i64.wrap ((b.toNat:Int))),.int .i64 (b.toNat:Int))],[],[],fun _ _ h=>⟨trivial,⟨ix_run (L:=b::t) (i:=0) rfl 5,tl_run (L:=b::t) (i:=1) (Nat.le_add_left 1 t.length) 9,trivial⟩⟩,⟨eqS' (hne),cI (by omega),trivial⟩,trivial,trivial⟩ (eC 4 (.b 0 0::.f 0::eC 3 (.b 0 0::.r 0::eC 5 [.b 0 0,.r 1,.c,.c,.s 0 0,.c,.f 1,.c]))) ?_;exact en_rets () [0] [] []
theorem r5_byte1 {wb:World} {x:Nat} (c:Cur):Spec Tryz.prog wb 126 #[.pointer (some ⟨x,0,none⟩)] [⟨x,[.string (bB c.1)],173⟩] [] (fun _:Unit=>.int .i64 ((oneR c).1:Int)) (fun _=>[⟨x,[.string (bB (oneR c).2.1)],173⟩]) (fun _=>[]):=by
  obtain ⟨L,k⟩:=c;cases L with
  | nil=>exact byte1N
  | cons b t=>exact byte1S
set_option maxRecDepth 100000 in
set_option maxHeartbeats 4000000 in
theorem wordNs {wb:World} {x:Nat} {L:Bs} (h:L.length < 2):Spec Tryz.prog wb 127 #[.pointer (some ⟨x,0,none⟩)] [⟨x,[.string (bB L)],173⟩] [] (fun _:Unit=>.int .i64 0) (fun _=>[⟨x,[.string (bB L)],173⟩]) (fun _=>[]):=by
  intro w H;refine en_call Tryz.func127 H ?_;refine en E0 (eC 4 [.b 0 0]) ?_;refine en_spec0 (r1_ReadWordN h) [] [] [] ?_;refine en ⟨⟨[],[(tlT (.string (bB L)) (.int .i64 ((0:Nat):Int)) 9,.string (bB L))]⟩,[],[],[],fun _ _ h=>⟨trivial,⟨tl_run (L:=L) (i:=0) (Nat.zero_le _) 9,trivial⟩⟩,trivial,trivial,trivial⟩ (eC 11 [.b 0 0,.c,.r 0,.c,.c,.s 0 0,.c,.c]) ?_;exact en_rets () [0] [] []
set_option maxRecDepth 100000 in
set_option maxHeartbeats 4000000 in
theorem wordS {wb:World} {x:Nat} {a b:UInt8} {t:Bs}:Spec Tryz.prog wb 127 #[.pointer (some ⟨x,0,none⟩)] [⟨x,[.string (bB (a::b::t))],173⟩] [] (fun _:Unit=>.int .i64 ((a.toNat * 256+b.toNat:Nat):Int)) (fun _=>[⟨x,[.string (bB t)],173⟩]) (fun _=>[]):=by
  intro w H;refine en_call Tryz.func127 H ?_;refine en E0 (eC 4 [.b 0 0]) ?_;refine en_spec0 (r1_ReadWordS (a:=a) (b:=b) (t:=t)) [] [] [] ?_;refine en ⟨⟨[],[(tlT (.string (bB (a::b::t))) (.int .i64 ((2:Nat):Int)) 9,.string (bB t))]⟩,[],[],[],fun _ _ h=>⟨trivial,⟨tl_run (L:=a::b::t) (i:=2) (Nat.le_add_left 2 t.length) 9,trivial⟩⟩,trivial,trivial,trivial⟩ (eC 11 [.b 0 0,.c,.r 0,.c,.c,.s 0 0,.c,.c]) ?_;exact en_rets () [0] [] []
theorem r5_word {wb:World} {x:Nat} (c:Cur):Spec Tryz.prog wb 127 #[.pointer (some ⟨x,0,none⟩)] [⟨x,[.string (bB c.1)],173⟩] [] (fun _:Unit=>.int .i64 ((wordR c).1:Int)) (fun _=>[⟨x,[.string (bB (wordR c).2.1)],173⟩]) (fun _=>[]):=by
  obtain ⟨L,k⟩:=c;match L with
  | []=>exact wordNs (show 0 < 2 by decide)
  | [a]=>exact wordNs (L:=[a]) (show 1 < 2 by decide)
  | a::b::t=>exact wordS
set_option maxRecDepth 100000 in
set_option maxHeartbeats 4000000 in
theorem dataNs {wb:World} {x:Nat} {L:Bs} (h:L.length < 2):Spec Tryz.prog wb 125 #[.pointer (some ⟨x,0,none⟩)] [⟨x,[.string (bB L)],173⟩] [] (fun _:Unit=>.string ⟨#[]⟩) (fun _=>[⟨x,[.string (bB L)],173⟩]) (fun _=>[]):=by
  intro w H;refine en_call Tryz.func125 H ?_;refine en E0 (eC 4 [.b 0 0]) ?_;refine en_spec0 (r2_GetDataN h) [] [] [] ?_;refine en ⟨⟨[],[(tlT (.string (bB L)) (.int .i64 ((0:Nat):Int)) 9,.string (bB L))]⟩,[],[],[],fun _ _ h=>⟨trivial,⟨tl_run (L:=L) (i:=0) (Nat.zero_le _) 9,trivial⟩⟩,trivial,trivial,trivial⟩ (eC 11 [.b 0 0,.c,.r 0,.c,.c,.s 0 0,.c,.c]) ?_;exact en_rets () [0] [] []
set_option maxRecDepth 100000 in
set_option maxHeartbeats 4000000 in
theorem dataF {wb:World} {x:Nat} {a b:UInt8} {t:Bs} (hL:t.length≤90000000) (hc:¬ a.toNat * 256+b.toNat≤t.length):Spec Tryz.prog wb 125 #[.pointer (some ⟨x,0,none⟩)] [⟨x,[.string (bB (a::b::t))],173⟩] [] (fun _:Unit=>.string ⟨#[]⟩) (fun _=>[⟨x,[.string (bB (a::b::t))],173⟩]) (fun _=>[]):=by
  have HD:=r2_GetDataS (wb:=wb) (a:=a) (b:=b) (t:=t) hL;rw [if_neg hc] at HD;intro w H;refine en_call Tryz.func125 H ?_;refine en E0 (eC 4 [.b 0 0]) ?_;refine en_spec0 (HD) [] [] [] ?_;refine en ⟨⟨[],[(tlT (.string (bB (a::b::t))) (.int .i64 ((0:Nat):Int)) 9,.string (bB (a::b::t)))]⟩,[],[],[],fun _ _ h=>⟨trivial,⟨tl_run (L:=a::b::t) (i:=0) (Nat.zero_le _) 9,trivial⟩⟩,trivial,trivial,trivial⟩ (eC 11 [.b 0 0,.c,.r 0,.c,.c,.s 0 0,.c,.c]) ?_;exact en_rets () [0] [] []
set_option maxRecDepth 100000 in
set_option maxHeartbeats 4000000 in
theorem dataT {wb:World} {x:Nat} {a b:UInt8} {t:Bs} (hL:t.length≤90000000) (hc:a.toNat * 256+b.toNat≤t.length):Spec Tryz.prog wb 125 #[.pointer (some ⟨x,0,none⟩)] [⟨x,[.string (bB (a::b::t))],173⟩] [] (fun _:Unit=>.string (baB (t.take (a.toNat * 256+b.toNat)))) (fun _=>[⟨x,[.string (bB (t.drop (a.toNat * 256+b.toNat)))],173⟩]) (fun _=>[]):=by
  have HD:=r2_GetDataS (wb:=wb) (a:=a) (b:=b) (t:=t) hL;rw [if_pos hc] at HD;obtain ⟨n,hn⟩:∃ n,a.toNat * 256+b.toNat=n:=⟨_,rfl⟩
  rw [hn] at HD hc;rw [hn];intro w H;refine en_call Tryz.func125 H ?_;refine en E0 (eC 4 [.b 0 0]) ?_;refine en_spec0 (HD) [] [] [] ?_;refine en ⟨⟨[],[(tlT (.string (bB (a::b::t))) (.int .i64 ((2+n:Nat):Int)) 9,.string (bB (t.drop n)))]⟩,[],[],[],fun _ _ h=>⟨trivial,⟨tl_run' (L:=a::b::t) (i:=2+n) (M:=t.drop n) (by show 2+n≤t.length+1+1;omega) (by rw [Nat.add_comm];rfl) 9,trivial⟩⟩,trivial,trivial,trivial⟩ (eC 11 [.b 0 0,.c,.r 0,.c,.c,.s 0 0,.c,.c]) ?_;exact en_rets () [0] [] []
theorem r5_data {wb:World} {x:Nat} (c:Cur) (hL:c.1.length≤90000000):Spec Tryz.prog wb 125 #[.pointer (some ⟨x,0,none⟩)] [⟨x,[.string (bB c.1)],173⟩] [] (fun _:Unit=>.string (dataR c).1) (fun _=>[⟨x,[.string (bB (dataR c).2.1)],173⟩]) (fun _=>[]):=by
  obtain ⟨L,k⟩:=c;match L with
  | []=>exact dataNs (show 0 < 2 by decide)
  | [a]=>exact dataNs (L:=[a]) (show 1 < 2 by decide)
  | a::b::t =>
    have hL:t.length≤90000000:=by simp only [List.length_cons] at hL;omega
    by_cases hc:a.toNat * 256+b.toNat≤t.length
    · have e:dataR (a::b::t,k)=(baB (t.take (a.toNat * 256+b.toNat)),(t.drop (a.toNat * 256+b.toNat),k)):=if_pos hc
      rw [e];exact dataT hL hc
    · have e:dataR (a::b::t,k)=(e0,(a::b::t,true)):=if_neg hc
      rw [e];exact dataF hL hc
end Go.Proofs.YtehpihmgjbmoaaaGreatDoor
namespace Go.Proofs.YtehpihmgjbmoaaaGreatDoor
open Go.RowKit
attribute [local irreducible] Ok
def lead:Bs→Nat
  | []=>0
  | c::t=>if c.toNat < 128 then 0 else lead t+1
theorem lead_len:∀ L:Bs,lead L≤L.length
  | []=>Nat.le_refl _
  | c::t=>by
    unfold lead;split
    · exact Nat.zero_le _
    · have:=lead_len t
      simp only [List.length_cons];omega
theorem lead_at:∀ (L:Bs) (j:Nat) (c:UInt8),j≤lead L→L[j]? = some c→(c.toNat < 128→lead L=j)∧(¬ c.toNat < 128→j+1≤lead L)
  | [],j,c,_,h=>by simp at h
  | d::t,0,c,_,h=>by
    simp only [List.getElem?_cons_zero,Option.some.injEq] at h;subst h;unfold lead;exact ⟨fun h=>if_pos h,fun h=>by rw [if_neg h];omega⟩
  | d::t,j+1,c,hj,h=>by
    unfold lead at hj ⊢;split at hj
    · omega
    · rename_i hd
      rw [if_neg hd];obtain ⟨h1,h2⟩:=lead_at t j c (by omega) (by simpa using h);exact ⟨fun h=>by rw [h1 h],fun h=>by have:=h2 h;omega⟩
def sumD (L:Bs):Nat→Nat
  | 0=>0
  | k+1=>sumD L k+(L.getD k 0).toNat % 128 * 128 ^ k
theorem sumD_lt (L:Bs):∀ k,sumD L k < 128 ^ k
  | 0=>Nat.zero_lt_one
  | k+1=>by
    have h:=sumD_lt L k;have h2:(L.getD k 0).toNat % 128 * 128 ^ k≤127 * 128 ^ k:=Nat.mul_le_mul_right _ (by omega);unfold sumD;rw [Nat.pow_succ];omega
theorem sumD_cons (c:UInt8) (t:Bs):∀ k,sumD (c::t) (k+1)=c.toNat % 128+128 * sumD t k
  | 0=>by simp [sumD]
  | k+1=>by
    rw [sumD,sumD_cons c t k,sumD];have e:(c::t).getD (k+1) 0=t.getD k 0:=rfl;rw [e,Nat.pow_succ,Nat.mul_add,Nat.add_assoc];congr 2;rw [Nat.mul_comm (128 ^ k) 128,Nat.mul_left_comm]
theorem lenRf_lead:∀ (f sc acc u:Nat) (L:Bs),lenRf f sc acc u L=if f≤lead L then (0,0,4) else if lead L=L.length then (0,0,2) else (acc+sumD L (lead L+1) * sc,u+lead L+1,0)
  | 0,sc,acc,u,L=>by rw [if_pos (Nat.zero_le _)];rfl
  | f+1,sc,acc,u,[]=>by
    rw [if_neg (show ¬ f+1≤lead ([]:Bs) by show ¬ f+1≤0;omega),if_pos (show lead ([]:Bs)=([]:Bs).length from rfl)];rfl
  | f+1,sc,acc,u,c::t=>by
    unfold lenRf;by_cases h:c.toNat < 128
    · have e:lead (c::t)=0:=if_pos h
      rw [if_pos h,e,if_neg (by omega),if_neg (by simp),sumD_cons];simp [sumD]
    · have e:lead (c::t)=lead t+1:=if_neg h
      rw [if_neg h,e,lenRf_lead f];by_cases h1:f≤lead t
      · rw [if_pos h1,if_pos (show f+1≤lead t+1 by omega)]
      rw [if_neg h1,if_neg (show ¬ f+1≤lead t+1 by omega)];by_cases h2:lead t=t.length
      · rw [if_pos h2,if_pos (show lead t+1=(c::t).length by rw [List.length_cons,h2])]
      rw [if_neg h2,if_neg (show ¬ lead t+1=(c::t).length by rw [List.length_cons];omega),sumD_cons c t (lead t+1)];refine Prod.ext ?_ (Prod.ext (by simp only;omega) rfl);simp only
      rw [Nat.add_mul,Nat.add_assoc,Nat.mul_assoc 128,Nat.mul_left_comm 128,Nat.mul_comm 128 sc]
theorem lenR_lead (L:Bs):lenR L=if 4≤lead L then (0,0,4) else if lead L=L.length then (0,0,2) else (sumD L (lead L+1),lead L+1,0):=by
  unfold lenR;rw [lenRf_lead];simp
def firstG (n:Nat):Bool:=if n / 16=3 then decide (n / 2 % 4≠3) else decide (1≤n / 16) && (decide (n / 16≤14) && decide (n=16 * (n / 16)+flagsN { Pk.zero with ty:=n / 16 }))
theorem first_ok:∀ n,n < 256→firstOk n=firstG n:=by decide +kernel
set_option maxRecDepth 100000 in
set_option maxHeartbeats 4000000 in
theorem r1_ReadLen {wb:World} (L:Bs) (hL:L.length≤90000000):Spec Tryz.prog wb 86 #[.string (bB L)] [] [] (fun _:Unit=>.tuple #[.int .i64 ((lenR L).1:Int),.int .i64 ((lenR L).2.1:Int),.int .i64 ((lenR L).2.2:Int)]) (fun _=>[]) (fun _=>[]):=by
  have hsz:(bB L).size=L.length:=rfl;have hll:=lead_len L;obtain ⟨z,hz⟩:∃ z,lenR L=z:=⟨_,rfl⟩
  rw [hz];rw [lenR_lead] at hz;intro w H;refine en_call Tryz.func86 H ?_;refine en E0 (eC 4 []) ?_;refine en_loopP (codeOf Tryz.f86) [1,1,0,0] [1,1,0,0,0] [] (α:={j:Nat // j≤lead L}) (fun y=>lead L - y.1) (fun y=>[(0,.string (bB L)),(5,.int .i64 (y.1:Int)),(2,.int .i64 0),(3,.int .i64 0),(4,.int .i64 0)]) (fun y=>[]) (fun y=>many []) ⟨0,Nat.zero_le _⟩ (by kernel_rfl) ?_;intro ⟨j,hj⟩ J HJ;simp only at HJ
  by_cases h1:j < L.length
  · obtain ⟨c,hc⟩:∃ c,L[j]? = some c:=⟨_,List.getElem?_eq_getElem h1⟩
    obtain ⟨l1,l2⟩:=lead_at L j c hj hc;by_cases h2:c.toNat < 128
    · have hlj:=l1 h2
      refine en ⟨⟨[],[(ixT (.string (bB L)) (.int .i64 (j:Int)) 5,.int .u8 (c.toNat:Int))]⟩,[(.bool (decide ((((j:Int)):Int) < (((bB L)).size:Int))),.bool true),(.bool (decide ((((c.toNat:Int)):Int) ≥ 128)),.bool false)],[],[],fun _ _ h=>⟨trivial,⟨ix_run hc 5,trivial⟩⟩,⟨dcT (by omega),dcF (by omega),trivial⟩,trivial,trivial⟩ (eC 3 (.f 0::eC 3 [.r 0,.f 1,.c])) ?_;by_cases h4:4≤j
      · refine en (EF [(.bool (decide ((((j:Int)):Int) ≥ 4)),.bool true)] ⟨dcT (by omega),trivial⟩) (.c::.f 0::eC 3 []) ?_
        have e1:z=(0,0,4):=by rw [← hz,hlj,if_pos (by omega)]
        subst e1;exact en_rets () [] [] []
      by_cases h5:j=L.length
      · refine en (EF [(.bool (decide ((((j:Int)):Int) ≥ 4)),.bool false),(.bool ((((j:Int)):Int) == (((bB L)).size:Int)),.bool true)] ⟨dcF (by omega),eqI (by omega),trivial⟩) (.c::.f 0::eC 3 (.f 1::eC 3 [])) ?_
        have e1:z=(0,0,2):=by rw [← hz,hlj,if_neg (by omega),if_pos (by omega)]
        subst e1;exact en_rets () [] [] []
      refine en (EF [(.bool (decide ((((j:Int)):Int) ≥ 4)),.bool false),(.bool ((((j:Int)):Int) == (((bB L)).size:Int)),.bool false)] ⟨dcF (by omega),eqI' (by omega),trivial⟩) (.c::.f 0::eC 3 [.f 1,.c,.c]) ?_;refine en_loopP (codeOf Tryz.f86) [1,1,1,1,1,1,0,1,0] [1,1,1,1,1,1,0,1,0,0] [] (α:={k:Nat // k≤j+1}) (fun y=>j+1 - y.1) (fun y=>[(0,.string (bB L)),(5,.int .i64 (j:Int)),(6,.int .i64 (sumD L y.1:Int)),(7,.int .i64 (y.1:Int)),(2,.int .i64 0),(3,.int .i64 0),(4,.int .i64 0)]) (fun y=>[]) (fun y=>many []) ⟨0,Nat.zero_le _⟩ (by kernel_rfl) ?_;intro ⟨k,hk⟩ J2 HJ2;simp only at HJ2
      by_cases h6:k≤j
      · obtain ⟨c,hc⟩:∃ c,L[k]? = some c:=⟨_,List.getElem?_eq_getElem (by omega)⟩
        have hcb:=c.toNat_lt;have hg:L.getD k 0=c:=by rw [List.getD_eq_getElem?_getD,hc];rfl
        obtain ⟨m,hm⟩:∃ m,c.toNat % 128=m:=⟨_,rfl⟩
        obtain ⟨q,hq⟩:∃ q,128 ^ k=q:=⟨_,rfl⟩
        have hq2:q≤2097152:=by rw [← hq];exact (Nat.pow_le_pow_right (by decide) (show k≤3 by omega):128 ^ k≤128 ^ 3)
        have hmq:m * q≤127 * 2097152:=Nat.mul_le_mul (by omega) hq2;have hs:=sumD_lt L k;rw [hq] at hs;have hsn:sumD L (k+1)=sumD L k+m * q:=by rw [sumD,hg,hm,hq]
        have HP:=fun w=>ref01_Power k (by omega) w
        rw [hq] at HP;refine en (EF [(.bool (decide ((((k:Int)):Int)≤(j:Int))),.bool true)] ⟨dcT (by omega),trivial⟩) [.c,.c,.f 0] ?_;refine en ⟨⟨[],[(ixT (.string (bB L)) (.int .i64 (k:Int)) 5,.int .u8 (c.toNat:Int))]⟩,[(.int .u8 (Int.tmod (c.toNat:Int) 128),.int .u8 (m:Int)),(.int .i64 (IntKind.i64.wrap ((m:Int))),.int .i64 (m:Int)),(.int .i64 (IntKind.i64.wrap ((m:Int) * (q:Int))),.int .i64 ((m * q:Nat):Int)),(.int .i64 (IntKind.i64.wrap ((sumD L k:Int)+((m * q:Nat):Int))),.int .i64 (sumD L (k+1):Int)),(.int .i64 (IntKind.i64.wrap ((k:Int)+1)),.int .i64 ((k+1:Nat):Int))],[],[⟨102,#[.int .i64 (k:Int)],.int .i64 (q:Int),[],[]⟩],fun _ _ h=>⟨trivial,⟨ix_run hc 5,trivial⟩⟩,⟨hm ▸ rM (d:=128),cI (by omega),wrN (Int.natCast_mul m q).symm (by omega),wrN (by rw [hsn];omega) (by omega),addI (by omega),trivial⟩,trivial,⟨fun _ w _ _=>(HP w).mono (fun e w' h=>⟨h.1,h.2 ▸ Below.refl _ _⟩),trivial⟩⟩ [.g [] 1000 true,.d (eN 0 (eC 3 [.r 0,.f 0,.f 1,.c])),.k 0,.d (eN 8 [.f 2,.f 3,.c]),.c,.f 4,.c] ?_;exact en_stopI (fun a w F HK=>HJ2 ⟨k+1,by omega⟩ a w (by show j+1 - (k+1) < j+1 - k;omega) F HK)
      have hkj:k=j+1:=by omega
      subst hkj;refine en (EF [(.bool (decide (((((j+1:Nat):Int)):Int)≤(j:Int))),.bool false),(.int .i64 (IntKind.i64.wrap ((j:Int)+1)),.int .i64 ((j+1:Nat):Int))] ⟨dcF (by omega),addI (by omega),trivial⟩) (.c::.c::.f 0::.c::.c::.f 1::eC 3 []) ?_;have e1:z=(sumD L (j+1),j+1,0):=by rw [← hz,hlj,if_neg (by omega),if_neg (by omega)]
      subst e1;exact en_rets () [] [] []
    · have hl2:=l2 h2
      refine en ⟨⟨[],[(ixT (.string (bB L)) (.int .i64 (j:Int)) 5,.int .u8 (c.toNat:Int))]⟩,[(.bool (decide ((((j:Int)):Int) < (((bB L)).size:Int))),.bool true),(.bool (decide ((((c.toNat:Int)):Int) ≥ 128)),.bool true),(.int .i64 (IntKind.i64.wrap ((j:Int)+1)),.int .i64 ((j+1:Nat):Int))],[],[],fun _ _ h=>⟨trivial,⟨ix_run hc 5,trivial⟩⟩,⟨dcT (by omega),dcT (by omega),addI (by omega),trivial⟩,trivial,trivial⟩ (eC 3 (.f 0::eC 3 [.r 0,.f 1,.c,.c,.f 2,.c])) ?_;exact en_stopI (fun a w F HK=>HJ ⟨j+1,hl2⟩ a w (by show lead L - (j+1) < lead L - j;omega) F HK)
  have hlj:lead L=j:=by omega
  refine en (EF [(.bool (decide ((((j:Int)):Int) < (((bB L)).size:Int))),.bool false)] ⟨dcF (by omega),trivial⟩) (eC 3 (.f 0::eC 6 [])) ?_;by_cases h4:4≤j
  · refine en (EF [(.bool (decide ((((j:Int)):Int) ≥ 4)),.bool true)] ⟨dcT (by omega),trivial⟩) (.c::.f 0::eC 3 []) ?_
    have e1:z=(0,0,4):=by rw [← hz,hlj,if_pos (by omega)]
    subst e1;exact en_rets () [] [] []
  by_cases h5:j=L.length
  · refine en (EF [(.bool (decide ((((j:Int)):Int) ≥ 4)),.bool false),(.bool ((((j:Int)):Int) == (((bB L)).size:Int)),.bool true)] ⟨dcF (by omega),eqI (by omega),trivial⟩) (.c::.f 0::eC 3 (.f 1::eC 3 [])) ?_
    have e1:z=(0,0,2):=by rw [← hz,hlj,if_neg (by omega),if_pos (by omega)]
    subst e1;exact en_rets () [] [] []
  refine en (EF [(.bool (decide ((((j:Int)):Int) ≥ 4)),.bool false),(.bool ((((j:Int)):Int) == (((bB L)).size:Int)),.bool false)] ⟨dcF (by omega),eqI' (by omega),trivial⟩) (.c::.f 0::eC 3 [.f 1,.c,.c]) ?_;refine en_loopP (codeOf Tryz.f86) [1,1,1,1,1,1,0,1,0] [1,1,1,1,1,1,0,1,0,0] [] (α:={k:Nat // k≤j+1}) (fun y=>j+1 - y.1) (fun y=>[(0,.string (bB L)),(5,.int .i64 (j:Int)),(6,.int .i64 (sumD L y.1:Int)),(7,.int .i64 (y.1:Int)),(2,.int .i64 0),(3,.int .i64 0),(4,.int .i64 0)]) (fun y=>[]) (fun y=>many []) ⟨0,Nat.zero_le _⟩ (by kernel_rfl) ?_;intro ⟨k,hk⟩ J2 HJ2;simp only at HJ2
  by_cases h6:k≤j
  · obtain ⟨c,hc⟩:∃ c,L[k]? = some c:=⟨_,List.getElem?_eq_getElem (by omega)⟩
    have hcb:=c.toNat_lt;have hg:L.getD k 0=c:=by rw [List.getD_eq_getElem?_getD,hc];rfl
    obtain ⟨m,hm⟩:∃ m,c.toNat % 128=m:=⟨_,rfl⟩
    obtain ⟨q,hq⟩:∃ q,128 ^ k=q:=⟨_,rfl⟩
    have hq2:q≤2097152:=by rw [← hq];exact (Nat.pow_le_pow_right (by decide) (show k≤3 by omega):128 ^ k≤128 ^ 3)
    have hmq:m * q≤127 * 2097152:=Nat.mul_le_mul (by omega) hq2;have hs:=sumD_lt L k;rw [hq] at hs;have hsn:sumD L (k+1)=sumD L k+m * q:=by rw [sumD,hg,hm,hq]
    have HP:=fun w=>ref01_Power k (by omega) w
    rw [hq] at HP;refine en (EF [(.bool (decide ((((k:Int)):Int)≤(j:Int))),.bool true)] ⟨dcT (by omega),trivial⟩) [.c,.c,.f 0] ?_;refine en ⟨⟨[],[(ixT (.string (bB L)) (.int .i64 (k:Int)) 5,.int .u8 (c.toNat:Int))]⟩,[(.int .u8 (Int.tmod (c.toNat:Int) 128),.int .u8 (m:Int)),(.int .i64 (IntKind.i64.wrap ((m:Int))),.int .i64 (m:Int)),(.int .i64 (IntKind.i64.wrap ((m:Int) * (q:Int))),.int .i64 ((m * q:Nat):Int)),(.int .i64 (IntKind.i64.wrap ((sumD L k:Int)+((m * q:Nat):Int))),.int .i64 (sumD L (k+1):Int)),(.int .i64 (IntKind.i64.wrap ((k:Int)+1)),.int .i64 ((k+1:Nat):Int))],[],[⟨102,#[.int .i64 (k:Int)],.int .i64 (q:Int),[],[]⟩],fun _ _ h=>⟨trivial,⟨ix_run hc 5,trivial⟩⟩,⟨hm ▸ rM (d:=128),cI (by omega),wrN (Int.natCast_mul m q).symm (by omega),wrN (by rw [hsn];omega) (by omega),addI (by omega),trivial⟩,trivial,⟨fun _ w _ _=>(HP w).mono (fun e w' h=>⟨h.1,h.2 ▸ Below.refl _ _⟩),trivial⟩⟩ [.g [] 1000 true,.d (eN 0 (eC 3 [.r 0,.f 0,.f 1,.c])),.k 0,.d (eN 8 [.f 2,.f 3,.c]),.c,.f 4,.c] ?_;exact en_stopI (fun a w F HK=>HJ2 ⟨k+1,by omega⟩ a w (by show j+1 - (k+1) < j+1 - k;omega) F HK)
  have hkj:k=j+1:=by omega
  subst hkj;refine en (EF [(.bool (decide (((((j+1:Nat):Int)):Int)≤(j:Int))),.bool false),(.int .i64 (IntKind.i64.wrap ((j:Int)+1)),.int .i64 ((j+1:Nat):Int))] ⟨dcF (by omega),addI (by omega),trivial⟩) (.c::.c::.f 0::.c::.c::.f 1::eC 3 []) ?_;have e1:z=(sumD L (j+1),j+1,0):=by rw [← hz,hlj,if_neg (by omega),if_neg (by omega)]
  subst e1;exact en_rets () [] [] []
set_option maxRecDepth 100000 in
set_option maxHeartbeats 4000000 in
theorem r5_First {wb:World} (n:Nat) (hn:n < 256):Spec Tryz.prog wb 87 #[.int .u8 (n:Int)] [] [] (fun _:Unit=>.bool (firstOk n)) (fun _=>[]) (fun _=>[]):=by
  rw [first_ok n hn];obtain ⟨z,hz⟩:∃ z,firstG n=z:=⟨_,rfl⟩
  rw [hz];unfold firstG at hz;intro w H;refine en_call Tryz.func87 H ?_;by_cases h3:n / 16=3
  · by_cases h4:n / 2 % 4=3
    · refine en (EF [(.int .u8 (IntKind.u8.wrap (Int.tdiv (n:Int) 16)),.int .u8 ((n / 16:Nat):Int)),(.bool (((((n / 16:Nat):Int)):Int) == 3),.bool true),(.int .u8 (IntKind.u8.wrap (Int.tdiv (n:Int) 2)),.int .u8 ((n / 2:Nat):Int)),(.int .u8 (Int.tmod ((n / 2:Nat):Int) 4),.int .u8 ((n / 2 % 4:Nat):Int)),(.bool (((((n / 2 % 4:Nat):Int)):Int) != 3),.bool false)] ⟨qU (d:=16) hn,eqI (by omega),qU (d:=2) hn,rM (d:=4),neI' (by omega),trivial⟩) [.c,.c,.f 0,.f 1,.c,.f 2,.f 3,.f 4,.c] ?_
      have e1:z=false:=by rw [← hz,if_pos h3,decide_eq_false (by omega)]
      subst e1;exact en_rets () [] [] []
    · refine en (EF [(.int .u8 (IntKind.u8.wrap (Int.tdiv (n:Int) 16)),.int .u8 ((n / 16:Nat):Int)),(.bool (((((n / 16:Nat):Int)):Int) == 3),.bool true),(.int .u8 (IntKind.u8.wrap (Int.tdiv (n:Int) 2)),.int .u8 ((n / 2:Nat):Int)),(.int .u8 (Int.tmod ((n / 2:Nat):Int) 4),.int .u8 ((n / 2 % 4:Nat):Int)),(.bool (((((n / 2 % 4:Nat):Int)):Int) != 3),.bool true)] ⟨qU (d:=16) hn,eqI (by omega),qU (d:=2) hn,rM (d:=4),neI (by omega),trivial⟩) [.c,.c,.f 0,.f 1,.c,.f 2,.f 3,.f 4,.c] ?_
      have e1:z=true:=by rw [← hz,if_pos h3,decide_eq_true (by omega)]
      subst e1;exact en_rets () [] [] []
  by_cases h1:n / 16 < 1
  · refine en (EF [(.int .u8 (IntKind.u8.wrap (Int.tdiv (n:Int) 16)),.int .u8 ((n / 16:Nat):Int)),(.bool (((((n / 16:Nat):Int)):Int) == 3),.bool false),(.int .u8 (IntKind.u8.wrap (Int.tdiv (n:Int) 16)),.int .u8 ((n / 16:Nat):Int)),(.bool (decide (((((n / 16:Nat):Int)):Int) ≥ 1)),.bool false)] ⟨qU (d:=16) hn,eqI' (by omega),qU (d:=16) hn,dcF (by omega),trivial⟩) (.c::.c::.f 0::.f 1::.c::.f 2::.f 3::eC 15 []) ?_
    have e1:z=false:=by rw [← hz,if_neg h3,decide_eq_false (by omega)];rfl
    subst e1;exact en_rets () [] [] []
  by_cases h2:n / 16 > 14
  · refine en (EF [(.int .u8 (IntKind.u8.wrap (Int.tdiv (n:Int) 16)),.int .u8 ((n / 16:Nat):Int)),(.bool (((((n / 16:Nat):Int)):Int) == 3),.bool false),(.int .u8 (IntKind.u8.wrap (Int.tdiv (n:Int) 16)),.int .u8 ((n / 16:Nat):Int)),(.bool (decide (((((n / 16:Nat):Int)):Int) ≥ 1)),.bool true),(.int .u8 (IntKind.u8.wrap (Int.tdiv (n:Int) 16)),.int .u8 ((n / 16:Nat):Int)),(.bool (decide (((((n / 16:Nat):Int)):Int)≤14)),.bool false)] ⟨qU (d:=16) hn,eqI' (by omega),qU (d:=16) hn,dcT (by omega),qU (d:=16) hn,dcF (by omega),trivial⟩) (.c::.c::.f 0::.f 1::.c::.f 2::.f 3::.c::.c::.f 4::.f 5::eC 11 []) ?_
    have e1:z=false:=by rw [← hz,if_neg h3,decide_eq_false (p:=n / 16≤14) (by omega)];simp
    subst e1;exact en_rets () [] [] []
  obtain ⟨m,hm⟩:∃ m,16 * (n / 16)+flagsN { Pk.zero with ty:=n / 16 }=m:=⟨_,rfl⟩
  have HF:=fun w (hE:Env w)=>ref04_First { Pk.zero with ty:=n / 16 } none 0 w hE (show 1≤n / 16∧n / 16≤14 by omega) (fun _=>show 0≤2 by decide)
  have hm2:16 * ({ Pk.zero with ty:=n / 16 }:Pk).ty+flagsN { Pk.zero with ty:=n / 16 }=m:=hm;rw [hm2] at HF;by_cases h5:n=m
  · refine en (EK [(.int .u8 (IntKind.u8.wrap (Int.tdiv (n:Int) 16)),.int .u8 ((n / 16:Nat):Int)),(.bool (((((n / 16:Nat):Int)):Int) == 3),.bool false),(.int .u8 (IntKind.u8.wrap (Int.tdiv (n:Int) 16)),.int .u8 ((n / 16:Nat):Int)),(.bool (decide (((((n / 16:Nat):Int)):Int) ≥ 1)),.bool true),(.int .u8 (IntKind.u8.wrap (Int.tdiv (n:Int) 16)),.int .u8 ((n / 16:Nat):Int)),(.bool (decide (((((n / 16:Nat):Int)):Int)≤14)),.bool true),(.int .i64 (IntKind.i64.wrap ((n:Int))),.int .i64 (n:Int)),(.int .u8 (IntKind.u8.wrap (Int.tdiv (n:Int) 16)),.int .u8 ((n / 16:Nat):Int)),(.bool ((((n:Int)):Int) == (m:Int)),.bool true)] ⟨qU (d:=16) hn,eqI' (by omega),qU (d:=16) hn,dcT (by omega),qU (d:=16) hn,dcT (by omega),cI (by omega),qU (d:=16) hn,eqI (by omega),trivial⟩ [⟨103,#[.agg (pkV { Pk.zero with ty:=n / 16 } none 0)],.int .i64 (m:Int),[],[]⟩] ⟨fun _ w h _=>HF w h.hp.env,trivial⟩) (.c::.c::.f 0::.f 1::.c::.f 2::.f 3::.c::.c::.f 4::.f 5::eC 3 [.f 6,.c,.f 7,.c,.k 0,.f 8,.c,.c]) ?_
    have e1:z=true:=by rw [← hz,if_neg h3,decide_eq_true (p:=1≤n / 16) (by omega),decide_eq_true (p:=n / 16≤14) (by omega),hm,decide_eq_true h5];rfl
    subst e1;exact en_rets () [] [] []
  · refine en (EK [(.int .u8 (IntKind.u8.wrap (Int.tdiv (n:Int) 16)),.int .u8 ((n / 16:Nat):Int)),(.bool (((((n / 16:Nat):Int)):Int) == 3),.bool false),(.int .u8 (IntKind.u8.wrap (Int.tdiv (n:Int) 16)),.int .u8 ((n / 16:Nat):Int)),(.bool (decide (((((n / 16:Nat):Int)):Int) ≥ 1)),.bool true),(.int .u8 (IntKind.u8.wrap (Int.tdiv (n:Int) 16)),.int .u8 ((n / 16:Nat):Int)),(.bool (decide (((((n / 16:Nat):Int)):Int)≤14)),.bool true),(.int .i64 (IntKind.i64.wrap ((n:Int))),.int .i64 (n:Int)),(.int .u8 (IntKind.u8.wrap (Int.tdiv (n:Int) 16)),.int .u8 ((n / 16:Nat):Int)),(.bool ((((n:Int)):Int) == (m:Int)),.bool false)] ⟨qU (d:=16) hn,eqI' (by omega),qU (d:=16) hn,dcT (by omega),qU (d:=16) hn,dcT (by omega),cI (by omega),qU (d:=16) hn,eqI' (by omega),trivial⟩ [⟨103,#[.agg (pkV { Pk.zero with ty:=n / 16 } none 0)],.int .i64 (m:Int),[],[]⟩] ⟨fun _ w h _=>HF w h.hp.env,trivial⟩) (.c::.c::.f 0::.f 1::.c::.f 2::.f 3::.c::.c::.f 4::.f 5::eC 3 [.f 6,.c,.f 7,.c,.k 0,.f 8,.c,.c]) ?_
    have e1:z=false:=by rw [← hz,if_neg h3,hm,decide_eq_false h5];simp
    subst e1;exact en_rets () [] [] []
end Go.Proofs.YtehpihmgjbmoaaaGreatDoor
namespace Go.Proofs.YtehpihmgjbmoaaaGreatDoor
open Go.RowKit
attribute [local irreducible] Ok
theorem bE {x d:Nat}:Value.bool (((x:Nat):Int) == (d:Int))=.bool (decide (x=d)):=by
  congr 1;rw [Bool.eq_iff_iff];simp
  omega
theorem bE' {x d:Nat} {v:Bool} (h:decide (x=d)=v):Value.bool (((x:Nat):Int) == (d:Int))=.bool v:=h ▸ bE
theorem subsG_end {ty f was:Nat} {c:Cur} {acc:List Sb} (h:c.1=[]∨¬ c.1.length < was):subsG ty f was c acc=(acc,c):=by
  cases f with
  | zero=>rfl
  | succ f=>unfold subsG;rw [if_pos h]
theorem subsG_step {ty f was:Nat} {c:Cur} {acc:List Sb} (h:¬ (c.1=[]∨¬ c.1.length < was)):subsG ty (f+1) was c acc=subsG ty f c.1.length (if ty=8 then oneR (dataR c).2 else (0,(dataR c).2)).2 (acc++[((dataR c).1,(if ty=8 then oneR (dataR c).2 else (0,(dataR c).2)).1)]):=by
  rw [subsG];rw [if_neg h]
set_option maxRecDepth 100000 in
set_option maxHeartbeats 4000000 in
theorem r5_guess {wb:World} {b:Nat} (hb:b < 256) {L:Bs} (hL:L.length≤90000000):Spec Tryz.prog wb 104 #[.int .u8 (b:Int),.string (bB L)] [] [] (fun y:Option Addr × Nat=>.agg (pkV (guessR b L) y.1 y.2)) (fun _=>[]) (fun y=>[sbC (guessR b L,y)]):=by
  obtain ⟨z,hz⟩:∃ z,guessR b L=z:=⟨_,rfl⟩
  rw [hz];unfold guessR at hz;obtain ⟨t,ht⟩:∃ t,b / 16=t:=⟨_,rfl⟩
  rw [ht] at hz;unfold allG at hz;intro w H;refine en_call Tryz.func104 H ?_;refine en2 (EF [(.int .u8 (IntKind.u8.wrap (Int.tdiv (b:Int) 16)),.int .u8 (t:Int))] ⟨ht ▸ qU (d:=16) hb,trivial⟩) [.n,.c,.c,.x,.c,.c,.f 0,.c] fun R X=>?_
  refine en1 E0 [.n,.s 2 0,.c,.b 2 0] fun P=>?_
  by_cases h1:t=1
  · subst h1
    rw [if_pos rfl] at hz;have hl0:(L,false).1.length≤90000000:=hL;refine en E0 (eC 3 []) ?_;refine en_spec0 (r5_data (x:=X) (L,false) (hl0)) [1] [] [] ?_;have hl1:=data_len (L,false);refine en E0 [.c] ?_;refine en_spec0 (r5_byte1 (x:=X) (dataR (L,false)).2) [0] [] [] ?_;have hb1:=one_lt (dataR (L,false)).2;have hl2:=one_len (dataR (L,false)).2;refine en (EF [(.int .u8 (IntKind.u8.wrap (((oneR (dataR (L,false)).2).1:Int))),.int .u8 ((oneR (dataR (L,false)).2).1:Int))] ⟨cU (one_lt _),trivial⟩) [.f 0,.c,.s 2 7,.c] ?_;refine en_spec0 (r5_byte1 (x:=X) (oneR (dataR (L,false)).2).2) [0] [] [] ?_;have hb2:=one_lt (oneR (dataR (L,false)).2).2;have hl3:=one_len (oneR (dataR (L,false)).2).2;refine en E0 [.c,.c] ?_;refine en_spec0 (r5_word (x:=X) (oneR (oneR (dataR (L,false)).2).2).2) [0] [] [] ?_;have hl4:=word_len (oneR (oneR (dataR (L,false)).2).2).2;refine en (EF [(.int .u16 (IntKind.u16.wrap (((wordR (oneR (oneR (dataR (L,false)).2).2).2).1:Int))),.int .u16 ((wordR (oneR (oneR (dataR (L,false)).2).2).2).1:Int))] ⟨cW (word_lt _),trivial⟩) [.f 0,.c,.s 2 9,.c] ?_;refine en_spec0 (r5_data (x:=X) (wordR (oneR (oneR (dataR (L,false)).2).2).2).2 (by omega)) [0] [] [] ?_;have hl5:=data_len (wordR (oneR (oneR (dataR (L,false)).2).2).2).2;obtain ⟨f,hf⟩:∃ f,(oneR (oneR (dataR (L,false)).2).2).1=f:=⟨_,rfl⟩
    obtain ⟨hw,hhw⟩:∃ x,decide ((oneR (oneR (dataR (L,false)).2).2).1 / 4 % 2=1)=x:=⟨_,rfl⟩
    obtain ⟨hu,hhu⟩:∃ x,decide ((oneR (oneR (dataR (L,false)).2).2).1 / 128 % 2=1)=x:=⟨_,rfl⟩
    obtain ⟨hp,hhp⟩:∃ x,decide ((oneR (oneR (dataR (L,false)).2).2).1 / 64 % 2=1)=x:=⟨_,rfl⟩
    refine en (EF [(.int .i64 (IntKind.i64.wrap (Int.tdiv ((oneR (oneR (dataR (L,false)).2).2).1:Int) 2)),.int .i64 (((oneR (oneR (dataR (L,false)).2).2).1 / 2:Nat):Int)),(.int .i64 (Int.tmod (((oneR (oneR (dataR (L,false)).2).2).1 / 2:Nat):Int) 2),.int .i64 (((oneR (oneR (dataR (L,false)).2).2).1 / 2 % 2:Nat):Int)),(.bool ((((oneR (oneR (dataR (L,false)).2).2).1 / 2 % 2:Nat):Int) == 1),.bool (decide ((oneR (oneR (dataR (L,false)).2).2).1 / 2 % 2=1))),(.int .i64 (IntKind.i64.wrap (Int.tdiv ((oneR (oneR (dataR (L,false)).2).2).1:Int) 4)),.int .i64 (((oneR (oneR (dataR (L,false)).2).2).1 / 4:Nat):Int)),(.int .i64 (Int.tmod (((oneR (oneR (dataR (L,false)).2).2).1 / 4:Nat):Int) 2),.int .i64 (((oneR (oneR (dataR (L,false)).2).2).1 / 4 % 2:Nat):Int)),(.bool ((((oneR (oneR (dataR (L,false)).2).2).1 / 4 % 2:Nat):Int) == 1),.bool hw),(.int .i64 (IntKind.i64.wrap (Int.tdiv ((oneR (oneR (dataR (L,false)).2).2).1:Int) 8)),.int .i64 (((oneR (oneR (dataR (L,false)).2).2).1 / 8:Nat):Int)),(.int .i64 (Int.tmod (((oneR (oneR (dataR (L,false)).2).2).1 / 8:Nat):Int) 4),.int .i64 (((oneR (oneR (dataR (L,false)).2).2).1 / 8 % 4:Nat):Int)),(.int .u8 (IntKind.u8.wrap ((((oneR (oneR (dataR (L,false)).2).2).1 / 8 % 4:Nat):Int))),.int .u8 (((oneR (oneR (dataR (L,false)).2).2).1 / 8 % 4:Nat):Int)),(.int .i64 (IntKind.i64.wrap (Int.tdiv ((oneR (oneR (dataR (L,false)).2).2).1:Int) 32)),.int .i64 (((oneR (oneR (dataR (L,false)).2).2).1 / 32:Nat):Int)),(.int .i64 (Int.tmod (((oneR (oneR (dataR (L,false)).2).2).1 / 32:Nat):Int) 2),.int .i64 (((oneR (oneR (dataR (L,false)).2).2).1 / 32 % 2:Nat):Int)),(.bool ((((oneR (oneR (dataR (L,false)).2).2).1 / 32 % 2:Nat):Int) == 1),.bool (decide ((oneR (oneR (dataR (L,false)).2).2).1 / 32 % 2=1))),(.int .i64 (IntKind.i64.wrap (Int.tdiv ((oneR (oneR (dataR (L,false)).2).2).1:Int) 64)),.int .i64 (((oneR (oneR (dataR (L,false)).2).2).1 / 64:Nat):Int)),(.int .i64 (Int.tmod (((oneR (oneR (dataR (L,false)).2).2).1 / 64:Nat):Int) 2),.int .i64 (((oneR (oneR (dataR (L,false)).2).2).1 / 64 % 2:Nat):Int)),(.bool ((((oneR (oneR (dataR (L,false)).2).2).1 / 64 % 2:Nat):Int) == 1),.bool hp),(.int .i64 (IntKind.i64.wrap (Int.tdiv ((oneR (oneR (dataR (L,false)).2).2).1:Int) 128)),.int .i64 (((oneR (oneR (dataR (L,false)).2).2).1 / 128:Nat):Int)),(.bool ((((oneR (oneR (dataR (L,false)).2).2).1 / 128:Nat):Int) == 1),.bool hu)] ⟨qI (d:=2) (by omega),rM (d:=2),bE (d:=1),qI (d:=4) (by omega),rM (d:=2),hhw ▸ bE (d:=1),qI (d:=8) (by omega),rM (d:=4),cU (by omega),qI (d:=32) (by omega),rM (d:=2),bE (d:=1),qI (d:=64) (by omega),rM (d:=2),hhp ▸ bE (d:=1),qI (d:=128) (by omega),bE' (d:=1) (by rw [← hhu];exact decide_eq_decide.2 (by omega)),trivial⟩) [.c,.s 2 10,.c,.f 0,.f 1,.f 2,.c,.s 2 8,.c,.f 3,.f 4,.f 5,.c,.s 2 11,.c,.f 6,.f 7,.f 8,.c,.c,.s 2 14,.c,.f 9,.f 10,.f 11,.c,.c,.s 2 15,.c,.f 12,.f 13,.f 14,.c,.s 2 17,.c,.f 15,.f 16,.c,.s 2 16] ?_;refine en_norm (runP (codeOf Tryz.f104) [1,1,1,0,1,0,1,0,1,1,1,1,1,1,1,1,1,1,1,0,0] [] 0) [(4,.pointer (some ⟨R,0,none⟩)),(5,.pointer (some ⟨X,0,none⟩)),(6,.pointer (some ⟨P,0,none⟩))] [⟨X,[.string (bB (dataR (wordR (oneR (oneR (dataR (L,false)).2).2).2).2).2.1)],173⟩,⟨R,(pkV Pk.zero none 0).toList,33⟩,⟨P,[.int .u8 1,.bool false,.int .u8 0,.bool false,.int .u16 0,.string ⟨#[]⟩,.string ⟨#[]⟩,.int .u8 ((oneR (dataR (L,false)).2).1:Int),.bool (decide ((oneR (oneR (dataR (L,false)).2).2).1 / 2 % 2=1)),.int .u16 ((wordR (oneR (oneR (dataR (L,false)).2).2).2).1:Int),.string (dataR (wordR (oneR (oneR (dataR (L,false)).2).2).2).2).1,.bool hw,.string ⟨#[]⟩,.string ⟨#[]⟩,.int .u8 (((oneR (oneR (dataR (L,false)).2).2).1 / 8 % 4:Nat):Int),.bool (decide ((oneR (oneR (dataR (L,false)).2).2).1 / 32 % 2=1)),.bool hu,.bool hp,.string ⟨#[]⟩,.string ⟨#[]⟩,.bool false,.int .u8 0,.slice none 0 0,.string ⟨#[]⟩],33⟩] ?_;cases hw
    · refine en E0 [.c,.b 2 11] ?_
      cases hu
      · refine en E0 [.c,.b 2 16] ?_
        cases hp
        · refine en E0 [.c,.b 2 17,.b 2 0,.s 1 0] ?_
          unfold conG at hz;simp only [hhw,hhu,hhp,if_neg (of_decide_eq_false hhw),if_neg (of_decide_eq_false hhu),if_neg (of_decide_eq_false hhp)] at hz;subst hz;refine en_row0 112 2 ?_;exact en_rets (none,0) [] [0] [1]
        · refine en E0 [.c,.b 2 17,.c] ?_
          refine en_spec0 (r5_data (x:=X) (dataR (wordR (oneR (oneR (dataR (L,false)).2).2).2).2).2 (by omega)) [0] [] [] ?_;refine en E0 [.c,.s 2 19,.b 2 0,.s 1 0] ?_;unfold conG at hz;simp only [hhw,hhu,hhp,if_neg (of_decide_eq_false hhw),if_neg (of_decide_eq_false hhu),if_pos (of_decide_eq_true hhp)] at hz;subst hz;refine en_row0 112 2 ?_;exact en_rets (none,0) [] [0] [1]
      · refine en E0 [.c,.b 2 16,.c] ?_
        refine en_spec0 (r5_data (x:=X) (dataR (wordR (oneR (oneR (dataR (L,false)).2).2).2).2).2 (by omega)) [0] [] [] ?_;have hl8:=data_len (dataR (wordR (oneR (oneR (dataR (L,false)).2).2).2).2).2;refine en E0 [.c,.s 2 18] ?_;cases hp
        · refine en E0 [.c,.b 2 17,.b 2 0,.s 1 0] ?_
          unfold conG at hz;simp only [hhw,hhu,hhp,if_neg (of_decide_eq_false hhw),if_pos (of_decide_eq_true hhu),if_neg (of_decide_eq_false hhp)] at hz;subst hz;refine en_row0 112 2 ?_;exact en_rets (none,0) [] [0] [1]
        · refine en E0 [.c,.b 2 17,.c] ?_
          refine en_spec0 (r5_data (x:=X) (dataR (dataR (wordR (oneR (oneR (dataR (L,false)).2).2).2).2).2).2 (by omega)) [0] [] [] ?_;refine en E0 [.c,.s 2 19,.b 2 0,.s 1 0] ?_;unfold conG at hz;simp only [hhw,hhu,hhp,if_neg (of_decide_eq_false hhw),if_pos (of_decide_eq_true hhu),if_pos (of_decide_eq_true hhp)] at hz;subst hz;refine en_row0 112 2 ?_;exact en_rets (none,0) [] [0] [1]
    · refine en E0 [.c,.b 2 11,.c] ?_
      refine en_spec0 (r5_data (x:=X) (dataR (wordR (oneR (oneR (dataR (L,false)).2).2).2).2).2 (by omega)) [0] [] [] ?_;have hl6:=data_len (dataR (wordR (oneR (oneR (dataR (L,false)).2).2).2).2).2;refine en E0 [.c,.c,.s 2 12,.c] ?_;refine en_spec0 (r5_data (x:=X) (dataR (dataR (wordR (oneR (oneR (dataR (L,false)).2).2).2).2).2).2 (by omega)) [0] [] [] ?_;have hl7:=data_len (dataR (dataR (wordR (oneR (oneR (dataR (L,false)).2).2).2).2).2).2;refine en E0 [.c,.c,.s 2 13] ?_;cases hu
      · refine en E0 [.c,.b 2 16] ?_
        cases hp
        · refine en E0 [.c,.b 2 17,.b 2 0,.s 1 0] ?_
          unfold conG at hz;simp only [hhw,hhu,hhp,if_pos (of_decide_eq_true hhw),if_neg (of_decide_eq_false hhu),if_neg (of_decide_eq_false hhp)] at hz;subst hz;refine en_row0 112 2 ?_;exact en_rets (none,0) [] [0] [1]
        · refine en E0 [.c,.b 2 17,.c] ?_
          refine en_spec0 (r5_data (x:=X) (dataR (dataR (dataR (wordR (oneR (oneR (dataR (L,false)).2).2).2).2).2).2).2 (by omega)) [0] [] [] ?_;refine en E0 [.c,.s 2 19,.b 2 0,.s 1 0] ?_;unfold conG at hz;simp only [hhw,hhu,hhp,if_pos (of_decide_eq_true hhw),if_neg (of_decide_eq_false hhu),if_pos (of_decide_eq_true hhp)] at hz;subst hz;refine en_row0 112 2 ?_;exact en_rets (none,0) [] [0] [1]
      · refine en E0 [.c,.b 2 16,.c] ?_
        refine en_spec0 (r5_data (x:=X) (dataR (dataR (dataR (wordR (oneR (oneR (dataR (L,false)).2).2).2).2).2).2).2 (by omega)) [0] [] [] ?_;have hl8:=data_len (dataR (dataR (dataR (wordR (oneR (oneR (dataR (L,false)).2).2).2).2).2).2).2;refine en E0 [.c,.s 2 18] ?_;cases hp
        · refine en E0 [.c,.b 2 17,.b 2 0,.s 1 0] ?_
          unfold conG at hz;simp only [hhw,hhu,hhp,if_pos (of_decide_eq_true hhw),if_pos (of_decide_eq_true hhu),if_neg (of_decide_eq_false hhp)] at hz;subst hz;refine en_row0 112 2 ?_;exact en_rets (none,0) [] [0] [1]
        · refine en E0 [.c,.b 2 17,.c] ?_
          refine en_spec0 (r5_data (x:=X) (dataR (dataR (dataR (dataR (wordR (oneR (oneR (dataR (L,false)).2).2).2).2).2).2).2).2 (by omega)) [0] [] [] ?_;refine en E0 [.c,.s 2 19,.b 2 0,.s 1 0] ?_;unfold conG at hz;simp only [hhw,hhu,hhp,if_pos (of_decide_eq_true hhw),if_pos (of_decide_eq_true hhu),if_pos (of_decide_eq_true hhp)] at hz;subst hz;refine en_row0 112 2 ?_;exact en_rets (none,0) [] [0] [1]
  rw [if_neg h1] at hz;by_cases h2:t=2
  · subst h2
    rw [if_pos rfl] at hz;refine en E0 (eC 5 []) ?_;refine en_spec0 (r5_byte1 (x:=X) (L,false)) [1] [] [] ?_;refine en (EF [(.bool ((((oneR (L,false)).1:Nat):Int) == 1),.bool (decide ((oneR (L,false)).1=1)))] ⟨bE (d:=1),trivial⟩) [.f 0,.c,.s 2 20,.c] ?_;refine en_spec0 (r5_byte1 (x:=X) (oneR (L,false)).2) [0] [] [] ?_;refine en (EF [(.int .u8 (IntKind.u8.wrap (((oneR (oneR (L,false)).2).1:Int))),.int .u8 ((oneR (oneR (L,false)).2).1:Int))] ⟨cU (one_lt _),trivial⟩) [.f 0,.c,.s 2 21,.b 2 0,.s 1 0] ?_;subst hz;refine en_row0 112 2 ?_;exact en_rets (none,0) [] [0] [1]
  rw [if_neg h2] at hz;by_cases h3:t=3
  · subst h3
    rw [if_pos rfl] at hz;refine en (EF [(.int .u8 (IntKind.u8.wrap (Int.tdiv (b:Int) 8)),.int .u8 ((b / 8:Nat):Int)),(.int .u8 (Int.tmod ((b / 8:Nat):Int) 2),.int .u8 ((b % 16 / 8 % 2:Nat):Int)),(.bool (((b % 16 / 8 % 2:Nat):Int) == 1),.bool (decide (b % 16 / 8 % 2=1))),(.int .u8 (IntKind.u8.wrap (Int.tdiv (b:Int) 2)),.int .u8 ((b / 2:Nat):Int)),(.int .u8 (Int.tmod ((b / 2:Nat):Int) 4),.int .u8 ((b % 16 / 2 % 4:Nat):Int)),(.int .u8 (Int.tmod (b:Int) 2),.int .u8 ((b % 16 % 2:Nat):Int)),(.bool (((b % 16 % 2:Nat):Int) == 1),.bool (decide (b % 16 % 2=1)))] ⟨qU (d:=8) hb,by rw [show (b % 16 / 8 % 2:Nat)=b / 8 % 2 by omega];exact rM (d:=2),bE (d:=1),qU (d:=2) hb,by rw [show (b % 16 / 2 % 4:Nat)=b / 2 % 4 by omega];exact rM (d:=4),by rw [show (b % 16 % 2:Nat)=b % 2 by omega];exact rM (d:=2),bE (d:=1),trivial⟩) (eC 7 [.f 0,.f 1,.f 2,.c,.s 2 1,.c,.f 3,.f 4,.c,.s 2 2,.c,.f 5,.f 6,.c,.s 2 3,.c]) ?_;have hl0:(L,false).1.length≤90000000:=hL;refine en_spec0 (r5_data (x:=X) (L,false) (hl0)) [1] [] [] ?_;refine en E0 [.c,.s 2 5] ?_;by_cases hq:0 < b % 16 / 2 % 4
    · simp only [if_pos hq] at hz
      refine en (EF [(.bool (decide (((((b % 16 / 2 % 4:Nat):Int)):Int) > 0)),.bool true)] ⟨dcT (by omega),trivial⟩) [.c,.b 2 2,.f 0,.c] ?_;refine en_spec0 (r5_word (x:=X) (dataR (L,false)).2) [0] [] [] ?_;refine en (EF [(.int .u16 (IntKind.u16.wrap (((wordR (dataR (L,false)).2).1:Int))),.int .u16 ((wordR (dataR (L,false)).2).1:Int))] ⟨cW (word_lt _),trivial⟩) (.f 0::.c::.s 2 4::eC 3 [.b 0 0,.c,.s 2 6,.b 2 0,.s 1 0]) ?_;subst hz;refine en_row0 112 2 ?_;exact en_rets (none,0) [] [0] [1]
    · simp only [if_neg hq] at hz
      refine en (EF [(.bool (decide (((((b % 16 / 2 % 4:Nat):Int)):Int) > 0)),.bool false)] ⟨dcF (by omega),trivial⟩) (.c::.b 2 2::.f 0::eC 3 [.b 0 0,.c,.s 2 6,.b 2 0,.s 1 0]) ?_;subst hz;refine en_row0 112 2 ?_;exact en_rets (none,0) [] [0] [1]
  rw [if_neg h3] at hz;by_cases hk:t=12
  · subst hk
    rw [if_pos (by decide)] at hz;refine en E0 (eC 8 [.b 2 0,.s 0 0]) ?_;subst hz;refine en_row0 112 2 ?_;exact en_rets (none,0) [] [0] [0]
  have hk12:=hk;clear hk;by_cases hk:t=13
  · subst hk
    rw [if_pos (by decide)] at hz;refine en E0 (eC 10 [.b 2 0,.s 0 0]) ?_;subst hz;refine en_row0 112 2 ?_;exact en_rets (none,0) [] [0] [0]
  have hk13:=hk;clear hk;by_cases hk:t=14
  · subst hk
    rw [if_pos (by decide)] at hz;refine en E0 (eC 12 [.b 2 0,.s 0 0]) ?_;subst hz;refine en_row0 112 2 ?_;exact en_rets (none,0) [] [0] [0]
  have hk14:=hk;clear hk;rw [if_neg (show ¬ (t=12∨t=13∨t=14) by omega)] at hz;by_cases h9:t=9
  · subst h9
    rw [if_pos rfl] at hz;refine en E0 (eC 13 []) ?_;refine en_spec0 (r5_word (x:=X) (L,false)) [1] [] [] ?_;have hl1w:=word_len (L,false);simp only at hl1w
    have hsw:(bB (wordR (L,false)).2.1).size=(wordR (L,false)).2.1.length:=rfl;refine en (EF [(.int .u16 (IntKind.u16.wrap (((wordR (L,false)).1:Int))),.int .u16 ((wordR (L,false)).1:Int)),(.int .i64 (IntKind.i64.wrap ((((bB (wordR (L,false)).2.1).size):Int)+1)),.int .i64 ((((bB (wordR (L,false)).2.1).size)+1:Nat):Int))] ⟨cW (word_lt _),addI (by omega),trivial⟩) (.f 0::.c::.s 2 4::.c::.b 2 0::eC 4 (.b 0 0::.c::.s 2 23::eC 3 [.b 0 0,.c,.f 1,.c])) ?_;refine en_loopP (codeOf Tryz.f104) [1,1,1,0,1,0,1,1,1,1,1,1,1,1,1,1,1,0] [1,1,1,0,1,0,1,1,1,1,1,1,1,1,1,1,1,0,0] [] (α:=Unit) (fun _=>0) (fun _=>[(5,.pointer (some ⟨X,0,none⟩)),(6,.pointer (some ⟨P,0,none⟩)),(4,.pointer (some ⟨R,0,none⟩))]) (fun _=>[⟨X,[.string (bB (wordR (L,false)).2.1)],173⟩,⟨R,(pkV Pk.zero none 0).toList,33⟩,⟨P,[.int .u8 9,.bool false,.int .u8 0,.bool false,.int .u16 ((wordR (L,false)).1:Int),.string ⟨#[]⟩,.string ⟨#[]⟩,.int .u8 0,.bool false,.int .u16 0,.string ⟨#[]⟩,.bool false,.string ⟨#[]⟩,.string ⟨#[]⟩,.int .u8 0,.bool false,.bool false,.bool false,.string ⟨#[]⟩,.string ⟨#[]⟩,.bool false,.int .u8 0,.slice none 0 0,.string (bB (wordR (L,false)).2.1)],33⟩]) (fun _=>many []) () (by kernel_rfl) ?_;intro _ J HJ;refine en E0 (.c::.b 2 0::eC 3 (.b 2 0::eC 19 [.b 2 0,.s 1 0])) ?_;subst hz;refine en_row0 112 2 ?_;exact en_rets (none,0) [] [0] [1]
  have h9n:=h9;by_cases h8:t=8
  · subst h8
    rw [if_neg (by decide),if_pos (by decide)] at hz;refine en E0 (eC 13 []) ?_;refine en_spec0 (r5_word (x:=X) (L,false)) [1] [] [] ?_;have hl1:=word_len (L,false);have hl0:(L,false).1.length≤90000000:=hL;obtain ⟨c,hc⟩:∃ c,(wordR (L,false)).2=c:=⟨_,rfl⟩
    rw [hc] at hl1;obtain ⟨Q,hQ⟩:∃ Q,subsG 8 (c.1.length+1) (c.1.length+1) c []=Q:=⟨_,rfl⟩
    rw [hc,hQ] at hz;obtain ⟨i0,hi,hz0,hz1,hz2⟩:=info_parts infoSub;refine en (EF [(.int .u16 (IntKind.u16.wrap (((wordR (L,false)).1:Int))),.int .u16 ((wordR (L,false)).1:Int))] ⟨cW (word_lt _),trivial⟩) [.f 0,.c,.s 2 4,.c,.b 2 0,.c] ?_;have hsw:(bB (wordR (L,false)).2.1).size=(wordR (L,false)).2.1.length:=rfl;have hsw2:(wordR (L,false)).2.1.length=c.1.length:=by rw [hc]
    refine en (EF [(.int .i64 (IntKind.i64.wrap ((((bB (wordR (L,false)).2.1).size):Int)+1)),.int .i64 ((((bB (wordR (L,false)).2.1).size)+1:Nat):Int))] ⟨addI (by omega),trivial⟩) (eC 3 [.b 0 0,.c,.f 0,.c]) ?_;refine en_row0 112 2 ?_;refine en_loopP (codeOf Tryz.f104) [1,1,1,0,1,0,1,1,1,1,1,1,1,1,1,1,1,0] [1,1,1,0,1,0,1,1,1,1,1,1,1,1,1,1,1,0,0] [] (α:={y:Nat × Nat × Cur × List Sb × Value // y.2.1≤y.1∧subsG 8 y.1 y.2.1 y.2.2.1 y.2.2.2.1=Q∧y.2.2.1.1.length≤90000000∧y.2.2.2.1.length+y.2.1≤90000001}) (fun y=>y.1.2.1) (fun y=>[(5,.pointer (some ⟨X,0,none⟩)),(6,.pointer (some ⟨P,0,none⟩)),(4,.pointer (some ⟨R,0,none⟩)),(8,.int .i64 (y.1.2.1:Int))]) (fun y=>[⟨X,[.string (bB y.1.2.2.1.1)],173⟩,⟨R,(pkV Pk.zero none 0).toList,33⟩,⟨P,[.int .u8 8,.bool false,.int .u8 0,.bool false,.int .u16 ((wordR (L,false)).1:Int),.string ⟨#[]⟩,.string ⟨#[]⟩,.int .u8 0,.bool false,.int .u16 0,.string ⟨#[]⟩,.bool false,.string ⟨#[]⟩,.string ⟨#[]⟩,.int .u8 0,.bool false,.bool false,.bool false,.string ⟨#[]⟩,.string ⟨#[]⟩,.bool false,.int .u8 0,y.1.2.2.2.2,.string ⟨#[]⟩],33⟩]) (fun y=>many [rowO 112 2 y.1.2.2.2.2 y.1.2.2.2.1.length (subCells y.1.2.2.2.1)]) ⟨((wordR (L,false)).2.1.length+1,(wordR (L,false)).2.1.length+1,(wordR (L,false)).2,[],.slice none 0 0),Nat.le_refl _,by rw [hc];exact hQ,by show (wordR (L,false)).2.1.length≤90000000;omega,by show 0+((wordR (L,false)).2.1.length+1)≤90000001;omega⟩ (by kernel_rfl) ?_;intro ⟨⟨fu,was,e,acc,v⟩,hfu,hsub,hle,hacc⟩ J HJ;simp only at HJ hfu hsub hle hacc
    have hsz:(bB e.1).size=e.1.length:=rfl;by_cases hl:e.1.length=0
    · rw [subsG_end (by exact Or.inl (List.eq_nil_of_length_eq_zero hl))] at hsub
      subst hsub;refine en_fact (p:=∃ a k,v=.slice a acc.length k) (fun w h=>by obtain ⟨a,k,h1,_⟩:=own_form (is_at h 0 (c:=rowO 112 2 v acc.length (subCells acc)) rfl);exact ⟨a,k,h1⟩) ?_;rintro ⟨a,k,rfl⟩;refine en (EF [(.bool (decide ((((((bB e.1)).size:Int)):Int) > 0)),.bool false)] ⟨dcF (by omega),trivial⟩) (.c::.b 2 0::eC 10 (.b 0 0::.c::.f 0::eC 10 [.b 2 0,.s 1 0])) ?_;subst hz;exact en_rets (a,k) [] [0] [1]
    by_cases hw:e.1.length < was
    · obtain ⟨fu,rfl⟩:∃ x,fu=x+1:=⟨fu - 1,by omega⟩
      rw [subsG_step (by rintro (h | h);exact hl (by rw [h];rfl);exact h hw)] at hsub;have hl1:=data_len e;have hl2:=one_len (dataR e).2;refine en (EF [(.bool (decide ((((((bB e.1)).size:Int)):Int) > 0)),.bool true),(.bool (decide ((((((bB e.1)).size:Int)):Int) < (was:Int))),.bool true)] ⟨dcT (by omega),dcT (by omega),trivial⟩) (.c::.b 2 0::eC 10 (.b 0 0::.c::.f 0::eC 5 (.b 0 0::.c::.c::.f 1::eC 4 (.b 0 0::eC 3 [])))) ?_;refine en_spec0 (r5_data (x:=X) e (hle)) [0] [] [] ?_;refine en1 E0 [.c,.n,.s 3 0,.c,.b 2 0,.c,.c] fun U=>?_
      refine en_spec0 (r5_byte1 (x:=X) (dataR e).2) [0] [] [] ?_;refine en (EF [(.int .u8 (IntKind.u8.wrap (((oneR (dataR e).2).1:Int))),.int .u8 ((oneR (dataR e).2).1:Int))] ⟨cU (one_lt _),trivial⟩) [.f 0,.c,.s 3 1,.c,.b 2 22,.b 3 0] ?_;refine en_ops (ops_one 31 112 31 (.agg #[.string ((dataR e).1,(oneR (dataR e).2).1).1,.int .u8 (((dataR e).1,(oneR (dataR e).2).1).2:Int)]) #[.string ((dataR e).1,(oneR (dataR e).2).1).1,.int .u8 (((dataR e).1,(oneR (dataR e).2).1).2:Int)] rfl i0 _ hz1.symm Tryz.underlying31 hi hz0 (by rw [hz1];decide) (by rw [hz1];decide) (by rw [hz1];kernel_rfl) (by rw [hz1];rfl)) [] [] [] (fun d=>?_);refine en_ops (ops_app 31 31 112 i0 _ Tryz.underlying31 hi hz0 (hz1 ▸ rfl) (by rw [hz1];decide) (hz1.symm) (v:=v) (x:=.slice (some ⟨d,0,none⟩) 1 1) (n:=acc.length) (m:=1) (xs:=subCells acc) (news:=subCells [((dataR e).1,(oneR (dataR e).2).1)]) (by intro u hu;simp [subCells] at hu;rcases hu with rfl | rfl <;> rfl) (by unfold maxLen;omega) (by rw [hz2];omega)) [] [1,0] [] (fun v'=>?_);rw [← subCells_append,show acc.length+1=(acc++[((dataR e).1,(oneR (dataR e).2).1)]).length by simp];refine en_fact (p:=∃ a k,v'=.slice a (acc++[((dataR e).1,(oneR (dataR e).2).1)]).length k) (fun w h=>by obtain ⟨a,k,h1,_⟩:=own_form (is_at h 0 (c:=rowO 112 2 v' (acc++[((dataR e).1,(oneR (dataR e).2).1)]).length (subCells (acc++[((dataR e).1,(oneR (dataR e).2).1)]))) rfl);exact ⟨a,k,h1⟩) ?_;rintro ⟨sa,sk,rfl⟩;refine en E0 [.c,.s 2 22] ?_;refine en_drop [0,0,0] [0] ?_;exact en_stopI (fun a w F HK=>HJ ⟨(fu,e.1.length,(oneR (dataR e).2).2,acc++[((dataR e).1,(oneR (dataR e).2).1)],.slice sa (acc++[((dataR e).1,(oneR (dataR e).2).1)]).length sk),by simp only;omega,hsub,by simp only;omega,by simp only [List.length_append,List.length_singleton];omega⟩ a w (hw) F HK)
    · rw [subsG_end (by exact Or.inr hw)] at hsub
      subst hsub;refine en_fact (p:=∃ a k,v=.slice a acc.length k) (fun w h=>by obtain ⟨a,k,h1,_⟩:=own_form (is_at h 0 (c:=rowO 112 2 v acc.length (subCells acc)) rfl);exact ⟨a,k,h1⟩) ?_;rintro ⟨a,k,rfl⟩;refine en (EF [(.bool (decide ((((((bB e.1)).size:Int)):Int) > 0)),.bool true),(.bool (decide ((((((bB e.1)).size:Int)):Int) < (was:Int))),.bool false)] ⟨dcT (by omega),dcF (by omega),trivial⟩) (.c::.b 2 0::eC 10 (.b 0 0::.c::.f 0::eC 5 [.b 0 0,.c,.c,.f 1,.c,.b 2 0,.s 1 0])) ?_;subst hz;exact en_rets (a,k) [] [0] [1]
  have h8_8:=h8;clear h8;by_cases h8:t=10
  · subst h8
    rw [if_neg (by decide),if_pos (by decide)] at hz;refine en E0 (eC 13 []) ?_;refine en_spec0 (r5_word (x:=X) (L,false)) [1] [] [] ?_;have hl1:=word_len (L,false);have hl0:(L,false).1.length≤90000000:=hL;obtain ⟨c,hc⟩:∃ c,(wordR (L,false)).2=c:=⟨_,rfl⟩
    rw [hc] at hl1;obtain ⟨Q,hQ⟩:∃ Q,subsG 10 (c.1.length+1) (c.1.length+1) c []=Q:=⟨_,rfl⟩
    rw [hc,hQ] at hz;obtain ⟨i0,hi,hz0,hz1,hz2⟩:=info_parts infoSub;refine en (EF [(.int .u16 (IntKind.u16.wrap (((wordR (L,false)).1:Int))),.int .u16 ((wordR (L,false)).1:Int))] ⟨cW (word_lt _),trivial⟩) [.f 0,.c,.s 2 4,.c,.b 2 0,.c] ?_;have hsw:(bB (wordR (L,false)).2.1).size=(wordR (L,false)).2.1.length:=rfl;have hsw2:(wordR (L,false)).2.1.length=c.1.length:=by rw [hc]
    refine en (EF [(.int .i64 (IntKind.i64.wrap ((((bB (wordR (L,false)).2.1).size):Int)+1)),.int .i64 ((((bB (wordR (L,false)).2.1).size)+1:Nat):Int))] ⟨addI (by omega),trivial⟩) (eC 3 [.b 0 0,.c,.f 0,.c]) ?_;refine en_row0 112 2 ?_;refine en_loopP (codeOf Tryz.f104) [1,1,1,0,1,0,1,1,1,1,1,1,1,1,1,1,1,0] [1,1,1,0,1,0,1,1,1,1,1,1,1,1,1,1,1,0,0] [] (α:={y:Nat × Nat × Cur × List Sb × Value // y.2.1≤y.1∧subsG 10 y.1 y.2.1 y.2.2.1 y.2.2.2.1=Q∧y.2.2.1.1.length≤90000000∧y.2.2.2.1.length+y.2.1≤90000001}) (fun y=>y.1.2.1) (fun y=>[(5,.pointer (some ⟨X,0,none⟩)),(6,.pointer (some ⟨P,0,none⟩)),(4,.pointer (some ⟨R,0,none⟩)),(8,.int .i64 (y.1.2.1:Int))]) (fun y=>[⟨X,[.string (bB y.1.2.2.1.1)],173⟩,⟨R,(pkV Pk.zero none 0).toList,33⟩,⟨P,[.int .u8 10,.bool false,.int .u8 0,.bool false,.int .u16 ((wordR (L,false)).1:Int),.string ⟨#[]⟩,.string ⟨#[]⟩,.int .u8 0,.bool false,.int .u16 0,.string ⟨#[]⟩,.bool false,.string ⟨#[]⟩,.string ⟨#[]⟩,.int .u8 0,.bool false,.bool false,.bool false,.string ⟨#[]⟩,.string ⟨#[]⟩,.bool false,.int .u8 0,y.1.2.2.2.2,.string ⟨#[]⟩],33⟩]) (fun y=>many [rowO 112 2 y.1.2.2.2.2 y.1.2.2.2.1.length (subCells y.1.2.2.2.1)]) ⟨((wordR (L,false)).2.1.length+1,(wordR (L,false)).2.1.length+1,(wordR (L,false)).2,[],.slice none 0 0),Nat.le_refl _,by rw [hc];exact hQ,by show (wordR (L,false)).2.1.length≤90000000;omega,by show 0+((wordR (L,false)).2.1.length+1)≤90000001;omega⟩ (by kernel_rfl) ?_;intro ⟨⟨fu,was,e,acc,v⟩,hfu,hsub,hle,hacc⟩ J HJ;simp only at HJ hfu hsub hle hacc
    have hsz:(bB e.1).size=e.1.length:=rfl;by_cases hl:e.1.length=0
    · rw [subsG_end (by exact Or.inl (List.eq_nil_of_length_eq_zero hl))] at hsub
      subst hsub;refine en_fact (p:=∃ a k,v=.slice a acc.length k) (fun w h=>by obtain ⟨a,k,h1,_⟩:=own_form (is_at h 0 (c:=rowO 112 2 v acc.length (subCells acc)) rfl);exact ⟨a,k,h1⟩) ?_;rintro ⟨a,k,rfl⟩;refine en (EF [(.bool (decide ((((((bB e.1)).size:Int)):Int) > 0)),.bool false)] ⟨dcF (by omega),trivial⟩) (.c::.b 2 0::eC 3 (.b 2 0::eC 6 (.b 0 0::.c::.f 0::eC 10 [.b 2 0,.s 1 0]))) ?_;subst hz;exact en_rets (a,k) [] [0] [1]
    by_cases hw:e.1.length < was
    · obtain ⟨fu,rfl⟩:∃ x,fu=x+1:=⟨fu - 1,by omega⟩
      rw [subsG_step (by rintro (h | h);exact hl (by rw [h];rfl);exact h hw)] at hsub;have hl1:=data_len e;have hl2:=one_len (dataR e).2;refine en (EF [(.bool (decide ((((((bB e.1)).size:Int)):Int) > 0)),.bool true),(.bool (decide ((((((bB e.1)).size:Int)):Int) < (was:Int))),.bool true)] ⟨dcT (by omega),dcT (by omega),trivial⟩) (.c::.b 2 0::eC 3 (.b 2 0::eC 6 (.b 0 0::.c::.f 0::eC 5 (.b 0 0::.c::.c::.f 1::eC 4 (.b 0 0::eC 3 []))))) ?_;refine en_spec0 (r5_data (x:=X) e (hle)) [0] [] [] ?_;refine en1 E0 [.c,.n,.s 3 0,.c,.b 2 0,.c,.c,.b 2 22,.b 3 0] fun U=>?_
      refine en_ops (ops_one 31 112 31 (.agg #[.string ((dataR e).1,0).1,.int .u8 (((dataR e).1,0).2:Int)]) #[.string ((dataR e).1,0).1,.int .u8 (((dataR e).1,0).2:Int)] rfl i0 _ hz1.symm Tryz.underlying31 hi hz0 (by rw [hz1];decide) (by rw [hz1];decide) (by rw [hz1];kernel_rfl) (by rw [hz1];rfl)) [] [] [] (fun d=>?_);refine en_ops (ops_app 31 31 112 i0 _ Tryz.underlying31 hi hz0 (hz1 ▸ rfl) (by rw [hz1];decide) (hz1.symm) (v:=v) (x:=.slice (some ⟨d,0,none⟩) 1 1) (n:=acc.length) (m:=1) (xs:=subCells acc) (news:=subCells [((dataR e).1,0)]) (by intro u hu;simp [subCells] at hu;rcases hu with rfl | rfl <;> rfl) (by unfold maxLen;omega) (by rw [hz2];omega)) [] [1,0] [] (fun v'=>?_);rw [← subCells_append,show acc.length+1=(acc++[((dataR e).1,0)]).length by simp];refine en_fact (p:=∃ a k,v'=.slice a (acc++[((dataR e).1,0)]).length k) (fun w h=>by obtain ⟨a,k,h1,_⟩:=own_form (is_at h 0 (c:=rowO 112 2 v' (acc++[((dataR e).1,0)]).length (subCells (acc++[((dataR e).1,0)]))) rfl);exact ⟨a,k,h1⟩) ?_;rintro ⟨sa,sk,rfl⟩;refine en E0 [.c,.s 2 22] ?_;refine en_drop [0,0,0] [0] ?_;exact en_stopI (fun a w F HK=>HJ ⟨(fu,e.1.length,(dataR e).2,acc++[((dataR e).1,0)],.slice sa (acc++[((dataR e).1,0)]).length sk),by simp only;omega,hsub,by simp only;omega,by simp only [List.length_append,List.length_singleton];omega⟩ a w (hw) F HK)
    · rw [subsG_end (by exact Or.inr hw)] at hsub
      subst hsub;refine en_fact (p:=∃ a k,v=.slice a acc.length k) (fun w h=>by obtain ⟨a,k,h1,_⟩:=own_form (is_at h 0 (c:=rowO 112 2 v acc.length (subCells acc)) rfl);exact ⟨a,k,h1⟩) ?_;rintro ⟨a,k,rfl⟩;refine en (EF [(.bool (decide ((((((bB e.1)).size:Int)):Int) > 0)),.bool true),(.bool (decide ((((((bB e.1)).size:Int)):Int) < (was:Int))),.bool false)] ⟨dcT (by omega),dcF (by omega),trivial⟩) (.c::.b 2 0::eC 3 (.b 2 0::eC 6 (.b 0 0::.c::.f 0::eC 5 [.b 0 0,.c,.c,.f 1,.c,.b 2 0,.s 1 0]))) ?_;subst hz;exact en_rets (a,k) [] [0] [1]
  have h8_10:=h8;clear h8;rw [if_neg h9,if_neg (show ¬ (t=8∨t=10) by omega)] at hz;refine en (EF [(.bool ((((t:Int)):Int) == 1),.bool false),(.bool ((((t:Int)):Int) == 2),.bool false),(.bool ((((t:Int)):Int) == 3),.bool false),(.bool ((((t:Int)):Int) == 12),.bool false),(.bool ((((t:Int)):Int) == 13),.bool false),(.bool ((((t:Int)):Int) == 14),.bool false)] ⟨eqI' (by omega),eqI' (by omega),eqI' (by omega),eqI' (by omega),eqI' (by omega),eqI' (by omega),trivial⟩) [.f 0,.c,.f 1,.c,.f 2,.c,.f 3,.c,.f 4,.c,.f 5,.c,.c] ?_;refine en_spec0 (r5_word (x:=X) (L,false)) [1] [] [] ?_;have hl1w:=word_len (L,false);simp only at hl1w
  have hsw:(bB (wordR (L,false)).2.1).size=(wordR (L,false)).2.1.length:=rfl;refine en (EF [(.int .u16 (IntKind.u16.wrap (((wordR (L,false)).1:Int))),.int .u16 ((wordR (L,false)).1:Int)),(.bool ((((t:Int)):Int) == 9),.bool false),(.int .i64 (IntKind.i64.wrap ((((bB (wordR (L,false)).2.1).size):Int)+1)),.int .i64 ((((bB (wordR (L,false)).2.1).size)+1:Nat):Int))] ⟨cW (word_lt _),eqI' (by omega),addI (by omega),trivial⟩) (.f 0::.c::.s 2 4::.c::.b 2 0::.f 1::eC 3 [.b 0 0,.c,.f 2,.c]) ?_;refine en_loopP (codeOf Tryz.f104) [1,1,1,0,1,0,1,1,1,1,1,1,1,1,1,1,1,0] [1,1,1,0,1,0,1,1,1,1,1,1,1,1,1,1,1,0,0] [] (α:=Unit) (fun _=>0) (fun _=>[(5,.pointer (some ⟨X,0,none⟩)),(6,.pointer (some ⟨P,0,none⟩)),(4,.pointer (some ⟨R,0,none⟩))]) (fun _=>[⟨X,[.string (bB (wordR (L,false)).2.1)],173⟩,⟨R,(pkV Pk.zero none 0).toList,33⟩,⟨P,[.int .u8 (t:Int),.bool false,.int .u8 0,.bool false,.int .u16 ((wordR (L,false)).1:Int),.string ⟨#[]⟩,.string ⟨#[]⟩,.int .u8 0,.bool false,.int .u16 0,.string ⟨#[]⟩,.bool false,.string ⟨#[]⟩,.string ⟨#[]⟩,.int .u8 0,.bool false,.bool false,.bool false,.string ⟨#[]⟩,.string ⟨#[]⟩,.bool false,.int .u8 0,.slice none 0 0,.string ⟨#[]⟩],33⟩]) (fun _=>many []) () (by kernel_rfl) ?_;intro _ J HJ;refine en (EF [(.bool ((((t:Int)):Int) == 8),.bool false),(.bool ((((t:Int)):Int) == 10),.bool false)] ⟨eqI' (by omega),eqI' (by omega),trivial⟩) (.c::.b 2 0::.f 0::.c::.c::.b 2 0::.f 1::eC 18 [.b 2 0,.s 1 0]) ?_;subst hz;refine en_row0 112 2 ?_;exact en_rets (none,0) [] [0] [1]
end Go.Proofs.YtehpihmgjbmoaaaGreatDoor
