import Derived.Test.YtehpihmgjbmoaaaGreatDoorJoinSR
import Derived.Test.YtehpihmgjbmoaaaGreatDoorJoinE
import Derived.Test.YtehpihmgjbmoaaaGreatDoorReadDec
namespace Go.Proofs.YtehpihmgjbmoaaaGreatDoor
open Go.RowKit
attribute [local irreducible] Ok
def frL (m:Nat) (v:Value) (e:Nat):List Value:=[.int .i64 (m:Int),v,.int .i64 (e:Int)]
def byC (v:Value) (L:Bs):Chk:=rowO 5 1 v L.length (u8V L)
def frC (x m:Nat) (v:Value) (L:Bs) (e:Nat):Chk:=many [boxC ⟨x,frL m v e,114⟩,byC v L]
theorem by_form {w:World} {v:Value} {L:Bs} (h:(byC v L).is w):(v=.slice none 0 0∧L=[])∨∃ g c,v=.slice (some ⟨g,0,none⟩) L.length c∧L.length≤c∧c < 9223372036854775808∧CellsA w (some ⟨g,0,none⟩) (u8V L):=by
  have h0:w.ownsRow 0 5 1 v L.length (u8V L):=h;rcases h0.2 with ⟨h1,h2⟩ | ⟨g,cap,cur,h1,_,_,h3,h4,_⟩
  · exact Or.inl ⟨h1,List.eq_nil_of_length_eq_zero h2⟩
  · subst h1
    exact Or.inr ⟨g,cap,rfl,h3,(by unfold maxLen at h4;omega),own_cells h0⟩
theorem by_sub {w:World} {g c:Nat} {L:Bs} (h:CellsA w (some ⟨g,0,none⟩) (u8V L)) (i k:Nat):CellsA w (some ⟨g,i,none⟩) (u8V ((L.drop i).take k)):=fun j v hv=>by
  unfold u8V at hv;rw [List.getElem?_map,List.getElem?_take] at hv;split at hv
  · rw [List.getElem?_drop] at hv
    obtain ⟨b,o,e,hc⟩:=h (i+j) v (by unfold u8V;rw [List.getElem?_map];exact hv);injection e with e
    injection e with e1 e2
    subst e1 e2;exact ⟨_,_,rfl,by rw [Nat.zero_add] at hc;exact hc⟩
  · cases hv
theorem wrN {x:Int} {k:Nat} (h:x=(k:Int)) (hk:k≤4000000000):Value.int .i64 (IntKind.i64.wrap x)=.int .i64 (k:Int):=by
  congr 1;rw [IntKind.wrap_i64];omega
theorem range_one {w:World} {g:Nat} {vs:List Value} (h:CellsA w (some ⟨g,0,none⟩) vs) (j:Nat) (v:Value) (hv:vs[j]? = some v):w.rangeAt g j [v]:=fun k u hu=>by
  cases k with
  | zero =>
    simp only [List.getElem?_cons_zero,Option.some.injEq] at hu;subst hu;obtain ⟨b,o,e,hc⟩:=h j v hv;injection e with e
    injection e with e1 e2
    subst e1 e2;rw [Nat.zero_add] at hc;exact hc
  | succ k=>simp at hu
def s2T (v lo hi:Value) (ty:TypeId):Sem Next:=opT [v,lo,hi] (.slice 22 (.tmp 0) (some (.tmp 1)) (some (.tmp 2)) none) ty
theorem s2_run {w:World} {g n c lo hi:Nat} (h1:lo≤hi) (h2:hi≤c) (hc:c < 9223372036854775808) (ty:TypeId):∃ o1,(o1=if c=lo then 0 else lo)∧(s2T (.slice (some ⟨g,0,none⟩) n c) (.int .i64 (lo:Int)) (.int .i64 (hi:Int)) ty).run Tryz.prog w=.ok (.value (.slice (some ⟨g,o1,none⟩) (hi - lo) (c - lo))) w:=by
  refine ⟨_,rfl,?_⟩;unfold s2T opT;unfold execOp;have e0:∀ l,known (numL 0 (.slice (some ⟨g,0,none⟩) n c::l)) (.tmp 0)=.slice (some ⟨g,0,none⟩) n c:=fun _=>rfl
  have e1:∀ x y l,known (numL 0 (x::y::l)) (.tmp 1)=y:=fun _ _ _=>rfl
  have e2:∀ x y z l,known (numL 0 (x::y::z::l)) (.tmp 2)=z:=fun _ _ _ _=>rfl
  go_simp;by_cases h:c=lo
  · rw [if_pos h,if_pos h]
  · rw [if_neg h,if_neg h]
def slT (v lo:Value) (ty:TypeId):Sem Next:=opT [v,lo] (.slice 22 (.tmp 0) (some (.tmp 1)) none none) ty
theorem sl_run {w:World} {g n c lo:Nat} (h1:lo≤n) (h2:n≤c) (hc:c < 9223372036854775808) (ty:TypeId):∃ o1,(o1=if c=lo then 0 else lo)∧(slT (.slice (some ⟨g,0,none⟩) n c) (.int .i64 (lo:Int)) ty).run Tryz.prog w=.ok (.value (.slice (some ⟨g,o1,none⟩) (n - lo) (c - lo))) w:=by
  refine ⟨_,rfl,?_⟩;unfold slT opT;unfold execOp;have e0:∀ l,known (numL 0 (.slice (some ⟨g,0,none⟩) n c::l)) (.tmp 0)=.slice (some ⟨g,0,none⟩) n c:=fun _=>rfl
  have e1:∀ x y l,known (numL 0 (x::y::l)) (.tmp 1)=y:=fun _ _ _=>rfl
  go_simp;by_cases h:c=lo
  · rw [if_pos h,if_pos h]
  · rw [if_neg h,if_neg h]
def shT (v hi:Value) (ty:TypeId):Sem Next:=opT [v,hi] (.slice 22 (.tmp 0) none (some (.tmp 1)) none) ty
theorem sh_run {w:World} {g n c hi:Nat} (h2:hi≤c) (hc:c < 9223372036854775808) (ty:TypeId):(shT (.slice (some ⟨g,0,none⟩) n c) (.int .i64 (hi:Int)) ty).run Tryz.prog w=.ok (.value (.slice (some ⟨g,0,none⟩) hi c)) w:=by
  unfold shT opT;unfold execOp;have e0:∀ l,known (numL 0 (.slice (some ⟨g,0,none⟩) n c::l)) (.tmp 0)=.slice (some ⟨g,0,none⟩) n c:=fun _=>rfl
  have e1:∀ x y l,known (numL 0 (x::y::l)) (.tmp 1)=y:=fun _ _ _=>rfl
  go_simp
def mnT (a b:Value) (ty:TypeId):Sem Next:=opT [a,b] (.call { callee:=.builtin .min,args:=#[.tmp 0,.tmp 1],argTypes:=#[3,3] }) ty
theorem mn_run {w:World} (a b:Nat) (ty:TypeId):(mnT (.int .i64 (a:Int)) (.int .i64 (b:Int)) ty).run Tryz.prog w=.ok (.value (.int .i64 ((min a b:Nat):Int))) w:=by
  unfold mnT opT;unfold execOp;have e0:∀ x l,known (numL 0 (x::l)) (.tmp 0)=x:=fun _ _=>rfl
  have e1:∀ x y l,known (numL 0 (x::y::l)) (.tmp 1)=y:=fun _ _ _=>rfl
  go_simp;omega
set_option maxRecDepth 100000 in
set_option maxHeartbeats 4000000 in
theorem frame_NewS {wb:World} (m:Nat) (h1:16≤m) (h2:m≤65536):Spec Tryz.prog wb 35 #[.int .i64 (m:Int)] [] [] (fun x:Nat=>.pointer (some ⟨x,0,none⟩)) (fun _=>[]) (fun x=>[frC x m (.slice none 0 0) [] 0]):=by
  intro w H;refine en_call Tryz.func35 H ?_;refine en1 (EF [(.bool (decide ((((m:Int)):Int) < 16)),.bool false),(.bool (decide ((((m:Int)):Int) > 65536)),.bool false)] ⟨dcF (by omega),dcF (by omega),trivial⟩) (.c::.c::.f 0::.c::.c::.f 1::eC 3 [.x,.c]) fun x=>?_
  refine en_row0 5 1 ?_;refine en_shut 0 ⟨x,frL m (.slice none 0 0) 0,114⟩ ?_;refine en_pack [0,0] (frC x m (.slice none 0 0) [] 0) _ ?_;exact en_rets x [] [0] []
set_option maxRecDepth 100000 in
set_option maxHeartbeats 4000000 in
theorem frame_PushS {wb:World} {x m:Nat} {v:Value} {L:Bs} (hm:0 < m) (s:ByteArray) (hs:L.length+s.size≤300000000):Spec Tryz.prog wb 37 #[.pointer (some ⟨x,0,none⟩),.string s] [] [frC x m v L 0] (fun _:Value=>.tuple #[]) (fun _=>[]) (fun y=>[frC x m y (L++bl s) 0]):=by
  intro w H;refine en_call Tryz.func37 H ?_;obtain ⟨i0,hi,hz0,hz1,hz2⟩:=info_parts infoU8;refine en_unpack 0 (frC x m v L 0) _ ?_;refine en_open 0 ⟨x,frL m v 0,114⟩ ?_;refine en (EF [(.bool (decide ((((m:Int)):Int) > 0)),.bool true)] ⟨dcT (by omega),trivial⟩) (eC 6 (.b 0 0::.f 0::eC 5 (.b 0 2::eC 6 [.b 0 1,.c]))) ?_;refine en_ops (ops_aps 22 9 22 5 i0 Tryz.underlying22 Tryz.underlying9 hi hz0 hz1 hz2 (v:=v) (n:=L.length) (xs:=u8V L) s (by unfold maxLen;omega) (by omega)) [] [0] [] (fun v'=>?_);have e1:u8V L++Lib.strCells s=u8V (L++bl s):=by rw [u8V_append];rfl
  have e2:L.length+s.size=(L++bl s).length:=by rw [List.length_append];rfl
  rw [e1,e2];refine en_fact (p:=∃ a2 c2,v'=.slice a2 (L++bl s).length c2) (fun w h=>by obtain ⟨a,c,h1,_⟩:=own_form (is_at h 0 (c:=rowO 5 1 v' (L++bl s).length (u8V (L++bl s))) rfl);exact ⟨a,c,h1⟩) ?_;rintro ⟨a2,c2,rfl⟩;refine en E0 [.c,.c,.s 0 1] ?_;refine en_shut 0 ⟨x,frL m (.slice a2 (L++bl s).length c2) 0,114⟩ ?_;refine en_pack [0,0] (frC x m (.slice a2 (L++bl s).length c2) (L++bl s) 0) _ ?_;exact en_rets (.slice a2 (L++bl s).length c2) [] [0] []
set_option maxRecDepth 100000 in
set_option maxHeartbeats 4000000 in
theorem frame_wholeG {w:World} (hE:Env w) {x m e:Nat} {v:Value} {L:Bs} (hb:BoxAt w x (frL m v e).toArray 114) (hr:(byC v L).is w) (hL:L.length≤90000000):Calls Tryz.prog 60 #[.pointer (some ⟨x,0,none⟩)] w fun r w'=>r=.returned (.tuple #[.int .i64 ((wholeR m L).1:Int),.int .i64 ((wholeR m L).2:Int)])∧Below w.heap.size w w':=by
  refine rdc_of hE ?_;obtain ⟨y,hy⟩:∃ y,wholeR m L=y:=⟨_,rfl⟩
  rw [hy];have HB:=fun w' (h:Below w.heap.size w w')=>((hb.below h).range:w'.rangeAt x 0 (frL m v e))
  clear hb;intro w2 H;refine en_call Tryz.func60 H ?_;clear H hE;rcases by_form hr with ⟨rfl,rfl⟩ | ⟨g,c,rfl,hlc,hcc,hc⟩
  · refine en (EO [⟨x,0,frL m (.slice none 0 0) e⟩] (fun _ _ h=>⟨HB _ h.hp.low,trivial⟩) [] trivial) (eC 5 (.l 0 1::eC 4 [])) ?_
    subst hy;exact en_rets () [] [] []
  · clear hr
    cases L with
    | nil =>
      refine en (EO [⟨x,0,frL m (.slice (some ⟨g,0,none⟩) ([]:Bs).length c) e⟩] (fun _ _ h=>⟨HB _ h.hp.low,trivial⟩) [] trivial) (eC 5 (.l 0 1::eC 4 [])) ?_;subst hy;exact en_rets () [] [] []
    | cons b t =>
      have hb2:=b.toNat_lt;have hl:(b::t).length=t.length+1:=rfl;have HB0:=fun w' (h:Below w.heap.size w w')=>(range_one (hc.below h) 0 (.int .u8 (b.toNat:Int)) rfl:w'.rangeAt g 0 [.int .u8 (b.toNat:Int)])
      cases hfo:firstOk b.toNat
      · refine en ⟨⟨[⟨x,0,frL m (.slice (some ⟨g,0,none⟩) (b::t).length c) e⟩,⟨g,0,[.int .u8 (b.toNat:Int)]⟩],[]⟩,[(.bool (((((b::t).length:Int)):Int) == 0),.bool false)],[⟨some ⟨g,0,none⟩,(b::t).length,c,.i64,0,1,⟨g,0,none⟩⟩],[⟨78,#[.int .u8 (b.toNat:Int)],.bool false,[],[]⟩],fun _ _ h=>⟨⟨HB _ h.hp.low,HB0 _ h.hp.low,trivial⟩,trivial⟩,⟨eqI' (by omega),trivial⟩,⟨⟨g,0,0,rfl,rfl,by simp,rfl⟩,trivial⟩,⟨fun _ w _ _=>Calls.mono (read_First b.toNat hb2 w) (by rintro e w' ⟨rfl,rfl⟩;exact ⟨by rw [hfo],Below.refl _ _⟩),trivial⟩⟩ (eC 5 (.l 0 1::.c::.f 0::eC 3 (.l 0 1::.i 0::.l 1 0::.k 0::eC 3 []))) ?_
        have e1:y=(0,4):=by rw [← hy];simp only [wholeR];rw [if_pos hfo]
        subst e1;exact en_rets () [] [] []
      · have hle:=hlc
        rcases hlr:lenR t with ⟨n,u,e2⟩
        have hRL:=num_ReadLenG (bB (t.take 5));rw [bl_bB,lenR_take t 5 (by omega),hlr] at hRL;have HRL:Pur Tryz.prog 79 #[.string (bB (t.take 5))] (.tuple #[.int .i64 (n:Int),.int .i64 (u:Int),.int .i64 (e2:Int)]):=fun w _=>Calls.mono (num_ReadLenG (bB (t.take 5)) w) (by rw [bl_bB,lenR_take t 5 (by omega),hlr];rintro e w' ⟨rfl,rfl⟩;exact ⟨rfl,Below.refl _ _⟩)
        have hnu:n≤268435455∧u≤4:=by
          by_cases he:e2=0
          · subst he
            have:=lenR_inv hlr;omega
          · have h1:=lenRf_zero 4 1 0 0 t (by show (lenR t).2.2≠0;rw [hlr];exact he)
            have h2:(lenR t).1=0∧(lenR t).2.1=0:=h1;rw [hlr] at h2;simp only at h2
            omega
        have hcb:c < 9223372036854775808:=hcc;obtain ⟨o1,ho1,_⟩:=s2_run (w:=w) (g:=g) (n:=(b::t).length) (c:=c) (lo:=1) (hi:=min (b::t).length 6) (by omega) (by omega) hcb 0;have HS2:∀ (w:World),(s2T (.slice (some ⟨g,0,none⟩) (b::t).length c) (.int .i64 (1:Int)) (.int .i64 ((min (b::t).length 6:Nat):Int)) 22).run Tryz.prog w=.ok (.value (.slice (some ⟨g,o1,none⟩) (min (b::t).length 6 - 1) (c - 1))) w:=fun w=>by
          obtain ⟨o2,ho2,h2⟩:=s2_run (w:=w) (g:=g) (n:=(b::t).length) (c:=c) (lo:=1) (hi:=min (b::t).length 6) (by omega) (by omega) hcb 22;rw [ho1,← ho2];exact h2
        have HCV:∀ (w':World),Below w.heap.size w w'→(cvT (.slice (some ⟨g,o1,none⟩) (min (b::t).length 6 - 1) (c - 1)) 9).run Tryz.prog w'=.ok (.value (.string (bB (t.take 5)))) w':=fun w' h=>cv_run (by rw [List.length_take];omega) (by
          by_cases hc1:c=1
          · have ht:t.take 5=[]:=List.eq_nil_of_length_eq_zero (by rw [List.length_take];omega)
            rw [ht];exact CellsA.nil _ _
          · rw [if_neg hc1] at ho1
            rw [ho1];exact by_sub (c:=c) (hc.below h) 1 5) _
        clear hRL;refine en ⟨⟨[⟨x,0,frL m (.slice (some ⟨g,0,none⟩) (b::t).length c) e⟩,⟨g,0,[.int .u8 (b.toNat:Int)]⟩],[]⟩,[(.bool (((((b::t).length:Int)):Int) == 0),.bool false)],[⟨some ⟨g,0,none⟩,(b::t).length,c,.i64,0,1,⟨g,0,none⟩⟩],[⟨78,#[.int .u8 (b.toNat:Int)],.bool true,[],[]⟩],fun _ _ h=>⟨⟨HB _ h.hp.low,HB0 _ h.hp.low,trivial⟩,trivial⟩,⟨eqI' (by omega),trivial⟩,⟨⟨g,0,0,rfl,rfl,by simp,rfl⟩,trivial⟩,⟨fun _ w _ _=>Calls.mono (read_First b.toNat hb2 w) (by rintro e w' ⟨rfl,rfl⟩;exact ⟨by rw [hfo],Below.refl _ _⟩),trivial⟩⟩ (eC 5 (.l 0 1::.c::.f 0::eC 3 [.l 0 1,.i 0,.l 1 0,.k 0,.c])) ?_;refine en ⟨⟨[⟨x,0,frL m (.slice (some ⟨g,0,none⟩) (b::t).length c) e⟩],[(mnT (.int .i64 ((b::t).length:Int)) (.int .i64 6) 3,.int .i64 ((min (b::t).length 6:Nat):Int)),(s2T (.slice (some ⟨g,0,none⟩) (b::t).length c) (.int .i64 1) (.int .i64 ((min (b::t).length 6:Nat):Int)) 22,.slice (some ⟨g,o1,none⟩) (min (b::t).length 6 - 1) (c - 1)),(cvT (.slice (some ⟨g,o1,none⟩) (min (b::t).length 6 - 1) (c - 1)) 9,.string (bB (t.take 5)))]⟩,[(.int .i64 (IntKind.i64.wrap (1+(u:Int))),.int .i64 ((1+u:Nat):Int)),(.int .i64 (IntKind.i64.wrap (((1+u:Nat):Int)+(n:Int))),.int .i64 ((1+u+n:Nat):Int))],[],[⟨79,#[.string (bB (t.take 5))],.tuple #[.int .i64 (n:Int),.int .i64 (u:Int),.int .i64 (e2:Int)],[],[]⟩],fun _ _ h=>⟨⟨HB _ h.hp.low,trivial⟩,⟨mn_run _ 6 _,HS2 _,HCV _ h.hp.low,trivial⟩⟩,⟨wrN (by omega) (by omega),wrN (by omega) (by omega),trivial⟩,trivial,⟨HRL.cs,trivial⟩⟩ [.g [] 1000 true,.d (eN 0 (eC 3 (.l 0 1::eC 3 [.l 0 1,.c,.r 0,.r 1,.r 2]))),.k 0,.d (eN 13 (eC 7 [])),.c,.f 0,.c,.f 1,.c,.c] ?_;by_cases he:e2=2
        · refine en (EF [(.bool ((((e2:Int)):Int) == 2),.bool true)] ⟨eqI (by omega),trivial⟩) (.f 0::eC 3 []) ?_
          have e1:y=(0,0):=by rw [← hy];simp only [wholeR];rw [if_neg (by rw [hfo];decide),hlr];simp only;rw [if_pos he]
          subst e1;exact en_rets () [] [] []
        by_cases h0:e2=0
        · by_cases h3:m < 1+u+n
          · refine en (EO [⟨x,0,frL m (.slice (some ⟨g,0,none⟩) (b::t).length c) e⟩] (fun _ _ h=>⟨HB _ h.hp.low,trivial⟩) [(.bool ((((e2:Int)):Int) == 2),.bool false),(.bool ((((e2:Int)):Int) != 0),.bool false),(.bool (decide (((((1+u+n:Nat):Int)):Int) > (m:Int))),.bool true)] ⟨eqI' (by omega),neI' (by omega),dcT (by omega),trivial⟩) (.f 0::.c::.c::.f 1::eC 5 (.l 0 0::.f 2::eC 3 [])) ?_
            have e1:y=(0,3):=by rw [← hy];simp only [wholeR];rw [if_neg (by rw [hfo];decide),hlr];simp only;rw [if_neg he,if_neg (by omega:¬ e2≠0)];rw [if_pos h3]
            subst e1;exact en_rets () [] [] []
          by_cases h4:t.length+1 < 1+u+n
          · refine en (EO [⟨x,0,frL m (.slice (some ⟨g,0,none⟩) (b::t).length c) e⟩] (fun _ _ h=>⟨HB _ h.hp.low,trivial⟩) [(.bool ((((e2:Int)):Int) == 2),.bool false),(.bool ((((e2:Int)):Int) != 0),.bool false),(.bool (decide (((((1+u+n:Nat):Int)):Int) > (m:Int))),.bool false),(.bool (decide (((((1+u+n:Nat):Int)):Int) > ((b::t).length:Int))),.bool true)] ⟨eqI' (by omega),neI' (by omega),dcF (by omega),dcT (by omega),trivial⟩) (.f 0::.c::.c::.f 1::eC 5 (.l 0 0::.f 2::eC 5 (.l 0 1::.c::.f 3::eC 3 []))) ?_
            have e1:y=(0,0):=by rw [← hy];simp only [wholeR];rw [if_neg (by rw [hfo];decide),hlr];simp only;rw [if_neg he,if_neg (by omega:¬ e2≠0)];rw [if_neg h3,if_pos h4]
            subst e1;exact en_rets () [] [] []
          refine en (EO [⟨x,0,frL m (.slice (some ⟨g,0,none⟩) (b::t).length c) e⟩] (fun _ _ h=>⟨HB _ h.hp.low,trivial⟩) [(.bool ((((e2:Int)):Int) == 2),.bool false),(.bool ((((e2:Int)):Int) != 0),.bool false),(.bool (decide (((((1+u+n:Nat):Int)):Int) > (m:Int))),.bool false),(.bool (decide (((((1+u+n:Nat):Int)):Int) > ((b::t).length:Int))),.bool false)] ⟨eqI' (by omega),neI' (by omega),dcF (by omega),dcF (by omega),trivial⟩) (.f 0::.c::.c::.f 1::eC 5 (.l 0 0::.f 2::eC 5 (.l 0 1::.c::.f 3::eC 4 []))) ?_;have e1:y=(1+u+n,0):=by rw [← hy];simp only [wholeR];rw [if_neg (by rw [hfo];decide),hlr];simp only;rw [if_neg he,if_neg (by omega:¬ e2≠0)];rw [if_neg h3,if_neg h4]
          subst e1;exact en_rets () [] [] []
        refine en (EF [(.bool ((((e2:Int)):Int) == 2),.bool false),(.bool ((((e2:Int)):Int) != 0),.bool true)] ⟨eqI' (by omega),neI (by omega),trivial⟩) (.f 0::.c::.c::.f 1::eC 4 []) ?_;have e1:y=(0,e2):=by rw [← hy];simp only [wholeR];rw [if_neg (by rw [hfo];decide),hlr];simp only;rw [if_neg he,if_pos h0]
        subst e1;exact en_rets () [] [] []
def nxT (m:Nat) (L:Bs) (e:Nat):Pk × Bool × Nat × Bs × Nat :=
  if e≠0 then (Pk.zero,false,e,L,e) else match nextR m L with
    | (some p,t,_)=>(p,true,0,t,0)
    | (none,t,e2)=>(Pk.zero,false,e2,t,e2)
theorem sl_row {w:World} {v:Value} {L:Bs} {n:Nat} (h:(byC v L).is w) (hn:n≤L.length) (ty:TypeId):∃ A c,(A=none→c=0)∧(∀ w,(slT v (.int .i64 (n:Int)) ty).run Tryz.prog w=.ok (.value (.slice A (L.drop n).length c)) w)∧∀ w,(byC v L).is w→CellsA w A (u8V (L.drop n)):=by
  rcases by_form h with ⟨rfl,rfl⟩ | ⟨g,c,rfl,hlc,hcc,hc⟩
  · have hn0:n=0:=by simp at hn;omega
    subst hn0;refine ⟨none,0,fun _=>rfl,fun w=>?_,fun w _=>CellsA.nil _ _⟩;unfold slT opT;unfold execOp;have e0:∀ l,known (numL 0 (.slice none 0 0::l)) (.tmp 0)=.slice none 0 0:=fun _=>rfl
    have e1:∀ x y l,known (numL 0 (x::y::l)) (.tmp 1)=y:=fun _ _ _=>rfl
    go_simp
  · obtain ⟨o1,h1,_⟩:=sl_run (w:=w) (g:=g) hn hlc hcc ty
    refine ⟨some ⟨g,o1,none⟩,c - n,fun h=>(by cases h),fun w=>?_,fun w hw=>?_⟩
    · obtain ⟨o2,h2,h3⟩:=sl_run (w:=w) (g:=g) hn hlc hcc ty
      rw [h1,← h2,List.length_drop];exact h3
    · by_cases h2:c=n
      · have ht:L.drop n=[]:=List.drop_eq_nil_of_le (by omega)
        rw [ht];exact CellsA.nil _ _
      · rw [if_neg h2] at h1
        rw [h1];have h4:=by_sub (c:=c) (own_cells (show w.ownsRow 0 5 1 _ L.length (u8V L) from hw)) n L.length;rwa [List.take_of_length_le (by rw [List.length_drop];omega)] at h4
theorem sh_row {w:World} {v:Value} {L:Bs} {n:Nat} (h:(byC v L).is w) (hn:n≤L.length) (h0:n≠0) (ty:TypeId):∃ A c,(∀ w,(shT v (.int .i64 (n:Int)) ty).run Tryz.prog w=.ok (.value (.slice A n c)) w)∧∀ w,(byC v L).is w→CellsA w A (u8V (L.take n)):=by
  rcases by_form h with ⟨rfl,rfl⟩ | ⟨g,c,rfl,hlc,hcc,hc⟩
  · simp at hn;omega
  · refine ⟨some ⟨g,0,none⟩,c,fun w=>sh_run (by omega) hcc ty,fun w hw=>?_⟩
    have h4:=by_sub (c:=c) (own_cells (show w.ownsRow 0 5 1 _ L.length (u8V L) from hw)) 0 n;rwa [List.drop_zero] at h4
set_option maxRecDepth 100000 in
set_option maxHeartbeats 4000000 in
theorem frame_NextS {wb:World} {x m e:Nat} {v:Value} {L:Bs} (hm:0 < m) (hL:L.length≤90000000):Spec Tryz.prog wb 40 #[.pointer (some ⟨x,0,none⟩)] [] [frC x m v L e] (fun y:Value × Option Addr × Nat=>.tuple #[.agg (pkV (nxT m L e).1 y.2.1 y.2.2),.bool (nxT m L e).2.1,.int .i64 ((nxT m L e).2.2.1:Int)]) (fun _=>[]) (fun y=>[frC x m y.1 (nxT m L e).2.2.2.1 (nxT m L e).2.2.2.2,sbC ((nxT m L e).1,y.2)]):=by
  obtain ⟨z,hz⟩:∃ z,nxT m L e=z:=⟨_,rfl⟩
  rw [hz];intro w H;refine en_call Tryz.func40 H ?_;refine en_unpack 0 (frC x m v L e) _ ?_;refine en_open 0 ⟨x,frL m v e,114⟩ ?_;by_cases he:e≠0
  · refine en1 (EF [(.bool ((((m:Int)):Int) == 0),.bool false),(.bool ((((e:Int)):Int) != 0),.bool true)] ⟨eqI' (by omega),neI (by omega),trivial⟩) (.n::eC 8 (.b 0 0::.f 0::eC 5 [.b 0 2,.f 1,.c,.g [(0,2,1)] 1000 false,.d (eN 0 (eC 4 [.l 0 0])),.s 1 0,.d (eN 6 [.c,.c])])) fun V=>?_
    have eq1:z=(Pk.zero,false,e,L,e):=by rw [← hz];unfold nxT;rw [if_pos he]
    clear hz;have hz:=eq1.symm;refine en_new0 (sbC (Pk.zero,none,0)) ?_ (fun w=>World.ownsRow_nil w 0 _ _) (fun j h=>by cases h);refine en_shut 0 ⟨x,frL m (v) e,114⟩ ?_;refine en_pack [0,1] (frC x m (v) (L) e) _ ?_;subst hz;exact en_rets (v,none,0) [] [0,0] [0]
  have he0:e=0:=by omega
  subst he0;rcases hw:wholeR m L with ⟨n,e1⟩
  obtain ⟨hle,hpos⟩:=whole_le (m:=m) (L:=L);rw [hw] at hle hpos;simp only at hle hpos
  by_cases he1:e1≠0
  · refine en1 (EK [(.bool ((((m:Int)):Int) == 0),.bool false),(.bool ((((0:Int)):Int) != 0),.bool false),(.bool ((((e1:Int)):Int) == 0),.bool false),(.bool ((((e1:Int)):Int) != 0),.bool true)] ⟨eqI' (by omega),neI' (by omega),eqI' (by omega),neI (by omega),trivial⟩ [⟨60,#[.pointer (some ⟨x,0,none⟩)],.tuple #[.int .i64 (n:Int),.int .i64 (e1:Int)],[0],[⟨x,frL m v 0,114⟩]⟩] ⟨fun B w h hb=>Calls.mono (frame_wholeG h.hp.env (h.bx hb (x:=⟨x,frL m v 0,114⟩) (by simp)) (is_at h.hp.is 0 (c:=byC v L) rfl) hL) (by rw [hw];exact fun _ _ h=>h),trivial⟩) (.n::eC 8 (.b 0 0::.f 0::eC 5 (.b 0 2::.f 1::.c::.c::.k 0::eC 6 (.f 2::eC 5 (.f 3::eC 4 (.s 0 2::eC 3 [.s 0 1,.c,.c,.s 1 0,.c,.c])))))) fun V=>?_
    refine en_drop [0,0] [] ?_;refine en_new0 (byC (.slice none 0 0) []) ?_ (fun w=>World.ownsRow_nil w 0 _ _) (fun j h=>by cases h);have eq1:z=(Pk.zero,false,e1,[],e1):=by rw [← hz];unfold nxT;rw [if_neg (by simp)];unfold nextR;rw [hw];simp only;rw [if_pos he1]
    clear hz;have hz:=eq1.symm;refine en_new0 (sbC (Pk.zero,none,0)) ?_ (fun w=>World.ownsRow_nil w 0 _ _) (fun j h=>by cases h);refine en_shut 0 ⟨x,frL m (.slice none 0 0) e1,114⟩ ?_;refine en_pack [0,1] (frC x m (.slice none 0 0) ([]) e1) _ ?_;subst hz;exact en_rets (.slice none 0 0,none,0) [] [0,0] [0]
  have he2:e1=0:=by omega
  subst he2;by_cases hn:n=0
  · subst hn
    obtain ⟨i0,hi0,hz0,hz1,hz2⟩:=info_parts infoU8;refine en_fact (p:=∃ A c,(A=none→c=0)∧(∀ w,(slT v (.int .i64 ((0:Nat):Int)) 22).run Tryz.prog w=.ok (.value (.slice A (L.drop 0).length c)) w)∧∀ w,(byC v L).is w→CellsA w A (u8V (L.drop 0))) (fun w h=>sl_row (is_at h 0 (c:=byC v L) rfl) (by omega) _) ?_;rintro ⟨A,c,hA,hS,hC⟩;refine en1 ⟨⟨[],[(slT v (.int .i64 (0:Int)) 22,.slice A (L.drop 0).length c)]⟩,[(.bool ((((m:Int)):Int) == 0),.bool false),(.bool ((((0:Int)):Int) != 0),.bool false),(.bool ((((0:Int)):Int) == 0),.bool true),(.bool (decide (((((0:Nat):Int)):Int) > 0)),.bool false),(.bool ((((0:Int)):Int) != 0),.bool false)],[],[⟨60,#[.pointer (some ⟨x,0,none⟩)],.tuple #[.int .i64 ((0:Nat):Int),.int .i64 (0:Int)],[0],[⟨x,frL m v 0,114⟩]⟩],fun _ _ h=>⟨trivial,⟨hS _,trivial⟩⟩,⟨eqI' (by omega),neI' (by omega),eqI (rfl),dcF (by omega),neI' (rfl),trivial⟩,trivial,⟨fun B w h hb=>Calls.mono (frame_wholeG h.hp.env (h.bx hb (x:=⟨x,frL m v 0,114⟩) (by simp)) (is_at h.hp.is 0 (c:=byC v L) rfl) hL) (by rw [hw];exact fun _ _ h=>h),trivial⟩⟩ (.n::eC 8 (.b 0 0::.f 0::eC 5 (.b 0 2::.f 1::.c::.c::.k 0::eC 6 (.f 2::.c::.c::.f 3::.c::.c::.f 4::eC 4 [.b 0 1,.c,.r 0])))) fun V=>?_
    refine en_ops (ops_sub 22 22 5 i0 _ Tryz.underlying22 hi0 hz0 (by rw [hz1];rfl) (by rw [hz1];decide) hz1.symm (v:=v) (n:=L.length) (xs:=u8V L) (A:=A) (m:=(L.drop 0).length) (c:=c) (news:=u8V (L.drop 0)) hA (by unfold u8V;rw [List.length_map,Nat.mul_one]) (fun w h=>hC w h) (u8V_one _) (by rw [List.length_drop];unfold maxLen;omega) (by rw [hz2,List.length_drop];omega)) [] [0] [] (fun v'=>?_);refine en_fact (p:=∃ a2 c2,v'=.slice a2 (L.drop 0).length c2) (fun w h=>by obtain ⟨a,c,h1,_⟩:=own_form (is_at h 0 (c:=rowO 5 1 v' (L.drop 0).length (u8V (L.drop 0))) rfl);exact ⟨a,c,h1⟩) ?_;rintro ⟨a2,c2,rfl⟩;refine en (EF [(.bool (decide (((((0:Nat):Int)):Int) > 0)),.bool false)] ⟨dcF (by omega),trivial⟩) [.c,.c,.s 0 1,.b 1 0,.c,.f 0,.s 1 0,.c,.c] ?_;have eq1:z=(Pk.zero,false,0,L.drop 0,0):=by rw [← hz];unfold nxT;rw [if_neg (by simp)];unfold nextR;rw [hw];simp only;rw [if_neg (by simp),if_pos trivial];rfl
    clear hz;have hz:=eq1.symm;refine en_drop [0,0] [0] ?_;refine en_new0 (sbC (Pk.zero,none,0)) ?_ (fun w=>World.ownsRow_nil w 0 _ _) (fun j h=>by cases h);refine en_shut 0 ⟨x,frL m (.slice a2 (L.drop 0).length c2) 0,114⟩ ?_;refine en_pack [0,1] (frC x m (.slice a2 (L.drop 0).length c2) (L.drop 0) 0) _ ?_;subst hz;exact en_rets (.slice a2 (L.drop 0).length c2,none,0) [] [0,0] [0]
  rcases hd:decR (L.take n) with ⟨p,n2,e2⟩
  have hpm:=(hpos hn).2.2;refine en_fact (p:=∃ A c,(∀ w,(shT v (.int .i64 (n:Int)) 22).run Tryz.prog w=.ok (.value (.slice A n c)) w)∧∀ w,(byC v L).is w→CellsA w A (u8V (L.take n))) (fun w h=>sh_row (is_at h 0 (c:=byC v L) rfl) hle hn _) ?_;rintro ⟨A0,c0,hS0,hC0⟩;refine en1 ⟨⟨[],[(shT v (.int .i64 (n:Int)) 22,.slice A0 n c0),(cvT (.slice A0 n c0) 9,.string (bB (L.take n)))]⟩,[(.bool ((((m:Int)):Int) == 0),.bool false),(.bool ((((0:Int)):Int) != 0),.bool false),(.bool ((((0:Int)):Int) == 0),.bool true),(.bool (decide ((((n:Int)):Int) > 0)),.bool true)],[],[⟨60,#[.pointer (some ⟨x,0,none⟩)],.tuple #[.int .i64 (n:Int),.int .i64 (0:Int)],[0],[⟨x,frL m v 0,114⟩]⟩],fun _ _ h=>⟨trivial,⟨hS0 _,cv_run (by rw [List.length_take];omega) (hC0 _ (is_at h.hp.is 0 (c:=byC v L) rfl)) 9,trivial⟩⟩,⟨eqI' (by omega),neI' (by omega),eqI (rfl),dcT (by omega),trivial⟩,trivial,⟨fun B w h hb=>Calls.mono (frame_wholeG h.hp.env (h.bx hb (x:=⟨x,frL m v 0,114⟩) (by simp)) (is_at h.hp.is 0 (c:=byC v L) rfl) hL) (by rw [hw];exact fun _ _ h=>h),trivial⟩⟩ (.n::eC 8 (.b 0 0::.f 0::eC 5 (.b 0 2::.f 1::.c::.c::.k 0::eC 6 (.f 2::.c::.c::.f 3::eC 4 [.b 0 1,.c,.r 0,.r 1])))) fun V=>?_
  refine en_spec (read_DecodeS (bB (L.take n)) (by rw [bB_size,List.length_take];omega) (p:=p) (u:=n2) (e:=e2) (by rw [bl_bB];exact hd)) [] [] [] (fun y=>?_);obtain ⟨a',c'⟩:=y;by_cases he2:e2≠0
  · refine en (EF [(.bool ((((e2:Int)):Int) != 0),.bool true)] ⟨neI (by omega),trivial⟩) (eC 4 (.s 1 0::.c::.c::.f 0::eC 4 (.s 0 2::eC 3 [.s 0 1,.c,.c,.s 1 0,.c,.c]))) ?_
    refine en_drop [0,0] [] ?_;refine en_new0 (byC (.slice none 0 0) []) ?_ (fun w=>World.ownsRow_nil w 0 _ _) (fun j h=>by cases h);have eq1:z=(Pk.zero,false,e2,[],e2):=by rw [← hz];unfold nxT;rw [if_neg (by simp)];unfold nextR;rw [hw];simp only;rw [if_neg (by simp),if_neg hn,hd,if_pos he2]
    clear hz;have hz:=eq1.symm;refine en_new0 (sbC (Pk.zero,none,0)) ?_ (fun w=>World.ownsRow_nil w 0 _ _) (fun j h=>by cases h);refine en_shut 0 ⟨x,frL m (.slice none 0 0) e2,114⟩ ?_;refine en_pack [0,1] (frC x m (.slice none 0 0) ([]) e2) _ ?_;subst hz;exact en_rets (.slice none 0 0,none,0) [] [0,0] [0]
  have he3:e2=0:=by omega
  subst he3;obtain ⟨i0,hi0,hz0,hz1,hz2⟩:=info_parts infoU8;refine en_fact (p:=∃ A c,(A=none→c=0)∧(∀ w,(slT v (.int .i64 ((n:Nat):Int)) 22).run Tryz.prog w=.ok (.value (.slice A (L.drop n).length c)) w)∧∀ w,(byC v L).is w→CellsA w A (u8V (L.drop n))) (fun w h=>sl_row (is_at h 1 (c:=byC v L) rfl) (by omega) _) ?_;rintro ⟨A,c,hA,hS,hC⟩;refine en ⟨⟨[],[(slT v (.int .i64 (n:Int)) 22,.slice A (L.drop n).length c)]⟩,[(.bool ((((0:Int)):Int) != 0),.bool false)],[],[],fun _ _ h=>⟨trivial,⟨hS _,trivial⟩⟩,⟨neI' (rfl),trivial⟩,trivial,trivial⟩ (eC 4 (.s 1 0::.c::.c::.f 0::eC 4 [.b 0 1,.c,.r 0])) ?_;refine en_ops (ops_sub 22 22 5 i0 _ Tryz.underlying22 hi0 hz0 (by rw [hz1];rfl) (by rw [hz1];decide) hz1.symm (v:=v) (n:=L.length) (xs:=u8V L) (A:=A) (m:=(L.drop n).length) (c:=c) (news:=u8V (L.drop n)) hA (by unfold u8V;rw [List.length_map,Nat.mul_one]) (fun w h=>hC w h) (u8V_one _) (by rw [List.length_drop];unfold maxLen;omega) (by rw [hz2,List.length_drop];omega)) [] [1] [] (fun v'=>?_);refine en_fact (p:=∃ a2 c2,v'=.slice a2 (L.drop n).length c2) (fun w h=>by obtain ⟨a,c,h1,_⟩:=own_form (is_at h 0 (c:=rowO 5 1 v' (L.drop n).length (u8V (L.drop n))) rfl);exact ⟨a,c,h1⟩) ?_;rintro ⟨a2,c2,rfl⟩;refine en (EF [(.bool (decide ((((n:Int)):Int) > 0)),.bool true)] ⟨dcT (by omega),trivial⟩) [.c,.c,.s 0 1,.b 1 0,.c,.f 0,.s 1 0,.c,.c] ?_;have eq1:z=(p,true,0,L.drop n,0):=by rw [← hz];unfold nxT;rw [if_neg (by simp)];unfold nextR;rw [hw];simp only;rw [if_neg (by simp),if_neg hn,hd,if_neg (by simp)]
  clear hz;have hz:=eq1.symm;refine en_drop [0,0] [0,1] ?_;refine en_shut 0 ⟨x,frL m (.slice a2 (L.drop n).length c2) 0,114⟩ ?_;refine en_pack [0,0] (frC x m (.slice a2 (L.drop n).length c2) (L.drop n) 0) _ ?_;subst hz;exact en_rets (.slice a2 (L.drop n).length c2,a',c') [] [0,0] [0]
end Go.Proofs.YtehpihmgjbmoaaaGreatDoor
