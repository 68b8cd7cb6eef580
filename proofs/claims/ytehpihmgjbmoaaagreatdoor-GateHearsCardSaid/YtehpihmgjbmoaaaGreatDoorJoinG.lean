import Derived.Test.YtehpihmgjbmoaaaGreatDoorJoinC
import Derived.Test.YtehpihmgjbmoaaaGreatDoorJoinA
import Derived.Laws.Bits64b
import Derived.Laws.BitsLemmas
import Derived.Test.YtehpihmgjbmoaaaGreatDoorJoinE
import Derived.OwnWalk
import Derived.Test.YtehpihmgjbmoaaaGreatDoorJoinI
import Derived.Test.YtehpihmgjbmoaaaGreatDoorJoinH
namespace Go.Proofs.YtehpihmgjbmoaaaGreatDoor
open Go.RowKit
theorem at_bl (s:ByteArray) (k:Nat) (b:UInt8) (h:(bl s)[k]? = some b):∃ hk:k < s.size,s[k]'hk=b:=by
  obtain ⟨hk,hb⟩:=List.getElem?_eq_some_iff.1 h;have hk':k < s.size:=by rw [← bl_len];exact hk
  have h2:=get_bl s k hk';rw [h] at h2;injection h2 with h2
  exact ⟨hk',h2.symm⟩
end Go.Proofs.YtehpihmgjbmoaaaGreatDoor
namespace Go.Proofs.YtehpihmgjbmoaaaGreatDoor
open Go.RowKit
theorem word_or (a:Nat) (ha:a < 256) (b:Nat) (hb:b < 256):bits BinOp.or IntKind.i64 (wrap64 (wrap64 (a:Int) * 256)) (wrap64 (b:Int))=((a * 256+b:Nat):Int):=by
  have e1:wrap64 (wrap64 (a:Int) * 256)=((a * 256:Nat):Int):=by
    unfold wrap64;omega
  have e2:wrap64 (b:Int)=(b:Int):=by
    unfold wrap64;omega
  rw [e1,e2];have h1:(BitVec.ofInt 64 ((a * 256:Nat):Int)).toNat=a * 256:=by
    rw [BitVec.ofInt_natCast,BitVec.toNat_ofNat];exact Nat.mod_eq_of_lt (by omega)
  have h2:(BitVec.ofInt 64 (b:Int)).toNat=b:=by
    rw [BitVec.ofInt_natCast,BitVec.toNat_ofNat];exact Nat.mod_eq_of_lt (by omega)
  have h3:a * 256 ||| b=a * 256+b:=by
    have:=Nat.shiftLeft_add_eq_or_of_lt (i:=8) (b:=b) (by omega) a;rw [Nat.shiftLeft_eq] at this;exact this.symm
  show IntKind.i64.wrap ((BitVec.ofInt 64 ((a * 256:Nat):Int) ||| BitVec.ofInt 64 (b:Int)).toNat:Int)=_;rw [BitVec.toNat_or,h1,h2,h3];rw [IntKind.wrap_i64];omega
end Go.Proofs.YtehpihmgjbmoaaaGreatDoor
namespace Go.Proofs.YtehpihmgjbmoaaaGreatDoor
open Go.RowKit
def RetL (x:Nat × Nat × Nat) (w:World) (e:Ending) (w':World):Prop:=e=.returned (.tuple #[.int .i64 (x.1:Int),.int .i64 (x.2.1:Int),.int .i64 (x.2.2:Int)])∧w=w'
set_option maxRecDepth 100000 in
set_option maxHeartbeats 1000000 in
theorem num_ReadLenG (s:ByteArray) (w:World):Calls Tryz.prog 79 #[.string s] w (RetL (lenR (bl s)) w):=by
  have FIN:=Lib.hid (show ∀ (i j z:Int) (x:Nat × Nat × Nat),x=lenR (bl s)→i=(x.1:Int)→j=(x.2.1:Int)→z=(x.2.2:Int)→∀ w':World,w=w'→RetL (lenR (bl s)) w (.returned (.tuple #[.int .i64 i,.int .i64 j,.int .i64 z])) w' from by rintro i j z x rfl rfl rfl rfl w' rfl;exact ⟨rfl,rfl⟩);have HL:=Lib.hid (bl_len s);obtain ⟨r,hr⟩:∃ r,lenR (bl s)=r:=⟨_,rfl⟩
  have HR:=Lib.hid hr;have HR0:=Lib.hid (show lenRf 4 1 0 0 ((bl s).drop 0)=r from hr);rw [hr] at FIN ⊢;clear hr;go_enter Tryz.func79,Tryz.ntmps79
  go_wp2_with fail
  go_loopw [2,3,5] (fun a u c wr=>∃ (k y:Nat),k≤4∧k≤s.size∧a=.int .i64 (y:Int)∧u=.int .i64 (k:Int)∧c=.int .i64 ((128 ^ k:Nat):Int)∧Hid (y < 128 ^ k∧lenRf (4 - k) (128 ^ k) y k ((bl s).drop k)=r)∧w=wr) (fun _ u _ _=>4 - (intOf u).toNat)
  case atStart=>exact ⟨0,0,by omega,by omega,rfl,rfl,rfl,⟨by decide,HR0.out⟩,rfl⟩
  case round =>
    obtain ⟨k,y,hk,hks,rfl,rfl,rfl,HP,hw⟩:=hrel;subst hw;clear HR0 HR;by_cases h4:k=4
    · subst h4
      have HX:=Lib.hid (show ((0,0,4):Nat × Nat × Nat)=r from HP.out.2);clear HP;go_wp2_with fail
      go_ret3
      exact FIN.out _ _ _ _ HX.out rfl rfl rfl _ rfl
    · have hk3:k≤3:=by omega
      clear hk;by_cases hs:k=s.size
      · have hd:(bl s).drop k=[]:=List.drop_eq_nil_of_le (by have:=HL.out;omega)
        have hh:=HP.out.2;rw [hd] at hh;have hne:((k:Int) == (s.size:Int))=true:=by rw [beq_iff_eq];omega
        have HX:=Lib.hid (show ((0,0,2):Nat × Nat × Nat)=r by
          rw [← hh];have hk4:k=0∨k=1∨k=2∨k=3:=by omega
          rcases hk4 with rfl | rfl | rfl | rfl <;> rfl)
        clear HP hd hh;have hlt:decide ((k:Int) < 4)=true:=by rw [decide_eq_true_eq];omega
        go_wp2_with fail
        go_ret3
        exact FIN.out _ _ _ _ HX.out rfl rfl rfl _ rfl
      · have hlt2:k < s.size:=by omega
        have hlb:k < (bl s).length:=by have:=HL.out;omega
        obtain ⟨b,hb⟩:∃ b,(bl s)[k]? = some b:=⟨_,List.getElem?_eq_getElem hlb⟩
        have hd:(bl s).drop k=b::(bl s).drop (k+1):=by
          rw [List.drop_eq_getElem_cons hlb];obtain ⟨_,e⟩:=List.getElem?_eq_some_iff.1 hb;rw [e]
        obtain ⟨hg1,hg2⟩:=at_bl s k b hb;have hne:((k:Int) == (s.size:Int))=false:=by rw [beq_eq_false_iff_ne];omega
        have hh:=HP.out.2;have hy:=HP.out.1;rw [hd] at hh;have hv:(s[k]'hg1).toNat=b.toNat:=by rw [hg2]
        have hb2:=b.toNat_lt;clear HP hd hb hlb hg2 hs hlt2;by_cases h1:b.toNat < 128
        · have HX:=Lib.hid (show (y+b.toNat * 128 ^ k,k+1,0)=r by
            rw [← hh];have hk4:k=0∨k=1∨k=2∨k=3:=by omega
            rcases hk4 with rfl | rfl | rfl | rfl
            all_goals
              simp only [lenRf,Nat.reduceSub];rw [if_pos h1,Nat.mod_eq_of_lt h1])
          clear hh;generalize b.toNat=x at HX hv h1 hb2;clear b;have hk4:k=0∨k=1∨k=2∨k=3:=by omega
          rcases hk4 with rfl | rfl | rfl | rfl
          all_goals
            simp only [Nat.reducePow] at hy ⊢;go_wp2_with fail
            go_ret3
            exact FIN.out _ _ _ _ HX.out (by simp only [Nat.reducePow];omega) (by simp only;omega) rfl _ rfl
        · have HN:=Lib.hid (show lenRf (4 - (k+1)) (128 ^ (k+1)) (y+b.toNat % 128 * 128 ^ k) (k+1) ((bl s).drop (k+1))=r by
            rw [← hh];have hk4:k=0∨k=1∨k=2∨k=3:=by omega
            rcases hk4 with rfl | rfl | rfl | rfl
            all_goals
              conv=>rhs;rw [show (4:Nat) - _=_+1 from rfl,lenRf,if_neg h1])
          clear hh;generalize b.toNat=x at HN hv h1 hb2;clear b;have hr2:x % 128 < 128:=by omega
          have hk4:k=0∨k=1∨k=2∨k=3:=by omega
          rcases hk4 with rfl | rfl | rfl | rfl
          all_goals
            simp only [Nat.reducePow] at hy ⊢;go_wp2_with fail
            go_roundw
            case rel=>exact ⟨_,y+x % 128 * 128 ^ _,by omega,by omega,by first | rfl | go_num | (congr 1;omega),by first | rfl | go_num,by first | rfl | go_num,⟨by simp only [Nat.reducePow,Nat.reduceAdd];omega,HN.out⟩,by first | trivial | rfl⟩
            case measure=>simp [intOf]
end Go.Proofs.YtehpihmgjbmoaaaGreatDoor
namespace Go.Proofs.YtehpihmgjbmoaaaGreatDoor
open Go.RowKit
theorem and3_low:∀ c:Nat,c < 256→bits BinOp.and IntKind.u8 ((c:Int) % 16 / 2) 3=((c / 2 % 4:Nat):Int):=by decide +kernel
theorem read_First (c:Nat) (hc:c < 256) (w:World):Calls Tryz.prog 78 #[.int .u8 (c:Int)] w fun e w'=>e=.returned (.bool (firstOk c))∧w=w':=by
  have FIN:=Lib.hid (show ∀ (b:Bool),firstOk c=b→∀ w':World,w=w'→Ending.returned (.bool b)=.returned (.bool (firstOk c))∧w=w' from by rintro b rfl w' rfl;exact ⟨rfl,rfl⟩);have HB:=Lib.hid (and3_low c hc);go_enter Tryz.func78,Tryz.ntmps78
  go_wp2_with fail
  all_goals go_ret
  all_goals
    refine FIN.out _ ?_ _ rfl;clear FIN;have hb:=HB.out;clear HB;simp only [beq_iff_eq,beq_eq_false_iff_ne] at *;unfold firstOk;first
      | (rw [if_pos (by omega)];done)
      | (rw [if_neg (by omega),if_pos (by omega),hb,decide_eq_decide];omega)
      | (rw [if_neg (by omega),if_neg (by omega),if_pos (by omega)];rw [Bool.eq_iff_iff];simp only [decide_eq_true_eq,beq_iff_eq];omega)
      | (rw [if_neg (by omega),if_neg (by omega),if_neg (by omega)];rw [Bool.eq_iff_iff];simp only [decide_eq_true_eq,beq_iff_eq];omega)
def readW:Bs→Nat × Nat × Nat
  | a::b::_=>(a.toNat * 256+b.toNat,2,0)
  | _=>(0,0,2)
def RetW (x:Nat × Nat × Nat) (w:World) (e:Ending) (w':World):Prop:=e=.returned (.tuple #[.int .i64 (x.1:Int),.int .i64 (x.2.1:Int),.int .i64 (x.2.2:Int)])∧Below w.heap.size w w'
theorem num_ReadWord (s:ByteArray) (w:World):Calls Tryz.prog 117 #[.string s] w (RetW (readW (bl s)) w):=by
  have FIN:=Lib.hid (show ∀ (x y z:Int),x=((readW (bl s)).1:Int)→y=((readW (bl s)).2.1:Int)→z=((readW (bl s)).2.2:Int)→∀ w':World,Below w.heap.size w w'→RetW (readW (bl s)) w (.returned (.tuple #[.int .i64 x,.int .i64 y,.int .i64 z])) w' from by rintro x y z rfl rfl rfl w' h;exact ⟨rfl,h⟩);have hl:=bl_len s;obtain ⟨L,hb⟩:∃ L,bl s=L:=⟨_,rfl⟩
  rw [hb] at FIN hl ⊢;rcases L with _ | ⟨a,_ | ⟨b,t⟩⟩
  · simp only [List.length_nil] at hl
    have hz:decide ((s.size:Int) < 2)=true:=by rw [decide_eq_true_eq];omega
    clear hb hl;go_enter Tryz.func117,Tryz.ntmps117
    go_wp2_with fail
    go_ret3
    exact FIN.out _ _ _ rfl rfl rfl _ (Below.refl _ _)
  · simp only [List.length_cons,List.length_nil] at hl
    have hz:decide ((s.size:Int) < 2)=true:=by rw [decide_eq_true_eq];omega
    clear hb hl;go_enter Tryz.func117,Tryz.ntmps117
    go_wp2_with fail
    go_ret3
    exact FIN.out _ _ _ rfl rfl rfl _ (Below.refl _ _)
  · have h0:=at_bl s 0 a (by rw [hb];rfl)
    have h1:=at_bl s 1 b (by rw [hb];rfl);obtain ⟨h01,h02⟩:=h0;obtain ⟨h11,h12⟩:=h1;simp only [List.length_cons] at hl;have HO:=Lib.hid (word_or a.toNat a.toNat_lt b.toNat b.toNat_lt);have hz:decide ((s.size:Int) < 2)=false:=by rw [decide_eq_false_iff_not];omega
    clear hb hl;go_enter Tryz.func117,Tryz.ntmps117
    go_wp2_with fail
    go_quiet (fail)
    generalize hw2:World.drewN w _=w9;have hq2:=below_draws hw2;clear hw2;go_wp2_with fail
    go_ret3
    exact FIN.out _ _ _ HO.out rfl rfl _ hq2
def readD (L:Bs):ByteArray × Nat × Nat:=if (readW L).2.2≠0∨L.length - (readW L).2.1 < (readW L).1 then (e0,0,2) else (baB ((L.drop 2).take (readW L).1),2+(readW L).1,0)
def RetD (x:ByteArray × Nat × Nat) (w:World) (e:Ending) (w':World):Prop:=e=.returned (.tuple #[.string x.1,.int .i64 (x.2.1:Int),.int .i64 (x.2.2:Int)])∧Below w.heap.size w w'
theorem readW_cases (L:Bs):(∃ a b t,L=a::b::t∧readW L=(a.toNat * 256+b.toNat,2,0))∨(L.length < 2∧readW L=(0,0,2)):=by
  rcases L with _ | ⟨a,_ | ⟨b,t⟩⟩
  · exact Or.inr ⟨by simp,rfl⟩
  · exact Or.inr ⟨by simp,rfl⟩
  · exact Or.inl ⟨a,b,t,rfl,rfl⟩
theorem bl_extract (s:ByteArray) (i j:Nat):bl (s.extract i j)=((bl s).drop i).take (j - i):=by
  unfold bl;simp [List.take_drop]
theorem text_GetData (s:ByteArray) (hs:s.size≤300000000) (w:World):Calls Tryz.prog 143 #[.string s] w (RetD (readD (bl s)) w):=by
  have FIN:=Lib.hid (show ∀ (x:ByteArray) (y z:Int),x=(readD (bl s)).1→y=((readD (bl s)).2.1:Int)→z=((readD (bl s)).2.2:Int)→∀ w':World,Below w.heap.size w w'→RetD (readD (bl s)) w (.returned (.tuple #[.string x,.int .i64 y,.int .i64 z])) w' from by rintro x y z rfl rfl rfl w' h;exact ⟨rfl,h⟩);have hW:=num_ReadWord s w;have hl:=bl_len s;rcases readW_cases (bl s) with ⟨a,b,t,hb,hr⟩ | ⟨hlt,hr⟩
  · have h1:=a.toNat_lt
    have h2:=b.toNat_lt;rw [hr] at hW;rw [hb] at hl;simp only [List.length_cons] at hl;have hD:readD (bl s)=if t.length < a.toNat * 256+b.toNat then (e0,0,2) else (baB (t.take (a.toNat * 256+b.toNat)),2+(a.toNat * 256+b.toNat),0):=by
      unfold readD;rw [hr,hb];simp
    have HX:=Lib.hid (show bl (s.extract 2 (2+(a.toNat * 256+b.toNat)))=t.take (a.toNat * 256+b.toNat) by rw [bl_extract,hb];simp);generalize hn:a.toNat * 256+b.toNat=n at *;have hn2:n < 65536:=by omega
    have HW:=Lib.hid hW;by_cases hc:t.length < n
    · rw [if_pos hc] at hD
      rw [hD] at FIN ⊢;have hg:decide ((n:Int) > (s.size:Int) - 2)=true:=by rw [decide_eq_true_eq];omega
      have hg2:(s.size:Int) - 2 < (n:Int):=by omega
      clear hD hr hb hn hW h1 h2;go_enter Tryz.func143,Tryz.ntmps143
      go_wp2_with (go_at_call 117;refine Calls.mono HW.out ?_;rintro e w1 ⟨rfl,hb1⟩)
      go_ret3
      exact FIN.out _ _ _ rfl rfl rfl _ hb1
    · rw [if_neg hc] at hD
      rw [hD] at FIN ⊢;have hg:decide ((s.size:Int) - 2 < (n:Int))=false:=by rw [decide_eq_false_iff_not];omega
      have hg2:¬ (s.size:Int) - 2 < (n:Int):=by omega
      clear hD hr hb hn hW h1 h2;go_enter Tryz.func143,Tryz.ntmps143
      go_wp2_with (go_at_call 117;refine Calls.mono HW.out ?_;rintro e w1 ⟨rfl,hb1⟩)
      go_ret3
      refine FIN.out _ _ _ ?_ ?_ rfl _ hb1
      · apply bl_inj
        rw [bl_baB];exact HX.out
      · push_cast;rfl
  · rw [hr] at hW
    have hD:readD (bl s)=(e0,0,2):=by
      unfold readD;rw [hr,if_pos (Or.inl (by decide))]
    rw [hD] at FIN ⊢;have HW:=Lib.hid hW;clear hD hr hW;go_enter Tryz.func143,Tryz.ntmps143
    go_wp2_with (go_at_call 117;refine Calls.mono HW.out ?_;rintro e w1 ⟨rfl,hb1⟩)
    go_ret3
    exact FIN.out _ _ _ rfl rfl rfl _ hb1
end Go.Proofs.YtehpihmgjbmoaaaGreatDoor
namespace Go.Proofs.YtehpihmgjbmoaaaGreatDoor
open Go.RowKit
def readT (L:Bs):ByteArray × Nat × Nat:=if (readD L).2.2=0∧validL (bl (readD L).1)=false then (e0,0,5) else readD L
theorem readD_size (L:Bs):(readD L).1.size≤65535:=by
  unfold readD;split
  · exact Nat.zero_le _
  · show (((L.drop 2).take (readW L).1)).length≤_
    rw [List.length_take];have:(readW L).1≤65535:=by
      rcases readW_cases L with ⟨a,b,t,_,h⟩ | ⟨_,h⟩ <;> rw [h]
      · have h1:=a.toNat_lt
        have h2:=b.toNat_lt;show a.toNat * 256+b.toNat≤_;omega
      · exact Nat.zero_le _
    omega
theorem text_Get (s:ByteArray) (hs:s.size≤300000000) (w:World) (hE:Env w):Calls Tryz.prog 116 #[.string s] w (RetD (readT (bl s)) w):=by
  have hG:=text_GetData s hs w;have hz:=readD_size (bl s);unfold readT;rcases hD:readD (bl s) with ⟨x,y,z⟩
  rw [hD] at hG hz;obtain ⟨v,hv⟩:∃ v,validL (bl x)=v:=⟨_,rfl⟩
  have HV:=Lib.hid (show ∀ w1,Below w.heap.size w w1→Calls Tryz.prog 144 #[.string x] w1 fun e w'=>e=.returned (.bool v)∧Below w1.heap.size w1 w' from fun w1 hb=>by
    have:=text_Valid x w1 (hE.below hb) (by simp only at hz;omega);rw [show x.data.toList=bl x from rfl,hv] at this;exact this)
  have HG:=Lib.hid hG;clear hG hD hE hz;by_cases h0:z=0
  · subst h0
    cases v
    · rw [if_pos ⟨rfl,hv⟩]
      clear hv;go_enter Tryz.func116,Tryz.ntmps116
      go_wp2_with (first
        | (go_at_call 143;refine Calls.mono HG.out ?_;rintro e w1 ⟨rfl,hb1⟩)
        | (go_at_call 144;refine Calls.mono (HV.out _ hb1) ?_;rintro e w2 ⟨rfl,hb2⟩))
      go_ret3
      exact ⟨rfl,Below.then hb1 hb2⟩
    · rw [if_neg (by rintro ⟨_,h⟩;rw [hv] at h;cases h)]
      clear hv;go_enter Tryz.func116,Tryz.ntmps116
      go_wp2_with (first
        | (go_at_call 143;refine Calls.mono HG.out ?_;rintro e w1 ⟨rfl,hb1⟩)
        | (go_at_call 144;refine Calls.mono (HV.out _ hb1) ?_;rintro e w2 ⟨rfl,hb2⟩))
      go_ret3
      exact ⟨rfl,Below.then hb1 hb2⟩
  · rw [if_neg (by rintro ⟨h,_⟩;exact h0 h)]
    have hz2:((z:Int) == 0)=false:=by rw [beq_eq_false_iff_ne];omega
    clear HV h0;go_enter Tryz.func116,Tryz.ntmps116
    go_wp2_with (go_at_call 143;refine Calls.mono HG.out ?_;rintro e w1 ⟨rfl,hb1⟩)
    go_ret3
    exact ⟨rfl,hb1⟩
section
variable {w0 w:World} {X:Nat} {C:List Value} {T:TypeId} {B:List Box} {R:List Row}
theorem readD_cases (L:Bs) (k:Bool):(∃ x n t,L.drop n=t∧readD L=(x,n,0)∧dataR (L,k)=(x,(t,k))∧n≤L.length)∨(∃ z,z≠0∧readD L=(e0,0,z)∧dataR (L,k)=(e0,(L,true))):=by
  rcases readW_cases L with ⟨a,b,t,hb,hr⟩ | ⟨hlt,hr⟩
  · subst hb
    rw [data_cons];unfold readD;rw [hr];by_cases hc:a.toNat * 256+b.toNat≤t.length
    · rw [if_neg (by simp;omega),if_pos hc]
      exact Or.inl ⟨_,_,_,by show (a::b::t).drop (2+(a.toNat * 256+b.toNat))=t.drop (a.toNat * 256+b.toNat);rw [Nat.add_comm];simp only [List.drop_succ_cons],rfl,rfl,by simp;omega⟩
    · rw [if_pos (by simp;omega),if_neg hc]
      exact Or.inr ⟨2,by decide,rfl,rfl⟩
  · refine Or.inr ⟨2,by decide,by unfold readD;rw [hr,if_pos (Or.inl (by decide))],?_⟩
    rcases L with _ | ⟨a,_ | ⟨b,t⟩⟩
    · rfl
    · rfl
    · simp at hlt;omega
theorem readT_cases (L:Bs) (k:Bool):(∃ x n t,L.drop n=t∧readT L=(x,n,0)∧textR (L,k)=(x,(t,k))∧n≤L.length)∨(∃ z,z≠0∧readT L=(e0,0,z)∧textR (L,k)=(e0,(L,true))):=by
  unfold readT textR;rcases readD_cases L k with ⟨x,n,t,h1,h2,h3,h4⟩ | ⟨z,hz,h2,h3⟩
  · rw [h2,h3]
    cases hv:validL (bl x)
    · rw [if_pos ⟨rfl,rfl⟩,if_neg (by decide)]
      exact Or.inr ⟨5,by decide,rfl,rfl⟩
    · rw [if_neg (by rintro ⟨_,h⟩;cases h),if_pos rfl]
      exact Or.inl ⟨x,n,t,h1,rfl,rfl,h4⟩
  · rw [h2,h3,if_neg (by rintro ⟨h,_⟩;exact hz h)]
    refine Or.inr ⟨z,hz,rfl,?_⟩;split
    · rfl
    · rfl
end
end Go.Proofs.YtehpihmgjbmoaaaGreatDoor
namespace Go.Proofs.YtehpihmgjbmoaaaGreatDoor
open Go.RowKit
def bitM (m f:Nat):Nat:=f / m % 2 * m
theorem bit_pos (m f:Nat) (h:0 < m):(0 < bitM m f)=(f / m % 2=1):=by
  apply propext
  unfold bitM;have:f / m % 2=0∨f / m % 2=1:=by omega
  rcases this with h1 | h1 <;> rw [h1] <;> simp <;> omega
theorem bit_all:∀ f:Nat,f < 256→∀ m ∈ ([1,2,4,8,32,64,128]:List Nat),bits BinOp.and IntKind.u8 (f:Int) (m:Int)=((bitM m f:Nat):Int):=by decide +kernel
theorem and3_u8:∀ f:Nat,f < 256→bits BinOp.and IntKind.u8 ((f:Int) / 8) 3=((f / 8 % 4:Nat):Int):=by decide +kernel
theorem and3_shr1:∀ f:Nat,f < 256→bits BinOp.and IntKind.u8 ((f:Int) / 2) 3=((f / 2 % 4:Nat):Int):=by decide +kernel
theorem one_len (c:Cur):(oneR c).2.1.length≤c.1.length:=by
  obtain ⟨L,k⟩:=c;cases L with
  | nil=>exact Nat.le_refl _
  | cons b t=>exact Nat.le_succ _
theorem ne_toList (a b:ByteArray):(a.toList != b.toList)=(a != b):=by
  by_cases h:a=b
  · subst h
    show (!(a.toList == a.toList))=!(a.data == a.data);simp
  · rw [ba_ne h,bne_iff_ne]
    rw [Lib.toList_data,Lib.toList_data];exact fun e=>h (bl_inj e)
section
variable {P:Program} {a:Act} {w:World} {Q:Exit→Act→World→Prop}
end
end Go.Proofs.YtehpihmgjbmoaaaGreatDoor
