import Derived.Test.YtehpihmgjbmoaaaGreatDoorJoinB
import Derived.Test.YtehpihmgjbmoaaaGreatDoorJoinI
import Derived.Test.YtehpihmgjbmoaaaGreatDoorJoinA
import Derived.Test.YtehpihmgjbmoaaaGreatDoorJoinPB
import Derived.Deep.DeepCutAuto
namespace Go.Proofs.YtehpihmgjbmoaaaGreatDoor
open Go.RowKit
theorem any_snoc8 (p:UInt8→Bool) (L:Bs) (k:Nat) (x:UInt8) (hx:L[k]? = some x):(L.take (k+1)).any p=((L.take k).any p || p x):=by
  rw [List.take_add_one,hx,List.any_append];simp
theorem u8_eq (x y:UInt8):(((x.toNat:Int) == (y.toNat:Int)))=(x == y):=by
  rw [Bool.eq_iff_iff,beq_iff_eq,beq_iff_eq,Int.natCast_inj,UInt8.toNat_inj]
def hasL (s:Bs) (c:UInt8):Bool:=s.any (· == c)
theorem ref03_has (s:ByteArray) (c:UInt8) (w:World) (hs:s.size≤300000000):Calls Tryz.prog 133 #[.string s,.int .u8 (c.toNat:Int)] w fun e w'=>e=.returned (.bool (hasL (bl s) c))∧w=w':=by
  have FIN:=Lib.hid (show ∀ (b:Bool),hasL (bl s) c=b→Ending.returned (.bool b)=.returned (.bool (hasL (bl s) c)) from by rintro b rfl;rfl);go_enter Tryz.func133,Tryz.ntmps133
  go_wp2_with fail
  go_loopw [5] (fun i wr=>∃ k:Nat,k≤s.size∧i=.int .i64 k∧Hid (((bl s).take k).any (· == c)=false)∧w=wr) (fun i _=>s.size - (intOf i).toNat)
  case atStart=>exact ⟨0,by omega,rfl,rfl,rfl⟩
  case round =>
    obtain ⟨k,hk,rfl,HP,rfl⟩:=hrel;by_cases hlt:k < s.size
    · have hx:=get_bl s k hlt
      have hs1:=any_snoc8 (· == c) (bl s) k _ hx;rw [HP.out,Bool.false_or] at hs1;have e1:(((s[k]'hlt).toNat:Int) == (c.toNat:Int))=((s[k]'hlt) == c):=u8_eq _ _;cases hb:((s[k]'hlt) == c)
      · rw [hb] at e1 hs1
        have H1:=Lib.hid hs1;clear hb hs1 hx;go_wp2_with fail
        go_roundw
        case rel=>exact ⟨k+1,by omega,by first | rfl | go_num,H1,by first | rfl | trivial⟩
        case measure=>simp [intOf];omega
      · have H1:=Lib.hid (show hasL (bl s) c=true from List.any_eq_true.2 ⟨_,List.mem_of_getElem? hx,hb⟩)
        rw [hb] at e1;clear hb hs1 hx;go_wp2_with fail
        go_ret
        exact ⟨FIN.out _ H1.out,rfl⟩
    · have hk2:k=s.size:=by omega
      have H1:=Lib.hid (show hasL (bl s) c=false by
        have:=HP.out;rw [hk2,← bl_len,List.take_length] at this;exact this)
      subst hk2;go_wp2_with fail
      go_ret
      exact ⟨FIN.out _ H1.out,rfl⟩
theorem has_lit (s:ByteArray) (c:UInt8) (n:Int) (hn:(c.toNat:Int)=n) (w:World) (hs:s.size≤300000000):Calls Tryz.prog 133 #[.string s,.int .u8 n] w fun e w'=>e=.returned (.bool (hasL (bl s) c))∧w=w':=hn ▸ ref03_has s c w hs
theorem plain_has (s:Bs):plainL s=(!hasL s 43 && !hasL s 35):=by
  unfold plainL hasL;induction s with
  | nil=>rfl
  | cons b t ih =>
    rw [List.all_cons,List.any_cons,List.any_cons,ih];cases (b == 43:Bool) <;> cases (b == 35:Bool) <;> simp
set_option maxRecDepth 100000 in
theorem ref03_Name (s:ByteArray) (w:World) (hs:s.size≤300000000):Calls Tryz.prog 132 #[.string s] w fun e w'=>e=.returned (.bool (nameL (bl s)))∧Below w.heap.size w w':=by
  have hV:=ref02_Valid s w (by omega);rw [show s.data.toList=bl s from rfl] at hV;have H1:=Lib.hid (fun w1=>has_lit s 43 43 rfl w1 hs);have H2:=Lib.hid (fun w1=>has_lit s 35 35 rfl w1 hs);have HN:=Lib.hid (show nameL (bl s)=(!(bl s).isEmpty && validL (bl s) && (!hasL (bl s) 43 && !hasL (bl s) 35)) by unfold nameL;rw [plain_has]);have FIN:=Lib.hid (show ∀ (b:Bool) (w':World),nameL (bl s)=b→Below w.heap.size w w'→Ending.returned (.bool b)=.returned (.bool (nameL (bl s)))∧Below w.heap.size w w' from by rintro b w' rfl h;exact ⟨rfl,h⟩);have he:=empty_size s;obtain ⟨v,hv⟩:∃ v,validL (bl s)=v:=⟨_,rfl⟩
  rw [hv] at hV HN;have HV:=Lib.hid hV;obtain ⟨x,hx⟩:∃ v,hasL (bl s) 43=v:=⟨_,rfl⟩
  obtain ⟨y,hy⟩:∃ v,hasL (bl s) 35=v:=⟨_,rfl⟩
  rw [hx] at H1 HN;rw [hy] at H2 HN;clear hV hv hx hy;by_cases h0:s.size=0
  · have HX:=Lib.hid (show nameL (bl s)=false by rw [HN.out,he,decide_eq_true h0];rfl)
    have h0':¬ 0 < s.size:=by omega
    clear he h0;go_enter Tryz.func132,Tryz.ntmps132
    go_wp2_with fail
    go_ret
    exact FIN.out _ _ HX.out (Below.refl _ _)
  · have HX:=Lib.hid (show nameL (bl s)=(v && (!x && !y)) by rw [HN.out,he,decide_eq_false h0];simp)
    have h0':0 < s.size:=by omega
    clear he h0;cases v <;> cases x <;> cases y
    all_goals
      go_enter Tryz.func132,Tryz.ntmps132
      go_wp2_with (first
        | (go_at_call 151;refine Calls.mono HV.out ?_;rintro e w1 ⟨rfl,hb⟩)
        | (go_at_call 133;(with_reducible refine Calls.mono (H1.out _) ?_);rintro e w2 ⟨rfl,rfl⟩)
        | (go_at_call 133;(with_reducible refine Calls.mono (H2.out _) ?_);rintro e w2 ⟨rfl,rfl⟩))
      go_ret
      exact FIN.out _ _ HX.out hb
set_option maxRecDepth 100000 in
set_option maxHeartbeats 2000000 in
theorem ref03_Filter (s:ByteArray) (w:World) (hs:s.size≤300000000):Calls Tryz.prog 150 #[.string s] w fun e w'=>e=.returned (.bool (filterL (bl s)))∧Below w.heap.size w w':=by
  have hV:=ref02_Valid s w (by omega);rw [show s.data.toList=bl s from rfl] at hV;have FIN:=Lib.hid (show ∀ (b:Bool) (w':World),filterL (bl s)=b→Below w.heap.size w w'→Ending.returned (.bool b)=.returned (.bool (filterL (bl s)))∧Below w.heap.size w w' from by rintro b w' rfl h;exact ⟨rfl,h⟩);have he:=empty_size s;by_cases h0:s.size=0
  · have HX:=Lib.hid (show filterL (bl s)=false by unfold filterL;rw [he,decide_eq_true h0];rfl)
    have h1:((s.size:Int) == 0)=true:=by rw [h0];rfl
    clear he h0 hV;go_enter Tryz.func150,Tryz.ntmps150
    go_wp2_with fail
    go_ret
    exact FIN.out _ _ HX.out (Below.refl _ _)
  · have h1:((s.size:Int) == 0)=false:=by rw [beq_eq_false_iff_ne];omega
    obtain ⟨v,hv⟩:∃ v,validL (bl s)=v:=⟨_,rfl⟩
    rw [hv] at hV;have HX:=Lib.hid (show filterL (bl s)=(v && fA true (bl s)) by unfold filterL;rw [he,decide_eq_false h0,hv,fA_filter];simp);have HV:=Lib.hid hV;clear he h0 hV hv;cases v
    · go_enter Tryz.func150,Tryz.ntmps150
      go_wp2_with (go_at_call 151;refine Calls.mono HV.out ?_;rintro e w1 ⟨rfl,hb⟩)
      go_ret
      exact FIN.out _ _ HX.out hb
    · go_enter Tryz.func150,Tryz.ntmps150
      go_wp2_with (go_at_call 151;refine Calls.mono HV.out ?_;rintro e w1 ⟨rfl,hb⟩)
      go_loopw [3] (fun i wr=>∃ k:Nat,k≤s.size∧i=.int .i64 k∧∃ st:Bool,Hid (fA st ((bl s).drop k)=fA true (bl s))∧((k=0∧st=true)∨∃ j,∃ hj:j < s.size,k=j+1∧st=((s[j]'hj) == 47))∧w1=wr) (fun i _=>s.size - (intOf i).toNat)
      case atStart=>exact ⟨0,by omega,rfl,true,rfl,Or.inl ⟨rfl,rfl⟩,rfl⟩
      case round =>
        obtain ⟨k,hk,rfl,st,HP,hst,rfl⟩:=hrel;by_cases hlt:k < s.size
        · have hx:=get_bl s k hlt
          have hd:=fA_drop (bl s) st k _ hx;rw [HP.out] at hd;have HD:=Lib.hid hd;clear hx hd;have e43:(((s[k]'hlt).toNat:Int) == 43)=((s[k]'hlt) == 43):=u8_eq _ 43;have e35:(((s[k]'hlt).toNat:Int) == 35)=((s[k]'hlt) == 35):=u8_eq _ 35;have n43:(((s[k]'hlt).toNat:Int) != 43)=!((s[k]'hlt) == 43):=by rw [bne,e43]
          have n35:(((s[k]'hlt).toNat:Int) != 35)=!((s[k]'hlt) == 35):=by rw [bne,e35]
          by_cases hw:(s[k]'hlt)=43∨(s[k]'hlt)=35
          · have hn47:((s[k]'hlt) == 47)=false:=by rcases hw with h | h <;> rw [h] <;> rfl
            have HD2:=Lib.hid (show fA true (bl s)=(st && (decide ((bl s).length≤k+1) || (!((s[k]'hlt) == 35) && (bl s)[k+1]? == some 47)) && fA false ((bl s).drop (k+1))) by rw [HD.out,if_pos hw,hn47]);have hwild:((((s[k]'hlt).toNat:Int) != 43)=false∧((s[k]'hlt) == 35)=false∧(((s[k]'hlt).toNat:Int) == 35)=false)∨((((s[k]'hlt).toNat:Int) != 43)=true∧(((s[k]'hlt).toNat:Int) != 35)=false∧((s[k]'hlt) == 35)=true∧(((s[k]'hlt).toNat:Int) == 35)=true):=by
              rw [n43,n35,e35];rcases hw with h | h
              · left;rw [h];exact ⟨rfl,rfl,rfl⟩
              · right;rw [h];exact ⟨rfl,rfl,rfl,rfl⟩
            have HN47:=Lib.hid hn47;clear HD hw hn47 e43 e35 n43 n35;have hpast:(k=0∧st=true)∨∃ j,∃ hj:j < s.size,k=j+1∧st=((s[j]'hj) == 47)∧(((s[j]'hj).toNat:Int) != 47)=!st:=by
              rcases hst with h | ⟨j,hj,h1,h2⟩
              · exact Or.inl h
              · exact Or.inr ⟨j,hj,h1,h2,by rw [h2,bne];exact congrArg (!·) (u8_eq _ 47)⟩
            clear hst;rcases hpast with ⟨hk0,rfl⟩ | ⟨j,hj,rfl,hsj,hne⟩
            · subst hk0
              by_cases hlast:s.size≤1
              · have HY:=Lib.hid (show fA false ((bl s).drop (1))=fA true (bl s) by rw [HD2.out,decide_eq_true (by rw [bl_len];omega)];simp)
                have el:(((0:Int)) == (s.size:Int) - 1)=true:=by rw [beq_iff_eq];omega
                clear HD2;rcases hwild with ⟨h1,h2,h3⟩ | ⟨h1,h2,h3,h4⟩
                all_goals
                  go_wp2_with fail
                  go_roundw
                  case rel=>exact ⟨1,by omega,by first | rfl | go_num,false,HY,Or.inr ⟨0,hlt,rfl,HN47.out.symm⟩,by first | rfl | trivial⟩
                  case measure=>simp [intOf];omega
              · have hlt2:1 < s.size:=by omega
                have hx2:=get_bl s (1) hlt2;have el:(((0:Int)) == (s.size:Int) - 1)=false:=by rw [beq_eq_false_iff_ne];omega
                obtain ⟨x,hx⟩:∃ x,((s[1]'hlt2) == 47)=x:=⟨_,rfl⟩
                have e47:(((s[1]'hlt2).toNat:Int) != 47)=!x:=by rw [bne,← hx];exact congrArg (!·) (u8_eq _ 47)
                have HZ:=Lib.hid (show fA true (bl s)=((!((s[0]'hlt) == 35) && x) && fA false ((bl s).drop (1))) by
                  have hx3:((bl s)[1]? == some 47)=x:=by rw [hx2,← hx];rfl
                  rw [HD2.out,decide_eq_false (by rw [bl_len];omega),hx3];simp)
                clear HD2 hx2 hx;rcases hwild with ⟨h1,h2,h3⟩ | ⟨h1,h2,h3,h4⟩
                · cases x
                  · have HY:=Lib.hid (show filterL (bl s)=false by rw [HX.out,HZ.out];simp)
                    go_wp2_with fail
                    go_ret
                    exact FIN.out _ _ HY.out hb
                  · have HY:=Lib.hid (show fA false ((bl s).drop (1))=fA true (bl s) by rw [HZ.out,h2];rfl)
                    go_wp2_with fail
                    go_roundw
                    case rel=>exact ⟨1,by omega,by first | rfl | go_num,false,HY,Or.inr ⟨0,hlt,rfl,HN47.out.symm⟩,by first | rfl | trivial⟩
                    case measure=>simp [intOf];omega
                · have HY:=Lib.hid (show filterL (bl s)=false by rw [HX.out,HZ.out,h3];rfl)
                  go_wp2_with fail
                  go_ret
                  exact FIN.out _ _ HY.out hb
            · have HSJ:=Lib.hid hsj
              clear hsj;cases st
              · have HY:=Lib.hid (show filterL (bl s)=false by rw [HX.out,HD2.out];simp)
                clear HD2;rcases hwild with ⟨h1,h2,h3⟩ | ⟨h1,h2,h3,h4⟩
                all_goals
                  go_wp2_with fail
                  go_ret
                  exact FIN.out _ _ HY.out hb
              ·
               by_cases hlast:s.size≤j+1+1
               · have HY:=Lib.hid (show fA false ((bl s).drop (j+1+1))=fA true (bl s) by rw [HD2.out,decide_eq_true (by rw [bl_len];omega)];simp)
                 have el:(((j:Int)+1) == (s.size:Int) - 1)=true:=by rw [beq_iff_eq];omega
                 clear HD2;rcases hwild with ⟨h1,h2,h3⟩ | ⟨h1,h2,h3,h4⟩
                 all_goals
                   go_wp2_with fail
                   go_roundw
                   case rel=>exact ⟨j+1+1,by omega,by first | rfl | go_num,false,HY,Or.inr ⟨j+1,hlt,rfl,HN47.out.symm⟩,by first | rfl | trivial⟩
                   case measure=>simp [intOf];omega
               · have hlt2:j+1+1 < s.size:=by omega
                 have hx2:=get_bl s (j+1+1) hlt2;have el:(((j:Int)+1) == (s.size:Int) - 1)=false:=by rw [beq_eq_false_iff_ne];omega
                 obtain ⟨x,hx⟩:∃ x,((s[j+1+1]'hlt2) == 47)=x:=⟨_,rfl⟩
                 have e47:(((s[j+1+1]'hlt2).toNat:Int) != 47)=!x:=by rw [bne,← hx];exact congrArg (!·) (u8_eq _ 47)
                 have HZ:=Lib.hid (show fA true (bl s)=((!((s[j+1]'hlt) == 35) && x) && fA false ((bl s).drop (j+1+1))) by
                   have hx3:((bl s)[j+1+1]? == some 47)=x:=by rw [hx2,← hx];rfl
                   rw [HD2.out,decide_eq_false (by rw [bl_len];omega),hx3];simp)
                 clear HD2 hx2 hx;rcases hwild with ⟨h1,h2,h3⟩ | ⟨h1,h2,h3,h4⟩
                 · cases x
                   · have HY:=Lib.hid (show filterL (bl s)=false by rw [HX.out,HZ.out];simp)
                     go_wp2_with fail
                     go_ret
                     exact FIN.out _ _ HY.out hb
                   · have HY:=Lib.hid (show fA false ((bl s).drop (j+1+1))=fA true (bl s) by rw [HZ.out,h2];rfl)
                     go_wp2_with fail
                     go_roundw
                     case rel=>exact ⟨j+1+1,by omega,by first | rfl | go_num,false,HY,Or.inr ⟨j+1,hlt,rfl,HN47.out.symm⟩,by first | rfl | trivial⟩
                     case measure=>simp [intOf];omega
                 · have HY:=Lib.hid (show filterL (bl s)=false by rw [HX.out,HZ.out,h3];rfl)
                   go_wp2_with fail
                   go_ret
                   exact FIN.out _ _ HY.out hb
          · have h43:((s[k]'hlt) == 43)=false:=beq_eq_false_iff_ne.2 (fun h=>hw (Or.inl h))
            have h35:((s[k]'hlt) == 35)=false:=beq_eq_false_iff_ne.2 (fun h=>hw (Or.inr h));have HY:=Lib.hid (show fA ((s[k]'hlt) == 47) ((bl s).drop (k+1))=fA true (bl s) by rw [HD.out,if_neg hw,Bool.true_and]);rw [h43] at n43;rw [h35] at n35;clear HD hw hst e43 e35 h43 h35;go_wp2_with fail
            go_roundw
            case rel=>exact ⟨k+1,by omega,by first | rfl | go_num,_,HY,Or.inr ⟨k,hlt,rfl,rfl⟩,by first | rfl | trivial⟩
            case measure=>simp [intOf];omega
        · have hk2:k=s.size:=by omega
          have HY:=Lib.hid (show filterL (bl s)=true by
            rw [HX.out,Bool.true_and,← HP.out,List.drop_eq_nil_of_le (by rw [bl_len];omega)];rfl)
          subst hk2;go_wp2_with fail
          go_ret
          exact FIN.out _ _ HY.out hb
end Go.Proofs.YtehpihmgjbmoaaaGreatDoor
namespace Go.Proofs.YtehpihmgjbmoaaaGreatDoor
open Go.RowKit
def fieldsB (t:Nat):ByteArray:=if t=1 then b1 [108,99,107,110,119,117,115] else if t=2 then b1 [101,111] else if t=3 then b1 [100,113,114,105,116,112] else if t=4∨t=5∨t=6∨t=7∨t=11 then b1 [105] else if t=8∨t=10 then b1 [105,98] else if t=9 then b1 [105,109] else if t=12∨t=13∨t=14 then b1 [] else b1 [45]
set_option maxRecDepth 100000 in
theorem fields_0 (w:World):Calls Tryz.prog 128 #[.int .u8 0] w fun e w'=>e=.returned (.string (fieldsB 0))∧Below w.heap.size w w':=by
  go_enter Tryz.func128,Tryz.ntmps128
  go_wp2_with fail
  go_ret
  exact ⟨rfl,by go_grown⟩
set_option maxRecDepth 100000 in
theorem fields_1 (w:World):Calls Tryz.prog 128 #[.int .u8 1] w fun e w'=>e=.returned (.string (fieldsB 1))∧Below w.heap.size w w':=by
  go_enter Tryz.func128,Tryz.ntmps128
  go_wp2_with fail
  go_ret
  exact ⟨rfl,by go_grown⟩
set_option maxRecDepth 100000 in
theorem fields_2 (w:World):Calls Tryz.prog 128 #[.int .u8 2] w fun e w'=>e=.returned (.string (fieldsB 2))∧Below w.heap.size w w':=by
  go_enter Tryz.func128,Tryz.ntmps128
  go_wp2_with fail
  go_ret
  exact ⟨rfl,by go_grown⟩
set_option maxRecDepth 100000 in
theorem fields_3 (w:World):Calls Tryz.prog 128 #[.int .u8 3] w fun e w'=>e=.returned (.string (fieldsB 3))∧Below w.heap.size w w':=by
  go_enter Tryz.func128,Tryz.ntmps128
  go_wp2_with fail
  go_ret
  exact ⟨rfl,by go_grown⟩
set_option maxRecDepth 100000 in
theorem fields_4 (w:World):Calls Tryz.prog 128 #[.int .u8 4] w fun e w'=>e=.returned (.string (fieldsB 4))∧Below w.heap.size w w':=by
  go_enter Tryz.func128,Tryz.ntmps128
  go_wp2_with fail
  go_ret
  exact ⟨rfl,by go_grown⟩
set_option maxRecDepth 100000 in
theorem fields_5 (w:World):Calls Tryz.prog 128 #[.int .u8 5] w fun e w'=>e=.returned (.string (fieldsB 5))∧Below w.heap.size w w':=by
  go_enter Tryz.func128,Tryz.ntmps128
  go_wp2_with fail
  go_ret
  exact ⟨rfl,by go_grown⟩
set_option maxRecDepth 100000 in
theorem fields_6 (w:World):Calls Tryz.prog 128 #[.int .u8 6] w fun e w'=>e=.returned (.string (fieldsB 6))∧Below w.heap.size w w':=by
  go_enter Tryz.func128,Tryz.ntmps128
  go_wp2_with fail
  go_ret
  exact ⟨rfl,by go_grown⟩
set_option maxRecDepth 100000 in
theorem fields_7 (w:World):Calls Tryz.prog 128 #[.int .u8 7] w fun e w'=>e=.returned (.string (fieldsB 7))∧Below w.heap.size w w':=by
  go_enter Tryz.func128,Tryz.ntmps128
  go_wp2_with fail
  go_ret
  exact ⟨rfl,by go_grown⟩
set_option maxRecDepth 100000 in
theorem fields_8 (w:World):Calls Tryz.prog 128 #[.int .u8 8] w fun e w'=>e=.returned (.string (fieldsB 8))∧Below w.heap.size w w':=by
  go_enter Tryz.func128,Tryz.ntmps128
  go_wp2_with fail
  go_ret
  exact ⟨rfl,by go_grown⟩
set_option maxRecDepth 100000 in
theorem fields_9 (w:World):Calls Tryz.prog 128 #[.int .u8 9] w fun e w'=>e=.returned (.string (fieldsB 9))∧Below w.heap.size w w':=by
  go_enter Tryz.func128,Tryz.ntmps128
  go_wp2_with fail
  go_ret
  exact ⟨rfl,by go_grown⟩
set_option maxRecDepth 100000 in
theorem fields_10 (w:World):Calls Tryz.prog 128 #[.int .u8 10] w fun e w'=>e=.returned (.string (fieldsB 10))∧Below w.heap.size w w':=by
  go_enter Tryz.func128,Tryz.ntmps128
  go_wp2_with fail
  go_ret
  exact ⟨rfl,by go_grown⟩
set_option maxRecDepth 100000 in
theorem fields_11 (w:World):Calls Tryz.prog 128 #[.int .u8 11] w fun e w'=>e=.returned (.string (fieldsB 11))∧Below w.heap.size w w':=by
  go_enter Tryz.func128,Tryz.ntmps128
  go_wp2_with fail
  go_ret
  exact ⟨rfl,by go_grown⟩
set_option maxRecDepth 100000 in
theorem fields_12 (w:World):Calls Tryz.prog 128 #[.int .u8 12] w fun e w'=>e=.returned (.string (fieldsB 12))∧Below w.heap.size w w':=by
  go_enter Tryz.func128,Tryz.ntmps128
  go_wp2_with fail
  go_ret
  exact ⟨rfl,by go_grown⟩
set_option maxRecDepth 100000 in
theorem fields_13 (w:World):Calls Tryz.prog 128 #[.int .u8 13] w fun e w'=>e=.returned (.string (fieldsB 13))∧Below w.heap.size w w':=by
  go_enter Tryz.func128,Tryz.ntmps128
  go_wp2_with fail
  go_ret
  exact ⟨rfl,by go_grown⟩
set_option maxRecDepth 100000 in
theorem fields_14 (w:World):Calls Tryz.prog 128 #[.int .u8 14] w fun e w'=>e=.returned (.string (fieldsB 14))∧Below w.heap.size w w':=by
  go_enter Tryz.func128,Tryz.ntmps128
  go_wp2_with fail
  go_ret
  exact ⟨rfl,by go_grown⟩
set_option maxRecDepth 100000 in
theorem fields_o (t:Nat) (h:15≤t) (h2:t < 256) (w:World):Calls Tryz.prog 128 #[.int .u8 (t:Int)] w fun e w'=>e=.returned (.string (fieldsB t))∧Below w.heap.size w w':=by
  have HF:=Lib.hid (show fieldsB t=b1 [45] by unfold fieldsB;(repeat' (rw [if_neg (by omega)])));have h1:(15:Int)≤(t:Int):=by omega
  have h3:(t:Int) < 256:=by omega
  go_enter Tryz.func128,Tryz.ntmps128
  go_wp2_with fail
  go_ret
  exact ⟨by rw [HF.out];rfl,by go_grown⟩
theorem ref03_Fields (t:Nat) (ht:t < 256) (w:World):Calls Tryz.prog 128 #[.int .u8 (t:Int)] w fun e w'=>e=.returned (.string (fieldsB t))∧Below w.heap.size w w':=by
  match t,ht with
  | 0,_=>exact fields_0 w
  | 1,_=>exact fields_1 w
  | 2,_=>exact fields_2 w
  | 3,_=>exact fields_3 w
  | 4,_=>exact fields_4 w
  | 5,_=>exact fields_5 w
  | 6,_=>exact fields_6 w
  | 7,_=>exact fields_7 w
  | 8,_=>exact fields_8 w
  | 9,_=>exact fields_9 w
  | 10,_=>exact fields_10 w
  | 11,_=>exact fields_11 w
  | 12,_=>exact fields_12 w
  | 13,_=>exact fields_13 w
  | 14,_=>exact fields_14 w
  | n+15,ht=>exact fields_o (n+15) (by omega) ht w
end Go.Proofs.YtehpihmgjbmoaaaGreatDoor
