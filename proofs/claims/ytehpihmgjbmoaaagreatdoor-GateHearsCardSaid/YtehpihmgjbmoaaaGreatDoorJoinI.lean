import Derived.Test.YtehpihmgjbmoaaaGreatDoorJoinA
import Derived.Test.YtehpihmgjbmoaaaGreatDoorShelf
import Derived.Laws.RangeAny
import Derived.Lib.OthersKept
import Derived.Lib.IndexAny
import Derived.Laws.Runes
namespace Go.Proofs.YtehpihmgjbmoaaaGreatDoor
open Go.RowKit
theorem get_bN (s:ByteArray):∀ (n:Nat) (h:n < s.size),(s[n]'h).toNat=bN s.data.toList n:=by
  intro n h;unfold bN;rw [List.getD_eq_getElem?_getD,List.getElem?_eq_getElem (by rw [← Lib.size_eq];exact h)];rfl
set_option maxRecDepth 100000 in
theorem ref02_size (n:Nat) (w:World):Calls Tryz.prog 172 #[.int .u8 n] w fun e w'=>e=.returned (.int .i64 (szB n))∧w=w':=by
  go_enter Tryz.func172,Tryz.ntmps172
  go_wp2
  all_goals go_ret
  all_goals (refine ⟨ret_int ?_,rfl⟩)
  all_goals (unfold szB;repeat' split)
  all_goals omega
def leastN (n:Nat):Int:=if n=0 then 0 else if n=1 then 1 else if n=2 then 128 else if n=3 then 2048 else 65536
theorem ref02_least (n:Nat) (hn:n≤4) (w:World):Calls Tryz.prog 173 #[.int .i64 n] w fun e w'=>e=.returned (.int .i64 (leastN n))∧Below w.heap.size w w':=by
  obtain rfl | rfl | rfl | rfl | rfl:n=0∨n=1∨n=2∨n=3∨n=4:=by omega
  all_goals
    go_enter Tryz.func173,Tryz.ntmps173
    go_wp2
    go_ret
    exact ⟨rfl,by go_grown⟩
theorem size_at (n:Nat) (k:Int) (h:(szB n:Int)=k) (w:World):Calls Tryz.prog 172 #[.int .u8 n] w fun e w'=>e=.returned (.int .i64 k)∧w=w':=by
  subst h;exact ref02_size n w
theorem least_at (n k:Int) (h:(n=1∧k=1)∨(n=2∧k=128)∨(n=3∧k=2048)∨(n=4∧k=65536)) (w:World):Calls Tryz.prog 173 #[.int .i64 n] w fun e w'=>e=.returned (.int .i64 k)∧Below w.heap.size w w':=by
  rcases h with ⟨rfl,rfl⟩ | ⟨rfl,rfl⟩ | ⟨rfl,rfl⟩ | ⟨rfl,rfl⟩
  · exact ref02_least 1 (by decide) w
  · exact ref02_least 2 (by decide) w
  · exact ref02_least 3 (by decide) w
  · exact ref02_least 4 (by decide) w
theorem szB_1 {b:Nat} (h:b < 128):(szB b:Int)=1:=by unfold szB;rw [if_pos h];rfl
theorem szB_2 {b:Nat} (h:192≤b∧b < 224):(szB b:Int)=2:=by unfold szB;rw [if_neg (by omega),if_pos h];rfl
theorem szB_3 {b:Nat} (h:224≤b∧b < 240):(szB b:Int)=3:=by unfold szB;rw [if_neg (by omega),if_neg (by omega),if_pos h];rfl
theorem szB_4 {b:Nat} (h:240≤b∧b < 248):(szB b:Int)=4:=by unfold szB;rw [if_neg (by omega),if_neg (by omega),if_neg (by omega),if_pos h];rfl
theorem szB_0 {b:Nat} (h:(128≤b∧b < 192)∨248≤b):(szB b:Int)=0:=by unfold szB;rw [if_neg (by omega),if_neg (by omega),if_neg (by omega),if_neg (by omega)];rfl
set_option maxRecDepth 100000 in
set_option maxHeartbeats 1000000 in
theorem ref02_character (s:ByteArray) (w:World) (h0:0 < s.size) (hs:s.size≤9223372036854775807) :
    Calls Tryz.prog 163 #[.string s] w fun e w'=>e=.returned (.tuple #[.int .i64 (chrD s.data.toList).1,.int .i64 (chrD s.data.toList).2])∧Below w.heap.size w w':=by
  have hne:s.data.toList≠[]:=by intro e;rw [Lib.size_eq,e] at h0;simp at h0
  rw [chrD_N _ hne,← Lib.size_eq];have g0:∀ h:0 < s.size,(s[0]'h).toNat=bN s.data.toList 0:=fun h=>get_bN s _ h
  have g1:∀ h:1 < s.size,(s[1]'h).toNat=bN s.data.toList 1:=fun h=>get_bN s _ h
  have g2:∀ h:2 < s.size,(s[2]'h).toNat=bN s.data.toList 2:=fun h=>get_bN s _ h
  have g3:∀ h:3 < s.size,(s[3]'h).toNat=bN s.data.toList 3:=fun h=>get_bN s _ h
  have h1:=bN_lt s.data.toList 0;have h2:=bN_lt s.data.toList 1;have h3:=bN_lt s.data.toList 2;have h4:=bN_lt s.data.toList 3;generalize bN s.data.toList 0=b0 at *;generalize bN s.data.toList 1=b1 at *;generalize bN s.data.toList 2=b2 at *;generalize bN s.data.toList 3=b3 at *;clear hne;have fin:∀ (c d:Int) (w':World),(c=(chrN s.size b0 b1 b2 b3).1∧d=(chrN s.size b0 b1 b2 b3).2)→Below w.heap.size w w'→Ending.returned (.tuple #[.int .i64 c,.int .i64 d])=Ending.returned (.tuple #[.int .i64 (chrN s.size b0 b1 b2 b3).1,.int .i64 (chrN s.size b0 b1 b2 b3).2])∧Below w.heap.size w w':=by
    rintro c d w' ⟨rfl,rfl⟩ h;exact ⟨rfl,h⟩
  have FIN:=Lib.hid fin;clear fin;rcases (by omega:b0 < 128∨(192≤b0∧b0 < 224)∨(224≤b0∧b0 < 240)∨(240≤b0∧b0 < 248)∨((128≤b0∧b0 < 192)∨248≤b0)) with hc | hc | hc | hc | hc
  · have hz:=Lib.hid (szB_1 hc)
    go_enter Tryz.func163,Tryz.ntmps163
    go_wp2_with (first | (go_at_call 172;refine (size_at _ _ hz.out _).mono ?_;rintro e w' ⟨rfl,rfl⟩))
    all_goals try (refine wp_loop_rounds 1 ?_;rw [rounds_succ];go_wp2_with (first | (go_at_call 173;refine (least_at _ 1 (by omega) _).mono ?_;rintro e w1 ⟨rfl,hb⟩;replace hb:=Below.then (w:=w) (by go_grown) hb)))
    all_goals go_ret2
    all_goals refine FIN.out _ _ _ ?_ (by go_grown)
    all_goals (unfold chrN;repeat' split)
    all_goals (constructor <;> first | rfl | omega | (simp only [];omega))
  · have hz:=Lib.hid (szB_2 hc)
    go_enter Tryz.func163,Tryz.ntmps163
    go_wp2_with (first | (go_at_call 172;refine (size_at _ _ hz.out _).mono ?_;rintro e w' ⟨rfl,rfl⟩))
    all_goals try (refine wp_loop_rounds 2 ?_;rw [rounds_succ];go_wp2_with (first | (go_at_call 173;refine (least_at _ 128 (by omega) _).mono ?_;rintro e w1 ⟨rfl,hb⟩;replace hb:=Below.then (w:=w) (by go_grown) hb)))
    all_goals try (rw [rounds_succ];go_wp2_with (first | (go_at_call 173;refine (least_at _ 128 (by omega) _).mono ?_;rintro e w1 ⟨rfl,hb⟩;replace hb:=Below.then (w:=w) (by go_grown) hb)))
    all_goals go_ret2
    all_goals refine FIN.out _ _ _ ?_ (by go_grown)
    all_goals (unfold chrN;repeat' split)
    all_goals (constructor <;> first | rfl | omega | (simp only [];omega))
  · have hz:=Lib.hid (szB_3 hc)
    go_enter Tryz.func163,Tryz.ntmps163
    go_wp2_with (first | (go_at_call 172;refine (size_at _ _ hz.out _).mono ?_;rintro e w' ⟨rfl,rfl⟩))
    all_goals try (refine wp_loop_rounds 3 ?_;rw [rounds_succ];go_wp2_with (first | (go_at_call 173;refine (least_at _ 2048 (by omega) _).mono ?_;rintro e w1 ⟨rfl,hb⟩;replace hb:=Below.then (w:=w) (by go_grown) hb)))
    all_goals try (rw [rounds_succ];go_wp2_with (first | (go_at_call 173;refine (least_at _ 2048 (by omega) _).mono ?_;rintro e w1 ⟨rfl,hb⟩;replace hb:=Below.then (w:=w) (by go_grown) hb)))
    all_goals try (rw [rounds_succ];go_wp2_with (first | (go_at_call 173;refine (least_at _ 2048 (by omega) _).mono ?_;rintro e w1 ⟨rfl,hb⟩;replace hb:=Below.then (w:=w) (by go_grown) hb)))
    all_goals go_ret2
    all_goals refine FIN.out _ _ _ ?_ (by go_grown)
    all_goals (unfold chrN;repeat' split)
    all_goals (constructor <;> first | rfl | omega | (simp only [];omega))
  · have hz:=Lib.hid (szB_4 hc)
    go_enter Tryz.func163,Tryz.ntmps163
    go_wp2_with (first | (go_at_call 172;refine (size_at _ _ hz.out _).mono ?_;rintro e w' ⟨rfl,rfl⟩))
    all_goals try (refine wp_loop_rounds 4 ?_;rw [rounds_succ];go_wp2_with (first | (go_at_call 173;refine (least_at _ 65536 (by omega) _).mono ?_;rintro e w1 ⟨rfl,hb⟩;replace hb:=Below.then (w:=w) (by go_grown) hb)))
    all_goals try (rw [rounds_succ];go_wp2_with (first | (go_at_call 173;refine (least_at _ 65536 (by omega) _).mono ?_;rintro e w1 ⟨rfl,hb⟩;replace hb:=Below.then (w:=w) (by go_grown) hb)))
    all_goals try (rw [rounds_succ];go_wp2_with (first | (go_at_call 173;refine (least_at _ 65536 (by omega) _).mono ?_;rintro e w1 ⟨rfl,hb⟩;replace hb:=Below.then (w:=w) (by go_grown) hb)))
    all_goals try (rw [rounds_succ];go_wp2_with (first | (go_at_call 173;refine (least_at _ 65536 (by omega) _).mono ?_;rintro e w1 ⟨rfl,hb⟩;replace hb:=Below.then (w:=w) (by go_grown) hb)))
    all_goals go_ret2
    all_goals refine FIN.out _ _ _ ?_ (by go_grown)
    all_goals (unfold chrN;repeat' split)
    all_goals (constructor <;> first | rfl | omega | (simp only [];omega))
  · have hz:=Lib.hid (szB_0 hc)
    go_enter Tryz.func163,Tryz.ntmps163
    go_wp2_with (first | (go_at_call 172;refine (size_at _ _ hz.out _).mono ?_;rintro e w' ⟨rfl,rfl⟩))
    all_goals go_ret2
    all_goals refine FIN.out _ _ _ ?_ (by go_grown)
    all_goals (unfold chrN;repeat' split)
    all_goals (constructor <;> first | rfl | omega | (simp only [];omega))
end Go.Proofs.YtehpihmgjbmoaaaGreatDoor
namespace Go.Proofs.YtehpihmgjbmoaaaGreatDoor
open Go.RowKit
theorem extract_ba (s:ByteArray) (k:Nat):(s.extract k s.size).data.toList=s.data.toList.drop k:=Lib.extract_to_end s k
set_option maxRecDepth 100000 in
theorem ref02_Count (s:ByteArray) (w:World) (hs:s.size≤140737488355328) :
    Calls Tryz.prog 159 #[.string s] w fun e w'=>e=.returned (.int .i64 (countL s.data.toList))∧Below w.heap.size w w':=by
  have fin:∀ (c:Int) (w':World),c=countL s.data.toList→Below w.heap.size w w'→Ending.returned (.int .i64 c)=Ending.returned (.int .i64 (countL s.data.toList))∧Below w.heap.size w w':=by
    rintro c w' rfl h;exact ⟨rfl,h⟩
  have FIN:=Lib.hid fin;clear fin;by_cases hl:65535 < s.size
  · have hl':(65535:Int) < (s.size:Int):=by omega
    go_enter Tryz.func159,Tryz.ntmps159
    go_wp2_with fail
    go_ret
    refine FIN.out _ _ ?_ (Below.refl _ _);unfold countL;rw [if_neg (by rw [← Lib.size_eq];omega)]
  · have hl':(s.size:Int)≤65535:=by omega
    go_enter Tryz.func159,Tryz.ntmps159
    go_wp2_with fail
    go_loopw [3,4] (fun m a wr=>∃ k n:Nat,k≤s.size∧n≤k∧a=.int .i64 k∧m=.int .i64 n∧Hid ((cntO (s.data.toList.drop k)).map (n+·)=cntO s.data.toList)∧Below w.heap.size w wr)
      (fun _ a _=>s.size - (intOf a).toNat)
    case atStart=>exact ⟨0,0,by omega,by omega,rfl,rfl,by simp [Hid],Below.refl _ _⟩
    case round =>
      obtain ⟨k,n,hk,hn,rfl,rfl,HR,hb⟩:=hrel;by_cases hlt:k < s.size
      · have hne:s.data.toList.drop k≠[]:=by
          intro e;have:=congrArg List.length e;have hL:=Lib.size_eq s;simp at this;omega
        have hst:=cntO_step _ hne;have hle:=chrD_le (s.data.toList.drop k);have hcall:=ref02_character (s.extract k s.size) wr (by have hL:=Lib.size_eq s;rw [Lib.size_eq,extract_ba];simp;omega) (by have hL:=Lib.size_eq s;rw [Lib.size_eq,extract_ba];simp;omega);rw [extract_ba] at hcall;rw [List.length_drop,← Lib.size_eq] at hle;generalize hch:chrD (s.data.toList.drop k)=ch at hst hle hcall;obtain ⟨c,d⟩:=ch;simp only at hst hle hcall
        have HC:=Lib.hid hcall;have HS:=Lib.hid hst;clear hcall hst hch;by_cases hd:d=0
        · subst hd
          go_wp2_with (go_at_call 163;refine HC.out.mono ?_;rintro e w1 ⟨rfl,hb1⟩;replace hb1:=Below.then hb hb1)
          go_ret
          refine FIN.out _ _ ?_ hb1;have h1:=HR.out;rw [HS.out] at h1;unfold countL told;rw [if_pos (by rw [← Lib.size_eq];omega),← h1];simp
        · have hd':¬ ((d:Int)=0):=by omega
          go_wp2_with (go_at_call 163;refine HC.out.mono ?_;rintro e w1 ⟨rfl,hb1⟩;replace hb1:=Below.then hb hb1)
          go_roundw
          case rel =>
            refine ⟨k+d,n+1,by omega,by omega,by go_num,by go_num,?_,hb1⟩;show _=_;rw [← HR.out,HS.out,if_neg hd,List.drop_drop,Option.map_map];congr 1;funext x
            simp;omega
          case measure=>simp [intOf];omega
      · have:k=s.size:=by omega
        subst this;go_wp2_with fail
        go_ret
        refine FIN.out _ _ ?_ hb;have h1:=HR.out;rw [List.drop_eq_nil_of_le (by rw [← Lib.size_eq];omega),cntO_nil] at h1;unfold countL told;rw [if_pos (by rw [← Lib.size_eq];omega),← h1];simp
theorem ref02_Valid (s:ByteArray) (w:World) (hs:s.size≤140737488355328) :
    Calls Tryz.prog 151 #[.string s] w fun e w'=>e=.returned (.bool (validL s.data.toList))∧Below w.heap.size w w':=by
  rw [← countL_valid];go_enter Tryz.func151,Tryz.ntmps151
  go_wp2_with (go_at_call 159;refine (ref02_Count _ _ hs).mono ?_;rintro e w1 ⟨rfl,hb1⟩)
  go_ret
  exact ⟨rfl,hb1⟩
theorem text_whole (s:ByteArray) (w:World) (hE:Env w) :
    Calls Tryz.prog 160 #[.string s] w fun e w'=>e=.returned (.bool (decide (1 < ((Lib.decodeGo s).2:Int))))∧Below w.heap.size w w':=by
  generalize hd:Lib.decodeGo s=d;have HC:=Lib.hid (Tryz.utf8_DecodeRuneInString s w hE.tabs);rw [hd] at HC;clear hd;go_enter Tryz.func160,Tryz.ntmps160
  go_wp2_with (go_at_call 164;refine HC.out.mono ?_;rintro e w1 ⟨rfl,hb1⟩)
  go_ret
  exact ⟨rfl,hb1⟩
theorem iter_kept {w w':World} {k:Nat} {o:Obj} (h:w.heap[k]? = some o) (hb:Below w.heap.size w w'):w'.heap[k]? = some o:=by
  have hlt:k < w.heap.size:=(Array.getElem?_eq_some_iff.1 h).1;rw [hb.block k hlt,h]
set_option maxRecDepth 100000 in
theorem text_Count (s:ByteArray) (w:World) (hE:Env w) (hs:s.size≤140737488355328) :
    Calls Tryz.prog 156 #[.string s] w fun e w'=>e=.returned (.int .i64 (countL s.data.toList))∧Below w.heap.size w w':=by
  have fin:∀ (c:Int) (w':World),c=countL s.data.toList→Below w.heap.size w w'→Ending.returned (.int .i64 c)=Ending.returned (.int .i64 (countL s.data.toList))∧Below w.heap.size w w':=by
    rintro c w' rfl h;exact ⟨rfl,h⟩
  have FIN:=Lib.hid fin;clear fin;by_cases hl:65535 < s.size
  · have hl':(65535:Int) < (s.size:Int):=by omega
    go_enter Tryz.func156,Tryz.ntmps156
    go_wp2_with fail
    go_ret
    refine FIN.out _ _ ?_ (Below.refl _ _);unfold countL;rw [if_neg (by rw [← Lib.size_eq];omega)]
  · have hl':(s.size:Int)≤65535:=by omega
    go_enter Tryz.func156,Tryz.ntmps156
    go_wp2_with fail
    go_loopw [3] (fun m wr=>∃ k n:Nat,k≤s.size∧n≤k∧m=.int .i64 n∧wr.heap[w.heap.size]? = some (.stringIter s k)∧Hid ((cntO (s.data.toList.drop k)).map (n+·)=cntO s.data.toList)∧Below w.heap.size w wr)
      (fun _ wr=>s.size - wr.iterPos w.heap.size)
    case atStart=>exact ⟨0,0,by omega,by omega,rfl,by simpa using World.iter_heap w s 0,by simp [Hid],(Below.refl _ _).alloc (Nat.le_refl _) _⟩
    case round =>
      obtain ⟨k,n,hk,hn,rfl,hit,HR,hb⟩:=hrel;have hsz:w.heap.size < wr.heap.size:=(Array.getElem?_eq_some_iff.1 hit).1;by_cases hlt:k < s.size
      · have hnx:∀ ty,(Instr.next (.pointer (some ⟨w.heap.size,0,none⟩)) true ty).run Tryz.prog wr=_:=fun ty=>Lib.run_next_any_at wr w.heap.size s k ty hit hlt
        have hne:s.data.toList.drop k≠[]:=by
          intro e;have:=congrArg List.length e;have hL:=Lib.size_eq s;simp at this;omega
        have hst:=cntO_step _ hne;have hle:=Lib.decodeL_le _ hne;have hpos:=Lib.decodeL_width (s.data.toList.drop k);rw [List.length_drop,← Lib.size_eq] at hle;have hch:chrD (s.data.toList.drop k)=cut (Lib.decodeL (s.data.toList.drop k)):=by unfold chrD cut;simp only [hne,false_or]
        have hrn:=Lib.decodeL_rune (s.data.toList.drop k);have hdr:=Lib.decodeL_drop s k;rw [hdr] at hle hpos hch hrn;rw [hch] at hst;have hit2:=Lib.iterAt_heap wr w.heap.size s k (k+(Utf8.decode s k).2) hit;have hb2:=Lib.below_iterAt hb (Nat.le_refl _) s (k+(Utf8.decode s k).2);have hcall:=text_whole (s.extract k s.size) (wr.iterAt w.heap.size s (k+(Utf8.decode s k).2)) (hE.below hb2);have hdg:Lib.decodeGo (s.extract k s.size)=Utf8.decode s k:=by
          have hL:=Lib.size_eq (s.extract k s.size);rw [extract_ba] at hL;have h0:(s.extract k s.size).size≠0:=by rw [hL];intro e;exact hne (List.eq_nil_of_length_eq_zero e)
          unfold Lib.decodeGo;rw [if_neg h0,← hdr,← extract_ba];unfold Lib.decodeL;rw [Lib.mk_data]
        rw [hdg] at hcall;generalize hd:Utf8.decode s k=d at *;obtain ⟨c,z⟩:=d;simp only at hle hpos hrn hit2 hb2 hnx
        have HC:=Lib.hid hcall;have HS:=Lib.hid hst;clear hcall hst hch hdr hdg hd;have hbad:cut (c,z)=(0,0)→countL s.data.toList=-1:=by
          intro h;have h1:=HR.out;rw [HS.out,h] at h1;unfold countL told;rw [if_pos (by rw [← Lib.size_eq];omega),← h1];simp
        have HB:=Lib.hid hbad;clear hbad;by_cases c0:c=0
        · have c0':(c:Int)=0:=by omega
          go_wp2_with fail
          go_ret
          exact FIN.out _ _ (by rw [HB.out (by subst c0;rfl)]) hb2
        · have c0':¬ (c:Int)=0:=by omega
          by_cases c1:c=65533
          · have c1':(c:Int)=65533:=by omega
            by_cases z1:z=1
            · subst z1
              have z1':decide ((1:Int) < ((1:Nat):Int))=false:=by decide
              rw [z1'] at HC;go_wp2_with (go_at_call 160;refine HC.out.mono ?_;rintro e w1 ⟨rfl,hb1⟩;replace hb1:=Below.then hb2 hb1)
              go_ret
              exact FIN.out _ _ (by rw [HB.out (by subst c1;rfl)]) hb1
            · have z1':(1:Int) < (z:Int):=by omega
              have h2:cut (c,z)=(c,z):=cut_ok _ _ c0 (Or.inl z1);go_wp2_with (go_at_call 160;refine HC.out.mono ?_;rintro e w1 ⟨rfl,hb1⟩;have hit3:=iter_kept hit2 hb1;replace hb1:=Below.then hb2 hb1)
              go_roundw
              case rel =>
                refine ⟨k+z,n+1,by omega,by omega,by go_num,hit3,?_,hb1⟩;show _=_;rw [← HR.out,HS.out,h2,if_neg (by simp only;omega),List.drop_drop,Option.map_map];congr 1;funext x
                simp;omega
              case measure=>simp only [World.iterPos,hit3,hit];omega
          · have c1':¬ (c:Int)=65533:=by omega
            have h2:cut (c,z)=(c,z):=by unfold cut;rw [if_neg];simp only;omega
            go_wp2_with fail
            go_roundw
            case rel =>
              refine ⟨k+z,n+1,by omega,by omega,by go_num,hit2,?_,hb2⟩;show _=_;rw [← HR.out,HS.out,h2,if_neg (by simp only;omega),List.drop_drop,Option.map_map];congr 1;funext x
              simp;omega
            case measure=>simp only [World.iterPos,hit2,hit];omega
      · have:k=s.size:=by omega
        subst this;have hnx:∀ ty,(Instr.next (.pointer (some ⟨w.heap.size,0,none⟩)) true ty).run Tryz.prog wr=_:=fun ty=>Lib.run_next_end_at wr w.heap.size s _ ty hit hlt
        go_wp2_with fail
        go_ret
        refine FIN.out _ _ ?_ hb;have h1:=HR.out;rw [List.drop_eq_nil_of_le (by rw [← Lib.size_eq];omega),cntO_nil] at h1;unfold countL told;rw [if_pos (by rw [← Lib.size_eq];omega),← h1];simp
theorem text_Valid (s:ByteArray) (w:World) (hE:Env w) (hs:s.size≤140737488355328) :
    Calls Tryz.prog 144 #[.string s] w fun e w'=>e=.returned (.bool (validL s.data.toList))∧Below w.heap.size w w':=by
  rw [← countL_valid];go_enter Tryz.func144,Tryz.ntmps144
  go_wp2_with (go_at_call 156;refine (text_Count _ _ hE hs).mono ?_;rintro e w1 ⟨rfl,hb1⟩)
  go_ret
  exact ⟨rfl,hb1⟩
end Go.Proofs.YtehpihmgjbmoaaaGreatDoor
namespace Go.Proofs.YtehpihmgjbmoaaaGreatDoor
open Go.RowKit
abbrev pmS:ByteArray:={ data:=#[43,35] }
theorem pm0 (h:0 < pmS.size):(pmS[0]'h)=43:=rfl
theorem pm1 (h:1 < pmS.size):(pmS[1]'h)=35:=rfl
set_option maxRecDepth 100000 in
theorem IndexRune_high (r:Int) (w:World) (h0:128≤r) (h9:r≤1114111) (hv:Utf8.valid r=true) :
    Calls Tryz.prog 165 #[.string pmS,.int .i32 r] w fun e w'=>e=.returned (.int .i64 (-1))∧Below w.heap.size w w':=by
  have hps:pmS.size=2:=rfl;by_cases hr:r=65533
  · subst hr
    have n0:∀ ty,(Instr.next (.pointer (some ⟨w.heap.size,0,none⟩)) true ty).run Tryz.prog (w.iter pmS 0)=_:=fun ty=>run_next_ascii w pmS 0 ty (by decide) (by decide)
    have n1:∀ ty,(Instr.next (.pointer (some ⟨w.heap.size,0,none⟩)) true ty).run Tryz.prog (w.iter pmS 1)=_:=fun ty=>run_next_ascii w pmS 1 ty (by decide) (by decide)
    have n2:∀ ty,(Instr.next (.pointer (some ⟨w.heap.size,0,none⟩)) true ty).run Tryz.prog (w.iter pmS 2)=_:=fun ty=>run_next_end w pmS 2 ty (by decide)
    rw [pm0] at n0;rw [pm1] at n1;go_enter Tryz.func165,Tryz.ntmps165
    go_wp2_with fail
    refine wp_loop_rounds 3 ?_;iterate 3 (rw [rounds_succ];go_wp2_with fail)
    go_ret
    exact ⟨rfl,by unfold World.iter;go_grown⟩
  · have hvr:Lib.validRune r=true:=by rw [← hv];exact (validRune_eq r).symm
    have hvr':=Lib.hid hvr;obtain ⟨e1,e2,e3⟩:=encode_facts r hv h0;generalize hs:Utf8.encode r=t at *;have hr':((r:Int) == 65533)=false:=beq_eq_false_iff_ne.2 hr;have CB:=Lib.hid (Tryz.strings_IndexByte);have hconv:∀ w:World,(convert 21 9 (.int .i32 r)).run Tryz.prog w=.ok (.string t) w:=fun w=>by rw [run_convert_int_string w _ _ _ _ (by kernel_rfl) Tryz.underlying9,hs]
    clear hs hv hvr;have CV:Calls Tryz.prog 176 #[.int .i32 r] w fun e w'=>e=.returned (.bool true)∧w=w':=by rw [← hvr'.out];exact (Tryz.utf8_ValidRune r w).mono fun _ _ h=>⟨h.1,h.2.symm⟩
    have HV:=Lib.hid CV;clear CV;by_cases ht:t.size=2
    · have hlast:=e3 (by omega)
      have e3':∀ h:1 < t.size,128≤(t[1]'h).toNat:=by
        intro h;have:t.size - 1=1:=by omega
        simpa only [this] using hlast
      clear e3 hlast;have g1:=e3' (by omega);generalize hb:(t[1]'(by omega)).toNat=b at *;have hne:(((pmS[1]'(by decide)).toNat:Int) != (b:Int))=true:=by rw [pm1];rw [bne_iff_ne];show (35:Int)≠_;omega
      go_enter Tryz.func165,Tryz.ntmps165
      go_wp2_with (first | (go_at_call 176;refine HV.out.mono ?_;rintro e w' ⟨rfl,rfl⟩))
      go_step3
      go_wp2_with fail
      refine wp_loop_rounds 1 ?_;rw [rounds_succ];go_wp2_with fail
      go_step3
      go_wp2_with fail
      go_quiet (fail)
      generalize hw2:World.drewN w _=w2;have hq:=below_draws hw2;clear hw2;go_wp2_with fail
      go_quiet ((go_at_call 175;exact Calls.quiet_of_same (CB.out _ _ _)))
      generalize hw3:World.drewN w2 _=w3;have hq3:=Below.then hq (below_draws hw3);clear hw3
      go_wp2_with fail
      repeat (first | rw [Exit.noGoto_ret] | simp only [Exit.inBlock,Exit.then])
      go_ret
      exact ⟨rfl,by go_grown⟩
    · go_enter Tryz.func165,Tryz.ntmps165
      go_wp2_with (first | (go_at_call 176;refine HV.out.mono ?_;rintro e w' ⟨rfl,rfl⟩))
      go_step3
      go_wp2_with fail
      refine wp_loop_rounds 1 ?_;rw [rounds_succ];go_wp2_with fail
      try rw [Exit.noGoto_ret]
      go_ret
      exact ⟨rfl,Below.refl _ _⟩
theorem pm_list:pmS.data.toList=[43,35]:=rfl
theorem plain_contains (b:UInt8):([43,35]:List UInt8).contains b=(b == 43 || b == 35):=by
  by_cases h:b=43
  · subst h;rfl
  · by_cases h2:b=35
    · subst h2;rfl
    · have e1:(b == 43)=false:=by simpa using h
      have e2:(b == 35)=false:=by simpa using h2
      simp [List.contains,List.elem,e1,e2]
theorem indexAny_pm:∀ s:List UInt8,decide (0≤Lib.indexAny s [43,35])=!plainL s
  | []=>by simp [Lib.indexAny,plainL]
  | b::l=>by
    have ih:=indexAny_pm l;have hge:=Lib.indexAny_ge [43,35] l;have hc:=plain_contains b;unfold Lib.indexAny;have hp:plainL (b::l)=(!(b == 43 || b == 35) && plainL l):=rfl;rw [hc,hp];cases hb:(b == 43 || b == 35)
    · simp only [Bool.not_false,Bool.true_and,Bool.false_eq_true,if_false]
      rw [← ih];by_cases h:Lib.indexAny l [43,35]=-1
      · rw [h];decide
      · rw [if_neg (by simpa using h)]
        have h1:(0:Int)≤Lib.indexAny l [43,35]+1:=by omega
        have h2:(0:Int)≤Lib.indexAny l [43,35]:=by omega
        rw [decide_eq_true h1,decide_eq_true h2]
    · simp
theorem plainL_drop (s:List UInt8) (k:Nat) (h:k < s.length):plainL (s.drop k)=(!(s[k] == 43 || s[k] == 35) && plainL (s.drop (k+1))):=by
  rw [List.drop_eq_getElem_cons h];rfl
theorem utf8_valid_decode (s:ByteArray) (k:Nat) (h:128≤(Utf8.decode s k).1):Utf8.valid ((Utf8.decode s k).1:Int)=true:=by
  rw [validRune_eq,validRune];have hN:=Lib.decode_at s k;generalize s.size - k=n at hN;generalize (s.get! k).toNat=b0 at hN;generalize (s.get! (k+1)).toNat=b1 at hN;generalize (s.get! (k+2)).toNat=b2 at hN;generalize (s.get! (k+3)).toNat=b3 at hN;rw [hN] at h ⊢;clear hN;rw [decide_eq_true_eq];generalize hd:Lib.decodeN n b0 b1 b2 b3=d at h ⊢;unfold Lib.decodeN at hd;repeat' split at hd
  all_goals subst hd
  all_goals simp only at h ⊢
  all_goals omega
theorem decode_byte (s:ByteArray) (k:Nat) (h:k < s.size):((Utf8.decode s k).1 < 128→(Utf8.decode s k).1=(s[k]'h).toNat∧(Utf8.decode s k).2=1)∧(128≤(Utf8.decode s k).1→128≤(s[k]'h).toNat):=by
  by_cases ha:(s[k]'h).toNat < 128
  · rw [decode_ascii s k h ha]
    exact ⟨fun _=>⟨rfl,rfl⟩,fun h=>absurd h (by simp only;omega)⟩
  · have:=decode_high s k h (by omega)
    exact ⟨fun h=>by omega,fun _=>by omega⟩
theorem width_ge (s:ByteArray) (k:Nat) (h:k < s.size):1≤(Utf8.decode s k).2∧k+(Utf8.decode s k).2≤s.size:=by
  have hne:s.data.toList.drop k≠[]:=by
    intro e;have:=congrArg List.length e;have hL:=Lib.size_eq s;simp at this;omega
  have h1:=Lib.decodeL_le _ hne;have h2:=Lib.decodeL_width (s.data.toList.drop k);rw [Lib.decodeL_drop] at h1 h2;rw [List.length_drop,← Lib.size_eq] at h1;omega
theorem plain_char (s:ByteArray) (k:Nat) (h:k < s.size) (hc:128≤(Utf8.decode s k).1):plainL (s.data.toList.drop k)=plainL (s.data.toList.drop (k+(Utf8.decode s k).2)):=by
  have hw:=width_ge s k h;have hL:=Lib.size_eq s;have key:∀ j,k≤j→j < k+(Utf8.decode s k).2→128≤(s.get! j).toNat:=by
    have hN:=Lib.decode_at s k;have h0:(s.get! k).toNat < 128→(Utf8.decode s k).1 < 128:=by
      intro h1;rw [hN];unfold Lib.decodeN;rw [if_pos h1];exact h1
    intro j hj1 hj2;have g0:128≤(s.get! k).toNat:=by
      apply Nat.le_of_not_lt
      intro h1;have:=h0 h1;omega
    rw [hN] at hj2;have hjk:j=k∨j=k+1∨j=k+2∨j=k+3:=by
      have:(Lib.decodeN (s.size - k) (s.get! k).toNat (s.get! (k+1)).toNat (s.get! (k+2)).toNat (s.get! (k+3)).toNat).2≤4:=by
        unfold Lib.decodeN;repeat' split
        all_goals simp
      omega
    clear hN h0;rcases hjk with rfl | rfl | rfl | rfl
    · exact g0
    all_goals
      generalize s.size - k=n at hj2;generalize (s.get! k).toNat=b0 at hj2 g0;generalize (s.get! (k+1)).toNat=b1 at hj2 ⊢;generalize (s.get! (k+2)).toNat=b2 at hj2 ⊢;generalize (s.get! (k+3)).toNat=b3 at hj2 ⊢;generalize hd:Lib.decodeN n b0 b1 b2 b3=d at hj2;unfold Lib.decodeN at hd;repeat' split at hd
      all_goals subst hd
      all_goals simp only at hj2
      all_goals omega
  generalize (Utf8.decode s k).2=z at hw key;clear hc;obtain ⟨hz,hle⟩:=hw;have step:∀ m,m≤z→plainL (s.data.toList.drop k)=plainL (s.data.toList.drop (k+m)):=by
    intro m;induction m with
    | zero=>intro _;rfl
    | succ m ih =>
      intro hm;rw [ih (by omega)];have hlt:k+m < s.data.toList.length:=by omega
      rw [plainL_drop _ _ hlt];have hb:=key (k+m) (by omega) (by omega);have e:s.data.toList[k+m]=s.get! (k+m):=by
        have h1:k+m < s.size:=by omega
        have:=get_at s (k+m) h1;rw [Nat.add_zero] at this;rw [this];rfl
      rw [e];have n1:(s.get! (k+m) == 43)=false:=by
        rw [beq_eq_false_iff_ne];intro h;rw [h] at hb;revert hb;decide
      have n2:(s.get! (k+m) == 35)=false:=by
        rw [beq_eq_false_iff_ne];intro h;rw [h] at hb;revert hb;decide
      rw [n1,n2];rfl
  exact step z (Nat.le_refl _)
end Go.Proofs.YtehpihmgjbmoaaaGreatDoor
namespace Go.Proofs.YtehpihmgjbmoaaaGreatDoor
open Go.RowKit
def SomeIndex (p:Bool) (w:World) (e:Ending) (w':World):Prop:=∃ n:Int,e=.returned (.int .i64 n)∧decide (0≤n)=!p∧Below w.heap.size w w'
set_option maxRecDepth 100000 in
theorem IndexAny_short (s:ByteArray) (w:World) (h8:s.size≤8) :
    Calls Tryz.prog 161 #[.string s,.string pmS] w (SomeIndex (plainL s.data.toList) w):=by
  have h8':decide ((8:Int) < (s.size:Int))=false:=decide_eq_false (by omega);have hA:=Lib.hid (Tryz.strings_shouldUseASCIISet);have hR:=Lib.hid (Tryz.strings_IndexRune_ascii);have hH:=Lib.hid (IndexRune_high);go_enter Tryz.func161,Tryz.ntmps161
  go_wp2_with (first | (go_at_call 166;refine (hA.out _ _).mono ?_;rintro e w' ⟨rfl,hw⟩;rw [hw,h8']))
  go_loopw [9,10] (fun _ _ wr=>∃ k:Nat,k≤s.size∧wr.heap[w.heap.size]? = some (.stringIter s k)∧Hid (plainL (s.data.toList.drop k)=plainL s.data.toList)∧Below w.heap.size w wr) (fun _ _ wr=>s.size - wr.iterPos w.heap.size)
  case atStart=>exact ⟨0,by omega,by simpa using World.iter_heap w s 0,rfl,(Below.refl _ _).alloc (Nat.le_refl _) _⟩
  case round =>
    obtain ⟨k,hk,hit,HP,hb⟩:=hrel;by_cases hlt:k < s.size
    · have hnx:∀ ty,(Instr.next (.pointer (some ⟨w.heap.size,0,none⟩)) true ty).run Tryz.prog wr=_:=fun ty=>Lib.run_next_any_at wr w.heap.size s k ty hit hlt
      have hit2:=Lib.iterAt_heap wr w.heap.size s k (k+(Utf8.decode s k).2) hit;have hb2:=Lib.below_iterAt hb (Nat.le_refl _) s (k+(Utf8.decode s k).2);have hw:=width_ge s k hlt;have hle:=decode_le s k;by_cases hc:(Utf8.decode s k).1 < 128
      · obtain ⟨e1,e2⟩:=(decode_byte s k hlt).1 hc
        have hd:=plainL_drop s.data.toList k (by rw [← Lib.size_eq];exact hlt);rw [e1,e2] at hnx;rw [e2] at hit2 hb2 hw;have hi:=indexAny_pm [s[k]'hlt];have hx:((s[k]'hlt) == 43 || (s[k]'hlt) == 35)=decide (0≤Lib.indexByte [43,35] (s[k]'hlt)):=by
          rw [← Lib.contains_iff_indexByte,plain_contains]
        have e:s.data.toList[k]'(by rw [← Lib.size_eq];exact hlt)=s[k]'hlt:=rfl;rw [e,hx] at hd;rw [e1] at hc;clear e e1 e2 hi hx hle;generalize s[k]'hlt=b at *;have hbk:((b.toNat:Int)).toNat.toUInt8=b:=by simp
        have hRb:=hR.out pmS (b.toNat:Int) (wr.iterAt w.heap.size s (k+1)) (by omega) (by omega);rw [hbk,pm_list] at hRb;have HR:=Lib.hid hRb;have HD:=Lib.hid hd;clear hRb hd hbk;by_cases hin:(0:Int)≤Lib.indexByte [43,35] b
        · go_wp2_with (first | (go_at_call 165;refine HR.out.mono ?_;rintro e w' ⟨rfl,hw'⟩;rw [hw']))
          go_ret
          refine ⟨_,rfl,?_,hb2⟩;rw [← HP.out,HD.out,decide_eq_true hin];simp
        · go_wp2_with (first | (go_at_call 165;refine HR.out.mono ?_;rintro e w' ⟨rfl,hw'⟩;rw [hw']))
          go_roundw
          case rel =>
            refine ⟨k+1,by omega,hit2,?_,hb2⟩;show _=_;rw [← HP.out,HD.out,decide_eq_false (by omega)];simp
          case measure=>simp only [World.iterPos,hit2,hit];omega
      · have hv:=utf8_valid_decode s k (by omega)
        have hpc:=plain_char s k hlt (by omega);have hmx:(Utf8.decode s k).1≤1114111:=by
          have:=Lib.decodeL_rune (s.data.toList.drop k);rw [Lib.decodeL_drop] at this;exact this
        generalize Utf8.decode s k=d at *;obtain ⟨c,z⟩:=d;simp only at *
        have HC:=Lib.hid (hH.out (c:Int) (wr.iterAt w.heap.size s (k+z)) (by omega) (by omega) hv);have HD:=Lib.hid hpc;clear hpc hv;go_wp2_with (first | (go_at_call 165;refine HC.out.mono ?_;rintro e w1 ⟨rfl,hb3⟩;have hit3:=iter_kept hit2 hb3;replace hb3:=Below.then hb2 hb3))
        go_roundw
        case rel =>
          refine ⟨k+z,by omega,hit3,?_,hb3⟩;show _=_;rw [← HP.out,HD.out]
        case measure=>simp only [World.iterPos,hit3,hit];omega
    · have:k=s.size:=by omega
      subst this;have hnx:∀ ty,(Instr.next (.pointer (some ⟨w.heap.size,0,none⟩)) true ty).run Tryz.prog wr=_:=fun ty=>Lib.run_next_end_at wr w.heap.size s _ ty hit hlt
      go_wp2_with fail
      go_ret
      refine ⟨_,rfl,?_,hb⟩;rw [← HP.out,List.drop_eq_nil_of_le (by rw [← Lib.size_eq];omega)];rfl
theorem IndexAny_pm (s:ByteArray) (w:World) (hs:s.size < 4294967281) :
    Calls Tryz.prog 161 #[.string s,.string pmS] w (SomeIndex (plainL s.data.toList) w):=by
  by_cases h8:s.size≤8
  · exact IndexAny_short s w h8
  · refine (Tryz.strings_IndexAny_long (zero_of_info (n:=256) (by kernel_rfl)).1 s pmS w (by decide) (by omega) hs (by decide) ?_).mono ?_
    · intro j b hb
      rw [pm_list] at hb;match j,hb with
      | 0,hb=>simp at hb;subst hb;decide
      | 1,hb=>simp at hb;subst hb;decide
    · rintro e w' ⟨rfl,rfl⟩
      exact ⟨_,rfl,by rw [pm_list];exact indexAny_pm _,by go_grown⟩
theorem ContainsAny_pm (s:ByteArray) (w:World) (hs:s.size < 4294967281) :
    Calls Tryz.prog 157 #[.string s,.string pmS] w fun e w'=>e=.returned (.bool (!plainL s.data.toList))∧Below w.heap.size w w':=by
  go_enter Tryz.func157,Tryz.ntmps157
  go_wp2_with (first | (go_at_call 161;refine (IndexAny_pm s _ hs).mono ?_;rintro e w' ⟨n,rfl,hn,hb⟩))
  go_ret
  exact ⟨rfl,hb⟩
end Go.Proofs.YtehpihmgjbmoaaaGreatDoor
namespace Go.Proofs.YtehpihmgjbmoaaaGreatDoor
open Go.RowKit
theorem split_levels (s:ByteArray) (w:World) (hE:Env w) (hs:s.size < 4294967281):Calls Tryz.prog 158 #[.string s,.string ⟨#[47]⟩] w (RetTexts (levelsL (bl s)) w):=by
  obtain ⟨m,hm⟩:=hE.most;have hL:=Lib.splitB_all ⟨#[47]⟩ (by decide) 0 _ s rfl;have hD:=Lib.splitB_data ⟨#[47]⟩ 0 (Lib.countB s ⟨#[47]⟩) s;have hC:=Tryz.strings_Split s ⟨#[47]⟩ m w hs hm (by decide);rw [← hL] at hC;generalize Lib.splitB ⟨#[47]⟩ 0 (Lib.countB s ⟨#[47]⟩) s=L at *;have hD':L.map bl=levelsL (bl s):=by
    show L.map (·.data.toList)=_;rw [hD];exact splitK_levels _
  refine hC.mono ?_;rintro e w' ⟨rfl,hw⟩;subst hw;refine ⟨L,_,_,rfl,hD',?_,by go_grown⟩;intro j v hv;refine ⟨_,_,rfl,?_⟩;rw [Nat.zero_add];rw [cell_of_row _ _ _ _ _ _ (heap_alloc_new w _)];simpa using hv
theorem packet_name (s:ByteArray) (w:World) (hE:Env w) (hs:s.size < 4294967281) :
    Calls Tryz.prog 145 #[.string s] w fun e w'=>e=.returned (.bool (nameL (bl s)))∧Below w.heap.size w w':=by
  have hV:=Lib.hid (text_Valid s w hE (by omega));have hC:=Lib.hid (fun w1=>ContainsAny_pm s w1 hs);rw [show s.data.toList=bl s from rfl] at hV hC;cases hemp:(bl s).isEmpty
  · have h1:s.toList.isEmpty=false:=by rw [empty_toList];exact hemp
    cases hv:validL (bl s)
    · rw [hv] at hV
      go_enter Tryz.func145,Tryz.ntmps145
      go_wp2_with (first | (go_at_call 144;refine hV.out.mono ?_;rintro e w1 ⟨rfl,hb⟩))
      go_ret
      exact ⟨ret_bool (by unfold nameL;rw [hv];simp),hb⟩
    · rw [hv] at hV
      go_enter Tryz.func145,Tryz.ntmps145
      go_wp2_with (first | (go_at_call 144;refine hV.out.mono ?_;rintro e w1 ⟨rfl,hb⟩) | (go_at_call 157;refine (hC.out _).mono ?_;rintro e w2 ⟨rfl,hb2⟩;replace hb2:=Below.then hb hb2))
      go_ret
      exact ⟨ret_bool (by unfold nameL;rw [hv,hemp];simp),hb2⟩
  · have h1:s.toList.isEmpty=true:=by rw [empty_toList];exact hemp
    go_enter Tryz.func145,Tryz.ntmps145
    go_wp2_with fail
    go_ret
    exact ⟨ret_bool (by unfold nameL;rw [hemp];rfl),Below.refl _ _⟩
theorem packet_filter (s:ByteArray) (w:World) (hE:Env w) (hs:s.size < 4294967281) :
    Calls Tryz.prog 146 #[.string s] w fun e w'=>e=.returned (.bool (filterL (bl s)))∧Below w.heap.size w w':=by
  have hV:=Lib.hid (text_Valid s w hE (by omega));have hL:=Lib.hid (fun w1 (h:Env w1)=>split_levels s w1 h hs);by_cases hemp:(bl s).isEmpty=true
  · have h1:s.toList.isEmpty=true:=by rw [empty_toList];exact hemp
    go_enter Tryz.func146,Tryz.ntmps146
    go_wp2_with fail
    go_ret
    exact ⟨ret_bool (by unfold filterL;rw [hemp];rfl),Below.refl _ _⟩
  · have hemp':(bl s).isEmpty=false:=by simpa using hemp
    have h1:s.toList.isEmpty=false:=by rw [empty_toList];exact hemp'
    cases hv:validL (bl s)
    · rw [show s.data.toList=bl s from rfl,hv] at hV
      go_enter Tryz.func146,Tryz.ntmps146
      go_wp2_with (first | (go_at_call 144;refine hV.out.mono ?_;rintro e w1 ⟨rfl,hb⟩))
      go_ret
      exact ⟨ret_bool (by unfold filterL;rw [hv];simp),hb⟩
    · rw [show s.data.toList=bl s from rfl,hv] at hV
      have fin:∀ (b:Bool) (w':World),filterLv (levelsL (bl s))=b→Below w.heap.size w w'→Ending.returned (.bool b)=.returned (.bool (filterL (bl s)))∧Below w.heap.size w w':=by
        rintro b w' rfl h;refine ⟨ret_bool ?_,h⟩;unfold filterL;rw [hemp',hv];rfl
      have FIN:=Lib.hid fin;clear fin;go_enter Tryz.func146,Tryz.ntmps146
      go_wp2_with (first | (go_at_call 144;refine hV.out.mono ?_;rintro e w1 ⟨rfl,hb1⟩) | (go_at_call 158;refine (hL.out _ (hE.below hb1)).mono ?_;rintro e w2 ⟨L,a,c,rfl,hT,hcells,hb⟩;replace hb:=Below.then hb1 hb;have HT:=Lib.hid hT;clear hT hb1))
      have hlen:L.length=(levelsL (bl s)).length:=by rw [← HT.out];simp
      have hlen2:=levelsL_len (bl s);have hsz:(bl s).length=s.size:=(Lib.size_eq s).symm;have hll:L.length≤4294967281:=by omega
      have hlp:1≤L.length:=by
        have:=levelsL_ne (bl s);rw [← HT.out] at this;cases L with
        | nil=>exact absurd rfl this
        | cons x r=>simp
      clear hlen hlen2 hsz;go_loopw [17] (fun i wr=>∃ k:Nat,k≤L.length∧i=.int .i64 k∧Hid (filterLv ((L.map bl).drop k)=filterLv (levelsL (bl s)))∧Below w.heap.size w wr∧Below w2.heap.size w2 wr) (fun i _=>L.length - (intOf i).toNat)
      case atStart=>exact ⟨0,by omega,rfl,by rw [Hid,← HT.out];rfl,hb,Below.refl _ _⟩
      case round =>
        obtain ⟨k,hk,rfl,HP,hbr,hb2⟩:=hrel;by_cases hlt:k < L.length
        · obtain ⟨x,hx⟩:∃ x,L[k]? = some x:=⟨_,List.getElem?_eq_getElem hlt⟩
          obtain ⟨b,o,rfl,hcell⟩:=(hcells.below hb2).text hx;have hxT:(L.map bl)[k]? = some (bl x):=by rw [List.getElem?_map,hx];rfl
          have hst:=filterLv_drop _ _ _ hxT;rw [drop_empty,List.length_map] at hst;have hxs:x.size < 4294967281:=by
            have h1:bl x ∈ levelsL (bl s):=by rw [← HT.out];exact List.mem_of_getElem? hxT
            have h2:=levelsL_mem _ _ h1;have h3:(bl x).length=x.size:=(Lib.size_eq x).symm;have h4:(bl s).length=s.size:=(Lib.size_eq s).symm;omega
          have hC:=Lib.hid (fun w1=>ContainsAny_pm x w1 hxs);rw [show x.data.toList=bl x from rfl] at hC;cases h35:(bl x == [35]) with
          | true =>
            have e1:=eq35 x _ h35;have hx35:bl x=[35]:=beq_iff_eq.1 h35;by_cases hl:L.length≤k+1
            · have e2:(((k:Int) == (L.length:Int) - 1):Bool)=true:=by rw [beq_iff_eq];omega
              have HS:=Lib.hid (hst.trans (by rw [hx35,decide_eq_true hl];rfl:_=filterLv (List.drop (k+1) (L.map bl))));clear hst hxT hx h35 hx35;go_wp2_with fail
              go_roundw
              case rel=>exact ⟨k+1,by omega,by go_num,by rw [Hid,← HP.out,HS.out],hbr,hb2⟩
              case measure=>simp [intOf];omega
            · have e2:(((k:Int) == (L.length:Int) - 1):Bool)=false:=by rw [beq_eq_false_iff_ne];omega
              have e3:(x.toList == [43])=false:=eq43 x _ (by rw [hx35];rfl);have HS:=Lib.hid (hst.trans (by rw [hx35,decide_eq_false hl];rfl:_=false));have hp:plainL (bl x)=false:=by rw [hx35];rfl
              rw [hp] at hC;clear hst hxT hx h35 hx35 hp;go_wp2_with (first | (go_at_call 157;refine (hC.out _).mono ?_;rintro e w3 ⟨rfl,hb3⟩;replace hb3:=Below.then hbr hb3))
              go_ret
              exact FIN.out _ _ (by rw [← HP.out,HS.out]) hb3
          | false =>
            have e1:=eq35 x _ h35;cases h43:(bl x == [43]) with
            | true =>
              have e2:=eq43 x _ h43;have hx43:bl x=[43]:=beq_iff_eq.1 h43;have HS:=Lib.hid (hst.trans (by rw [hx43];rfl:_=filterLv (List.drop (k+1) (L.map bl))));clear hst hxT hx h35 h43 hx43;go_wp2_with fail
              go_roundw
              case rel=>exact ⟨k+1,by omega,by go_num,by rw [Hid,← HP.out,HS.out],hbr,hb2⟩
              case measure=>simp [intOf];omega
            | false =>
              have e2:=eq43 x _ h43;have hlv:levelL (bl x) (decide (L.length≤k+1))=plainL (bl x):=by unfold levelL;rw [h43,h35];rfl
              rw [hlv] at hst;cases hp:plainL (bl x) with
              | true =>
                rw [hp] at hC hst;have HS:=Lib.hid (hst.trans (Bool.true_and _));clear hst hxT hx h35 h43 hlv hp;go_wp2_with (first | (go_at_call 157;refine (hC.out _).mono ?_;rintro e w3 ⟨rfl,hb3⟩;have hb4:=Below.then hb2 hb3;replace hb3:=Below.then hbr hb3))
                go_roundw
                case rel=>exact ⟨k+1,by omega,by go_num,by rw [Hid,← HP.out,HS.out],hb3,hb4⟩
                case measure=>simp [intOf];omega
              | false =>
                rw [hp] at hC hst;have HS:=Lib.hid (hst.trans (Bool.false_and _));clear hst hxT hx h35 h43 hlv hp;go_wp2_with (first | (go_at_call 157;refine (hC.out _).mono ?_;rintro e w3 ⟨rfl,hb3⟩;replace hb3:=Below.then hbr hb3))
                go_ret
                exact FIN.out _ _ (by rw [← HP.out,HS.out]) hb3
        · have:k=L.length:=by omega
          subst this;go_wp2_with fail
          go_ret
          exact FIN.out _ _ (by rw [← HP.out,List.drop_eq_nil_of_le (by simp)];rfl) hbr
end Go.Proofs.YtehpihmgjbmoaaaGreatDoor
