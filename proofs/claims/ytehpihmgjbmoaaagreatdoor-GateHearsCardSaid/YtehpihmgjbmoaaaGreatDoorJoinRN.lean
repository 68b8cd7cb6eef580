import Derived.Test.YtehpihmgjbmoaaaGreatDoorJoinC
import Derived.Deep.DeepCutAuto
import Derived.Test.YtehpihmgjbmoaaaGreatDoorJoinPB
import Derived.Test.YtehpihmgjbmoaaaGreatDoorJoinSR
import Derived.OrdersHeld
import Derived.Test.YtehpihmgjbmoaaaGreatDoorJoinB
namespace Go.Proofs.YtehpihmgjbmoaaaGreatDoor
open Go.RowKit
set_option maxRecDepth 100000 in
theorem ref01_Power (k:Nat) (h:k≤4) (w:World):Calls Tryz.prog 102 #[.int .i64 (k:Int)] w fun e w'=>e=.returned (.int .i64 ((128 ^ k:Nat):Int))∧w=w':=by
  go_enter Tryz.func102,Tryz.ntmps102
  go_wp2_with fail
  go_loopw [3,4] (fun p i wr=>∃ j:Nat,j≤k∧i=.int .i64 (j:Int)∧p=.int .i64 ((128 ^ j:Nat):Int)∧w=wr) (fun _ i _=>k - (intOf i).toNat)
  case atStart=>exact ⟨0,by omega,rfl,rfl,rfl⟩
  case round =>
    obtain ⟨j,hj,rfl,rfl,hw⟩:=hrel;subst hw;have hb:128 ^ j≤268435456:=by
      have:j=0∨j=1∨j=2∨j=3∨j=4:=by omega
      rcases this with rfl | rfl | rfl | rfl | rfl <;> decide
    have hs:128 ^ (j+1)=128 ^ j * 128:=Nat.pow_succ ..;obtain ⟨x,hx⟩:∃ x,128 ^ j=x:=⟨_,rfl⟩
    rw [hx] at hb hs ⊢;by_cases hlt:j < k
    · go_wp2_with fail
      go_roundw
      case rel=>exact ⟨j+1,by omega,by first | rfl | go_num,by rw [hs];first | rfl | go_num | (congr 1;push_cast;omega),by first | rfl | trivial⟩
      case measure=>simp [intOf];omega
    · have hjk:j=k:=by omega
      subst hjk;go_wp2_with fail
      go_ret
      refine ⟨?_,rfl⟩;rw [hx];rfl
theorem lenS_ge (n:Nat):1≤lenS n:=by unfold lenS;(repeat' split) <;> omega
set_option maxRecDepth 100000 in
set_option maxHeartbeats 1000000 in
theorem ref01_Size (n:Nat) (h:n≤268435455) (w:World):Calls Tryz.prog 137 #[.int .i64 (n:Int)] w fun e w'=>e=.returned (.int .i64 (lenS n:Nat))∧w=w':=by
  have FIN:=Lib.hid (show ∀ (k:Int),((lenS n:Nat):Int)=k→∀ w':World,w=w'→Ending.returned (.int .i64 k)=.returned (.int .i64 (lenS n:Nat))∧w=w' from by rintro k rfl w' rfl;exact ⟨rfl,rfl⟩);have h0:decide ((n:Int) < 0)=false:=by rw [decide_eq_false_iff_not];omega
  have h1:decide ((268435455:Int) < (n:Int))=false:=by rw [decide_eq_false_iff_not];omega
  have HP:=Lib.hid (fun (k:Nat) (hk:k≤4)=>ref01_Power k hk);go_enter Tryz.func137,Tryz.ntmps137
  go_wp2_with fail
  go_loopw [3] (fun i wr=>∃ j:Nat,1≤j∧j≤4∧i=.int .i64 (j:Int)∧Hid (lenS n≤j)∧w=wr) (fun i _=>(intOf i).toNat)
  case atStart=>exact ⟨4,by omega,by omega,rfl,(show lenS n≤4 by unfold lenS;(repeat' split) <;> omega),rfl⟩
  case round =>
    obtain ⟨j,hj1,hj4,rfl,HL,hw⟩:=hrel;subst hw;have hj:j=1∨j=2∨j=3∨j=4:=by omega
    rcases hj with rfl | rfl | rfl | rfl
    · have HX:=Lib.hid (show lenS n=1 from by
        have h3:=HL.out;have h2:1≤lenS n:=(lenS_ge n)
        omega)
      go_wp2_with fail
      go_ret
      exact FIN.out _ (by rw [HX.out] <;> rfl) _ rfl
    · by_cases hn:n < 128
      · have hn2:decide ((n:Int) < 128)=true:=by rw [decide_eq_true_eq];omega
        have HN:=Lib.hid (show lenS n≤1 by unfold lenS;(repeat' split) <;> omega);clear hn;go_wp2_with (go_at_call 102;refine Calls.mono (HP.out 1 (by decide) _) ?_;rintro e w9 ⟨rfl,rfl⟩)
        go_roundw
        case rel=>exact ⟨1,by omega,by omega,by first | rfl | go_num,HN,by first | rfl | trivial⟩
        case measure=>simp [intOf]
      · have hn2:decide ((n:Int) < 128)=false:=by rw [decide_eq_false_iff_not];omega
        have HX:=Lib.hid (show lenS n=2 from by
          have h3:=HL.out;have h2:2≤lenS n:=by unfold lenS;(repeat' split) <;> omega
          omega)
        clear hn;go_wp2_with (go_at_call 102;refine Calls.mono (HP.out 1 (by decide) _) ?_;rintro e w9 ⟨rfl,rfl⟩)
        go_ret
        exact FIN.out _ (by rw [HX.out] <;> rfl) _ rfl
    · by_cases hn:n < 16384
      · have hn2:decide ((n:Int) < 16384)=true:=by rw [decide_eq_true_eq];omega
        have HN:=Lib.hid (show lenS n≤2 by unfold lenS;(repeat' split) <;> omega);clear hn;go_wp2_with (go_at_call 102;refine Calls.mono (HP.out 2 (by decide) _) ?_;rintro e w9 ⟨rfl,rfl⟩)
        go_roundw
        case rel=>exact ⟨2,by omega,by omega,by first | rfl | go_num,HN,by first | rfl | trivial⟩
        case measure=>simp [intOf]
      · have hn2:decide ((n:Int) < 16384)=false:=by rw [decide_eq_false_iff_not];omega
        have HX:=Lib.hid (show lenS n=3 from by
          have h3:=HL.out;have h2:3≤lenS n:=by unfold lenS;(repeat' split) <;> omega
          omega)
        clear hn;go_wp2_with (go_at_call 102;refine Calls.mono (HP.out 2 (by decide) _) ?_;rintro e w9 ⟨rfl,rfl⟩)
        go_ret
        exact FIN.out _ (by rw [HX.out] <;> rfl) _ rfl
    · by_cases hn:n < 2097152
      · have hn2:decide ((n:Int) < 2097152)=true:=by rw [decide_eq_true_eq];omega
        have HN:=Lib.hid (show lenS n≤3 by unfold lenS;(repeat' split) <;> omega);clear hn;go_wp2_with (go_at_call 102;refine Calls.mono (HP.out 3 (by decide) _) ?_;rintro e w9 ⟨rfl,rfl⟩)
        go_roundw
        case rel=>exact ⟨3,by omega,by omega,by first | rfl | go_num,HN,by first | rfl | trivial⟩
        case measure=>simp [intOf]
      · have hn2:decide ((n:Int) < 2097152)=false:=by rw [decide_eq_false_iff_not];omega
        have HX:=Lib.hid (show lenS n=4 from by
          have h3:=HL.out;have h2:4≤lenS n:=by unfold lenS;(repeat' split) <;> omega
          omega)
        clear hn;go_wp2_with (go_at_call 102;refine Calls.mono (HP.out 3 (by decide) _) ?_;rintro e w9 ⟨rfl,rfl⟩)
        go_ret
        exact FIN.out _ (by rw [HX.out] <;> rfl) _ rfl
theorem row_cell {w:World} {b o:Nat} {v:Value} (h:CellsA w (some ⟨b,o,none⟩) [v]):w.cell? ⟨b,o,none⟩=some v:=by
  have:=cells_at h 0 v rfl;rwa [Addr.add_lit,Nat.add_zero] at this
theorem newsL1 {w w':World} {xs:List Value} {T:TypeId} (h:w.alloc (.cells xs.toArray T)=w'):CellsA w' (some ⟨w.heap.size,0,none⟩) xs:=h ▸ cells_new
theorem wrap8:∀ t:Nat,t < 256→IntKind.u8.wrap (t:Int)=(t:Int):=by decide +kernel
theorem wrapI64:∀ t:Nat,t < 256→IntKind.i64.wrap (t:Int)=(t:Int):=by decide +kernel
theorem e_app (s:ByteArray):(⟨#[]⟩:ByteArray)++s=s:=by
  apply bl_inj
  unfold bl;simp
set_option maxRecDepth 100000 in
set_option maxHeartbeats 2000000 in
theorem ref01_Word (n:Nat) (h:n≤65535) (b o c:Nat) (w:World) (hE:Env w) (hc:CellsA w (some ⟨b,o,none⟩) [.int .i64 (n:Int)]):Calls Tryz.prog 153 #[.slice (some ⟨b,o,none⟩) 1 c] w fun e w'=>e=.returned (.tuple #[.string (bB (wordB n)),.int .i64 0])∧Below w.heap.size w w':=by
  have HK:=Lib.hid (Keep.begin hE [(some ⟨b,o,none⟩,[.int .i64 (n:Int)])] (by intro r hr;simp at hr;subst hr;exact hc));have h0:decide ((n:Int) < 0)=false:=by rw [decide_eq_false_iff_not];omega
  have h1:decide ((65535:Int) < (n:Int))=false:=by rw [decide_eq_false_iff_not];omega
  clear hE hc;obtain ⟨x,hx⟩:∃ x,n / 256=x:=⟨_,rfl⟩
  obtain ⟨y,hy⟩:∃ y,n % 256=y:=⟨_,rfl⟩
  have hS:strN [x,y]=bB (wordB n):=by subst hx hy;rfl
  have e1:IntKind.u8.wrap (IntKind.i64.wrap ((n:Int) / 256))=(x:Int):=by
    rw [show (n:Int) / 256=(x:Int) by omega,wrapI64 x (by omega),wrap8 x (by omega)]
  have e2:IntKind.u8.wrap (Int.tmod (n:Int) 256)=(y:Int):=by
    rw [Int.tmod_eq_emod_of_nonneg (by omega),show (n:Int) % 256=(y:Int) by omega,wrap8 y (by omega)]
  clear hx hy;have hzw:¬ 9223372036854775807 < (bB (wordB n)).size:=by show ¬ 9223372036854775807 < 2;omega
  go_enter Tryz.func153,Tryz.ntmps153
  go_wp2_with fail
  go_loopw [4,5] (fun s i wr=>∃ k:Nat,k≤1∧i=.int .i64 (k:Int)∧s=.string (if k=0 then ⟨#[]⟩ else bB (wordB n))∧Hid (Keep w [] [(some ⟨b,o,none⟩,[.int .i64 (n:Int)])] wr)) (fun _ i _=>1 - (intOf i).toNat)
  case atStart=>exact ⟨0,by omega,rfl,rfl,HK⟩
  case round =>
    clear HK;obtain ⟨k,hk,rfl,rfl,HK⟩:=hrel;have hk2:k=0∨k=1:=by omega
    have hX:=row_cell (HK.out.rowAt 0 rfl);rcases hk2 with rfl | rfl
    · go_upto_region 7 with fail
      clear hX;refine wp_region_noPanic ?_;refine wp_region_held_drew (S:=fun w'=>Keep w [] [(some ⟨b,o,none⟩,[.int .i64 (n:Int)])] w') (by kernel_rfl) ?_ (fun hHeld=>?_)
      · (first | exact HK.out | exact HK.out.drew | exact HK.out.drewN _)
      replace HK:=Lib.hid hHeld;generalize World.drew _=wd at HK hHeld ⊢;refine wpAnyH_take (i:=0) (oi:=⟨some 24,_,_,_,_,_⟩) (v:=?_) rfl (by kernel_rfl) (by kernel_rfl) (by kernel_rfl) (fun _ _ _ h=>h) (Or.inl ⟨by rfl,?_⟩) (by assumption) ?_;rotate_left
      · (intro w hSw;(try dsimp only at hSw);have hXw:=row_cell (Keep.rowAt hSw 0 rfl);go_simp;try with_reducible rfl)
      try simp only [Act.put,List.setIfInBounds_toArray,List.set_cons_zero,List.set_cons_succ]
      refine wpAnyH_take (i:=1) (oi:=⟨some 25,_,_,_,_,_⟩) (v:=?_) rfl (by kernel_rfl) (by kernel_rfl) (by kernel_rfl) (fun _ _ _ h=>h) (Or.inl ⟨by rfl,?_⟩) (by assumption) ?_;rotate_left
      · (intro w hSw;(try dsimp only at hSw);have hXw:=row_cell (Keep.rowAt hSw 0 rfl);go_simp;try with_reducible rfl)
      try simp only [Act.put,List.setIfInBounds_toArray,List.set_cons_zero,List.set_cons_succ]
      refine wpAnyH_take (i:=2) (oi:=⟨some 26,_,_,_,_,_⟩) (v:=?_) rfl (by kernel_rfl) (by kernel_rfl) (by kernel_rfl) (fun _ _ _ h=>h) (Or.inl ⟨by rfl,?_⟩) (by assumption) ?_;rotate_left
      · (intro w hSw;(try dsimp only at hSw);have hXw:=row_cell (Keep.rowAt hSw 0 rfl);go_simp;try with_reducible rfl)
      try simp only [Act.put,List.setIfInBounds_toArray,List.set_cons_zero,List.set_cons_succ]
      refine wpAnyH_take (i:=3) (oi:=⟨some 27,_,_,_,_,_⟩) (v:=?_) rfl (by kernel_rfl) (by kernel_rfl) (by kernel_rfl) (fun _ _ _ h=>h) (Or.inl ⟨by rfl,?_⟩) (by assumption) ?_;rotate_left
      · (intro w hSw;(try dsimp only at hSw);have hXw:=row_cell (Keep.rowAt hSw 0 rfl);go_simp;try with_reducible rfl)
      try simp only [Act.put,List.setIfInBounds_toArray,List.set_cons_zero,List.set_cons_succ]
      refine wpAnyH_take (i:=4) (oi:=⟨some 28,_,_,_,_,_⟩) (v:=?_) rfl (by kernel_rfl) (by kernel_rfl) (by kernel_rfl) (fun _ _ _ h=>h) (Or.inl ⟨by rfl,?_⟩) (by assumption) ?_;rotate_left
      · (intro w hSw;(try dsimp only at hSw);have hXw:=row_cell (Keep.rowAt hSw 0 rfl);go_simp;try with_reducible rfl)
      try simp only [Act.put,List.setIfInBounds_toArray,List.set_cons_zero,List.set_cons_succ]
      refine wpAnyH_take (i:=5) (oi:=⟨some 29,_,_,_,_,_⟩) (v:=?_) rfl (by kernel_rfl) (by kernel_rfl) (by kernel_rfl) (fun _ _ _ h=>h) (Or.inl ⟨by rfl,?_⟩) (by assumption) ?_;rotate_left
      · (intro w hSw;(try dsimp only at hSw);have hXw:=row_cell (Keep.rowAt hSw 0 rfl);go_simp;try with_reducible rfl)
      try simp only [Act.put,List.setIfInBounds_toArray,List.set_cons_zero,List.set_cons_succ]
      refine wpAnyH_take (i:=6) (oi:=⟨some 30,_,_,_,_,_⟩) (v:=?_) rfl (by kernel_rfl) (by kernel_rfl) (by kernel_rfl) (fun _ _ _ h=>h) (Or.inl ⟨by rfl,?_⟩) (by assumption) ?_;rotate_left
      · (intro w hSw;(try dsimp only at hSw);have hXw:=row_cell (Keep.rowAt hSw 0 rfl);go_simp;try with_reducible rfl)
      try simp only [Act.put,List.setIfInBounds_toArray,List.set_cons_zero,List.set_cons_succ]
      refine wpAnyH_take (i:=7) (oi:=⟨some 31,_,_,_,_,_⟩) (v:=?_) rfl (by kernel_rfl) (by kernel_rfl) (by kernel_rfl) (fun _ _ _ h=>h) (Or.inl ⟨by rfl,?_⟩) (by assumption) ?_;rotate_left
      · (intro w hSw;(try dsimp only at hSw);have hXw:=row_cell (Keep.rowAt hSw 0 rfl);go_simp;try with_reducible rfl)
      try simp only [Act.put,List.setIfInBounds_toArray,List.set_cons_zero,List.set_cons_succ]
      refine wpAnyH_take (i:=8) (oi:=⟨some 32,_,_,_,_,_⟩) (v:=?_) rfl (by kernel_rfl) (by kernel_rfl) (by kernel_rfl) (fun _ _ _ h=>h) (Or.inl ⟨by rfl,?_⟩) (by assumption) ?_;rotate_left
      · (intro w hSw;(try dsimp only at hSw);have hXw:=row_cell (Keep.rowAt hSw 0 rfl);go_simp;try with_reducible rfl)
      try simp only [Act.put,List.setIfInBounds_toArray,List.set_cons_zero,List.set_cons_succ]
      refine wpAnyH_take (i:=9) (oi:=⟨some 33,_,_,_,_,_⟩) (v:=?_) rfl (by kernel_rfl) (by kernel_rfl) (by kernel_rfl) (fun _ _ _ h=>h) (Or.inl ⟨by rfl,?_⟩) (by assumption) ?_;rotate_left
      · (intro w hSw;(try dsimp only at hSw);have hXw:=row_cell (Keep.rowAt hSw 0 rfl);go_simp;try with_reducible rfl)
      try simp only [Act.put,List.setIfInBounds_toArray,List.set_cons_zero,List.set_cons_succ]
      refine wpAnyH_take (i:=10) (oi:=⟨some 34,_,_,_,_,_⟩) (v:=?_) rfl (by kernel_rfl) (by kernel_rfl) (by kernel_rfl) (fun _ _ _ h=>h) (Or.inl ⟨by rfl,?_⟩) (by assumption) ?_;rotate_left
      · (intro w hSw;(try dsimp only at hSw);have hXw:=row_cell (Keep.rowAt hSw 0 rfl);go_simp;try with_reducible rfl)
      try simp only [Act.put,List.setIfInBounds_toArray,List.set_cons_zero,List.set_cons_succ]
      refine wpAnyH_take (i:=11) (oi:=⟨some 35,_,_,_,_,_⟩) (v:=?_) rfl (by kernel_rfl) (by kernel_rfl) (by kernel_rfl) (fun _ _ _ h=>h) (Or.inl ⟨by rfl,?_⟩) (by assumption) ?_;rotate_left
      · (intro w hSw;(try dsimp only at hSw);have hXw:=row_cell (Keep.rowAt hSw 0 rfl);go_simp;try with_reducible rfl)
      try simp only [Act.put,List.setIfInBounds_toArray,List.set_cons_zero,List.set_cons_succ]
      refine wpAnyH_take (i:=12) (oi:=⟨some 36,_,_,_,_,_⟩) (v:=?_) rfl (by kernel_rfl) (by kernel_rfl) (by kernel_rfl) (fun _ _ _ h=>h) (Or.inl ⟨by rfl,?_⟩) (by assumption) ?_;rotate_left
      · (intro w hSw;(try dsimp only at hSw);have hXw:=row_cell (Keep.rowAt hSw 0 rfl);go_simp;try with_reducible rfl)
      try simp only [Act.put,List.setIfInBounds_toArray,List.set_cons_zero,List.set_cons_succ]
      refine wpAnyH_ready (rs:=[13]) (by kernel_rfl) (by simp) ?_;refine AllReadyH.cons (o:=⟨some 37,_,_,_,_,_⟩) rfl (fun K hK=>?_) AllReadyH.nil;go_simp;refine hK.out _ _ ?_ (fun hHeld=>?_)
      · (first | exact HK.out | exact HK.out.drew | exact HK.out.below ((Below.refl _ _).alloc (Nat.le_refl _) _))
      clear hK K;replace HK:=Lib.hid hHeld;generalize hgw:World.alloc _ _=w8 at hHeld HK ⊢;have HN:=newsL1 hgw;have kc:=conv_nats (P:=Tryz.prog) w8 22 5 Tryz.underlying22 Tryz.underlying5 (some ⟨wd.heap.size,0,none⟩) 2 [x,y] 2 rfl HN 9 Tryz.underlying9;rw [hS] at kc;clear HN hgw;try simp only [Act.put,List.setIfInBounds_toArray,List.set_cons_zero,List.set_cons_succ]
      refine wpAnyH_ready (rs:=[14]) (by kernel_rfl) (by simp) ?_;refine AllReadyH.cons (o:=⟨some 38,_,_,_,_,_⟩) rfl (fun K hK=>?_) AllReadyH.nil;go_simp;refine hK.out _ _ ?_ (fun hHeld=>?_)
      · (first | exact HK.out | exact HK.out.drew | exact HK.out.below ((Below.refl _ _).alloc (Nat.le_refl _) _))
      clear hK K;replace HK:=Lib.hid hHeld;try simp only [Act.put,List.setIfInBounds_toArray,List.set_cons_zero,List.set_cons_succ]
      refine wpAnyH_take (i:=15) (oi:=⟨some 39,_,_,_,_,_⟩) (v:=?_) rfl (by kernel_rfl) (by kernel_rfl) (by kernel_rfl) (fun _ _ _ h=>h) (Or.inl ⟨by rfl,?_⟩) (by assumption) ?_;rotate_left
      · (intro w hSw;(try dsimp only at hSw);have hXw:=row_cell (Keep.rowAt hSw 0 rfl);go_simp;try with_reducible rfl)
      try simp only [Act.put,List.setIfInBounds_toArray,List.set_cons_zero,List.set_cons_succ]
      refine wpAnyH_take (i:=16) (oi:=⟨some 4,_,_,_,_,_⟩) (v:=?_) rfl (by kernel_rfl) (by kernel_rfl) (by kernel_rfl) (fun _ _ _ h=>h) (Or.inl ⟨by rfl,?_⟩) (by assumption) ?_;rotate_left
      · (intro w hSw;(try dsimp only at hSw);have hXw:=row_cell (Keep.rowAt hSw 0 rfl);go_simp;try with_reducible rfl)
      try simp only [Act.put,List.setIfInBounds_toArray,List.set_cons_zero,List.set_cons_succ]
      refine wpAnyH_done (by kernel_rfl) ?_ _;refine NoPanic.normal ?_;go_wp2_with fail
      go_roundw
      case rel=>exact ⟨1,by omega,by first | rfl | go_num,by first | rfl | (rw [if_neg (by decide)];congr 1;exact e_app _),HK⟩
      case measure=>simp [intOf]
    · go_wp2_with fail
      go_ret2
      exact ⟨rfl,HK.out.low⟩
set_option maxRecDepth 100000 in
theorem ref02_PutData (s:ByteArray) (h:s.size≤65535) (w:World) (hE:Env w):Calls Tryz.prog 152 #[.string s] w fun e w'=>e=.returned (.tuple #[.string (bB (dataB s)),.int .i64 0])∧Below w.heap.size w w':=by
  have hbw:Below w.heap.size w (w.alloc (.cells #[.int .i64 (s.size:Int)] 3)):=(Below.refl _ _).alloc (Nat.le_refl _) _;have HW:=Lib.hid (ref01_Word s.size h w.heap.size 0 1 (w.alloc (.cells #[.int .i64 (s.size:Int)] 3)) (hE.below hbw) cells_new);have HS:=Lib.hid (show bB (wordB s.size)++s=bB (dataB s) by
    unfold dataB;apply bl_inj
    unfold bl bB;simp)
  have hz2:¬ 9223372036854775807 < (bB (wordB s.size)).size+s.size:=by show ¬ 9223372036854775807 < 2+s.size;omega
  go_enter Tryz.func152,Tryz.ntmps152
  go_wp2_with (go_at_call 153;refine Calls.mono HW.out ?_;rintro e w1 ⟨rfl,hb1⟩;replace hb1:=Below.then hbw hb1)
  go_ret2
  exact ⟨by rw [← HS.out];rfl,hb1⟩
theorem bB_two (A B:Bs):bB (A++B)=bB A++bB B:=by
  apply bl_inj
  unfold bl bB;simp
theorem str1 (v:Nat):strN [v]=bB [byteN v]:=rfl
theorem lenB_at (n:Nat) (h:n≤268435455) (k:Nat) (hk:k < lenS n):(lenB n)[k]? = some (byteN (n / 128 ^ k % 128+if k+1 < lenS n then 128 else 0)):=by
  have hk4:k=0∨k=1∨k=2∨k=3:=by
    have:lenS n≤4:=by unfold lenS;(repeat' split) <;> omega
    omega
  unfold lenB lenF lenF lenF lenF;unfold lenS at hk ⊢;by_cases h1:n < 128
  · simp only [h1,if_true] at hk ⊢
    obtain rfl:k=0:=by omega
    have:n / 128 ^ 0 % 128=n:=by rw [Nat.pow_zero,Nat.div_one];omega
    rw [this];rfl
  · by_cases h2:n < 16384
    · have a1:n / 128 < 128:=by omega
      simp only [h1,h2,a1,if_true,if_false] at hk ⊢;rcases hk4 with rfl | rfl | rfl | rfl
      · simp
      · simp;congr 1;omega
      · omega
      · omega
    · by_cases h3:n < 2097152
      · have a1:¬ n / 128 < 128:=by omega
        have a2:n / 128 / 128 < 128:=by omega
        simp only [h1,h2,h3,a1,a2,if_true,if_false] at hk ⊢;rcases hk4 with rfl | rfl | rfl | rfl
        · simp
        · simp
        · simp;congr 1;omega
        · omega
      · have a1:¬ n / 128 < 128:=by omega
        have a2:¬ n / 128 / 128 < 128:=by omega
        simp only [h1,h2,h3,a1,a2,if_false] at hk ⊢;rcases hk4 with rfl | rfl | rfl | rfl
        · simp
        · simp
        · simp;congr 1;omega
        · simp;congr 1;omega
set_option maxRecDepth 100000 in
set_option maxHeartbeats 2000000 in
theorem ref01_Len (n:Nat) (h:n≤268435455) (w:World) (hE:Env w):Calls Tryz.prog 109 #[.int .i64 (n:Int)] w fun e w'=>e=.returned (.tuple #[.string (bB (lenB n)),.int .i64 0])∧Below w.heap.size w w':=by
  have HK:=Lib.hid (Keep.begin hE [] (by intro r hr;cases hr));have HZ:=Lib.hid (fun w1=>ref01_Size n h w1);have HA:=Lib.hid (lenB_at n h);have HLL:=Lib.hid (lenB_len n h);have hz4:1≤lenS n∧lenS n≤4:=by unfold lenS;(repeat' split) <;> omega
  have FIN:=Lib.hid (show ∀ (L:Bs) (w':World),L=lenB n→Below w.heap.size w w'→Ending.returned (.tuple #[.string (bB L),.int .i64 0])=.returned (.tuple #[.string (bB (lenB n)),.int .i64 0])∧Below w.heap.size w w' from by rintro L w' rfl h;exact ⟨rfl,h⟩);generalize lenB n=L at *;generalize lenS n=z at *;have hzz:((z:Int) == 0)=false:=by rw [beq_eq_false_iff_ne];omega
  clear hE;go_enter Tryz.func109,Tryz.ntmps109
  go_wp2_with (go_at_call 137;refine Calls.mono (HZ.out _) ?_;rintro e w9 ⟨rfl,rfl⟩)
  go_loopw [5,6] (fun s i wr=>∃ k:Nat,k≤z∧i=.int .i64 (k:Int)∧s=.string (bB (L.take k))∧Hid (Keep w [] [] wr)) (fun _ i _=>z - (intOf i).toNat)
  case atStart=>exact ⟨0,by omega,rfl,rfl,HK⟩
  case round =>
    clear HK;obtain ⟨k,hk,rfl,rfl,HK⟩:=hrel;by_cases hlt:k < z
    · have HP:=Lib.hid (fun w1=>ref01_Power k (by omega) w1)
      have ha:=HA.out k hlt;have hm:0 < 128 ^ k:=Nat.pow_pos (by omega);obtain ⟨m,hm2⟩:∃ m,128 ^ k=m:=⟨_,rfl⟩
      rw [hm2] at ha hm HP;have hm0:((m:Int) == 0)=false:=by rw [beq_eq_false_iff_ne];omega
      clear hm2;have hk4:(L.take k).length≤4:=by rw [List.length_take];omega
      have hsn:L.take (k+1)=L.take k++[byteN (n / m % 128+if k+1 < z then 128 else 0)]:=by rw [List.take_add_one,ha];rfl
      obtain ⟨q,hq⟩:∃ q,n / m=q:=⟨_,rfl⟩
      rw [hq] at hsn;have hqn:q≤n:=by rw [← hq];exact Nat.div_le_self _ _
      have e1:wrap64 ((n:Int) / (m:Int))=(q:Int):=by
        rw [← hq,Int.natCast_ediv];have:(0:Int)≤(n:Int) / (m:Int):=Int.ediv_nonneg (by omega) (by omega);have h9:(n:Int) / (m:Int)≤(n:Int):=Int.ediv_le_self _ (by omega);unfold wrap64;omega
      obtain ⟨d,hd⟩:∃ d,q % 128=d:=⟨_,rfl⟩
      rw [hd] at hsn;have e2:Int.tmod (q:Int) 128=(d:Int):=by rw [Int.tmod_eq_emod_of_nonneg (by omega)];omega
      have hdl:d < 128:=by omega
      clear hq hd ha;by_cases hl:k+1 < z
      · have hl2:decide ((k:Int) < (z:Int) - 1)=true:=by rw [decide_eq_true_eq];omega
        rw [if_pos hl] at hsn;have HS:=Lib.hid (show bB (L.take (k+1))=bB (L.take k)++strN [d+128] by rw [hsn,str1];exact bB_two _ _);have hcat:¬ 9223372036854775807 < (bB (L.take k)).size+(strN [d+128]).size:=by
          have h5:(strN [d+128]).size=1:=rfl;have h6:(bB (L.take k)).size=(L.take k).length:=rfl;omega
        clear hsn;go_wp2_with (first
          | (go_at_call 102;refine Calls.mono (HP.out _) ?_;rintro e w9 ⟨rfl,rfl⟩)
          | ((with_reducible show wpList _ _ _ (⟨some 31,.buildSlice _ _ _,_,_,_,_⟩::_) _ _);refine Great.wpList_buildSliceTo rfl 22 5 1 _ rfl _ rfl _ rfl Tryz.underlying22 (List.toArray (natV [d+128])) (by kernel_rfl) ?_;replace HK:=Lib.hid (HK.out.allocRow (natV [d+128]) 5);generalize hgw:World.alloc _ _=wg at HK ⊢;clear hgw;have kc:=conv_nats (P:=Tryz.prog) wg 22 5 Tryz.underlying22 Tryz.underlying5 _ 1 [d+128] 1 rfl (HK.out.rowAt 0 rfl) 9 Tryz.underlying9))
        go_roundw
        case rel=>exact ⟨k+1,by omega,by first | rfl | go_num,by rw [HS.out],Lib.hid (HK.out.sub (List.nil_sublist _) (fun r hr=>by cases hr))⟩
        case measure=>simp [intOf];omega
      · have hl2:decide ((k:Int) < (z:Int) - 1)=false:=by rw [decide_eq_false_iff_not];omega
        rw [if_neg hl,Nat.add_zero] at hsn;have HS:=Lib.hid (show bB (L.take (k+1))=bB (L.take k)++strN [d] by rw [hsn,str1];exact bB_two _ _);have hcat:¬ 9223372036854775807 < (bB (L.take k)).size+(strN [d]).size:=by
          have h5:(strN [d]).size=1:=rfl;have h6:(bB (L.take k)).size=(L.take k).length:=rfl;omega
        clear hsn;go_wp2_with (first
          | (go_at_call 102;refine Calls.mono (HP.out _) ?_;rintro e w9 ⟨rfl,rfl⟩)
          | ((with_reducible show wpList _ _ _ (⟨some 31,.buildSlice _ _ _,_,_,_,_⟩::_) _ _);refine Great.wpList_buildSliceTo rfl 22 5 1 _ rfl _ rfl _ rfl Tryz.underlying22 (List.toArray (natV [d])) (by kernel_rfl) ?_;replace HK:=Lib.hid (HK.out.allocRow (natV [d]) 5);generalize hgw:World.alloc _ _=wg at HK ⊢;clear hgw;have kc:=conv_nats (P:=Tryz.prog) wg 22 5 Tryz.underlying22 Tryz.underlying5 _ 1 [d] 1 rfl (HK.out.rowAt 0 rfl) 9 Tryz.underlying9))
        go_roundw
        case rel=>exact ⟨k+1,by omega,by first | rfl | go_num,by rw [HS.out],Lib.hid (HK.out.sub (List.nil_sublist _) (fun r hr=>by cases hr))⟩
        case measure=>simp [intOf];omega
    · have hkz:k=z:=by omega
      subst hkz;have ht:L.take k=L:=List.take_of_length_le (by rw [HLL.out];omega);rw [ht];go_wp2_with fail
      go_ret2
      exact FIN.out _ _ rfl HK.out.low
end Go.Proofs.YtehpihmgjbmoaaaGreatDoor
namespace Go.Proofs.YtehpihmgjbmoaaaGreatDoor
open Go.RowKit
set_option maxRecDepth 100000 in
set_option maxHeartbeats 4000000 in
theorem ref04_one (n:Nat) (h:n < 256) (w:World) (hE:Env w):Calls Tryz.prog 110 #[.int .i64 (n:Int)] w fun e w'=>e=.returned (.string (bB [byteN n]))∧Below w.heap.size w w':=by
  have HK:=Lib.hid (Keep.begin hE [] (by intro r hr;cases hr));have FIN:=Lib.hid (show ∀ (s:ByteArray) (w':World),s=bB [byteN n]→Below w.heap.size w w'→Ending.returned (.string s)=.returned (.string (bB [byteN n]))∧Below w.heap.size w w' from by rintro s w' rfl h;exact ⟨rfl,h⟩);clear hE;go_enter Tryz.func110,Tryz.ntmps110
  go_wp2_with ((with_reducible show wpList _ _ _ (⟨some 5,.buildSlice _ _ _,_,_,_,_⟩::_) _ _);refine Great.wpList_buildSliceTo rfl 22 5 1 _ rfl _ rfl _ rfl Tryz.underlying22 (List.toArray (natV [n])) (by kernel_rfl) ?_;replace HK:=Lib.hid (HK.out.allocRow (natV [n]) 5);generalize hgw:World.alloc _ _=wg at HK ⊢;clear hgw;have kc:=conv_nats (P:=Tryz.prog) wg 22 5 Tryz.underlying22 Tryz.underlying5 _ 1 [n] 1 rfl (HK.out.rowAt 0 rfl) 9 Tryz.underlying9)
  go_ret
  exact FIN.out _ _ (str1 n) HK.out.low
theorem ref04_one' (z:Int) (n:Nat) (hz:z=(n:Int)) (h:n < 256) (w:World) (hE:Env w):Calls Tryz.prog 110 #[.int .i64 z] w fun e w'=>e=.returned (.string (bB [byteN n]))∧Below w.heap.size w w':=hz ▸ ref04_one n h w hE
theorem ref04_yes (b:Bool) (n:Nat) (w:World):Calls Tryz.prog 124 #[.bool b,.int .i64 (n:Int)] w fun e w'=>e=.returned (.int .i64 ((bitN b n:Nat):Int))∧Below w.heap.size w w':=by
  cases b;all_goals
    go_enter Tryz.func124,Tryz.ntmps124
    go_wp2_with fail
    go_ret
    exact ⟨rfl,Below.refl _ _⟩
theorem ref04_yes' (b:Bool) (z:Int) (n:Nat) (hz:z=(n:Int)) (w:World):Calls Tryz.prog 124 #[.bool b,.int .i64 z] w fun e w'=>e=.returned (.int .i64 ((bitN b n:Nat):Int))∧Below w.heap.size w w':=hz ▸ ref04_yes b n w
set_option maxRecDepth 100000 in
set_option maxHeartbeats 4000000 in
theorem ref04_word (n:Nat) (h:n≤65535) (w:World) (hE:Env w):Calls Tryz.prog 136 #[.int .u16 (n:Int)] w fun e w'=>e=.returned (.string (bB (wordB n)))∧Below w.heap.size w w':=by
  have HK:=Lib.hid (Keep.begin hE [] (by intro r hr;cases hr));clear hE;go_enter Tryz.func136,Tryz.ntmps136
  go_wp2_with (first
    | ((with_reducible show wpList _ _ _ (⟨some 8,.buildSlice _ _ _,_,_,_,_⟩::_) _ _);refine Great.wpList_buildSliceTo rfl 169 3 1 _ rfl _ rfl _ rfl Tryz.underlying169 (List.toArray ([.int .i64 (n:Int)])) (by kernel_rfl) ?_;replace HK:=Lib.hid (HK.out.allocRow ([.int .i64 (n:Int)]) 3);generalize hgw:World.alloc _ _=w8 at HK ⊢;clear hgw)
    | (go_at_call 153;refine Calls.mono (ref01_Word n h _ _ _ _ HK.out.env (HK.out.rowAt 0 rfl)) ?_;rintro e w1 ⟨rfl,hb1⟩;replace HK:=Lib.hid (HK.out.below hb1);clear hb1))
  go_ret
  exact ⟨rfl,HK.out.low⟩
theorem ref04_data (s:ByteArray) (h:s.size≤65535) (w:World) (hE:Env w):Calls Tryz.prog 135 #[.string s] w fun e w'=>e=.returned (.string (bB (dataB s)))∧Below w.heap.size w w':=by
  have HK:=Lib.hid (Keep.begin hE [] (by intro r hr;cases hr));clear hE;go_enter Tryz.func135,Tryz.ntmps135
  go_wp2_with (go_at_call 152;refine Calls.mono (ref02_PutData s h _ HK.out.env) ?_;rintro e w1 ⟨rfl,hb1⟩;replace HK:=Lib.hid (HK.out.below hb1);clear hb1)
  go_ret
  exact ⟨rfl,HK.out.low⟩
def fl15:List Value:=[.int .i64 0,.int .i64 0,.int .i64 0,.int .i64 0,.int .i64 0,.int .i64 0,.int .i64 2,.int .i64 0,.int .i64 2,.int .i64 0,.int .i64 2,.int .i64 0,.int .i64 0,.int .i64 0,.int .i64 0]
def flN (t:Nat):Nat:=if t=6∨t=8∨t=10 then 2 else 0
theorem fl_at:∀ t,t < 15→fl15[t]? = some (.int .i64 ((flN t:Nat):Int))
  | 0,_=>rfl
  | 1,_=>rfl
  | 2,_=>rfl
  | 3,_=>rfl
  | 4,_=>rfl
  | 5,_=>rfl
  | 6,_=>rfl
  | 7,_=>rfl
  | 8,_=>rfl
  | 9,_=>rfl
  | 10,_=>rfl
  | 11,_=>rfl
  | 12,_=>rfl
  | 13,_=>rfl
  | 14,_=>rfl
  | n+15,h=>by omega
def mkFl (ty:TypeId):Sem Next:=opT [] (.buildSlice 169 15 #[(0,.const (.int .i64 0)),(1,.const (.int .i64 0)),(2,.const (.int .i64 0)),(3,.const (.int .i64 0)),(4,.const (.int .i64 0)),(5,.const (.int .i64 0)),(6,.const (.int .i64 2)),(7,.const (.int .i64 0)),(8,.const (.int .i64 2)),(9,.const (.int .i64 0)),(10,.const (.int .i64 2)),(11,.const (.int .i64 0)),(12,.const (.int .i64 0)),(13,.const (.int .i64 0)),(14,.const (.int .i64 0))]) ty
theorem ops_fl (ty:TypeId):OpS Tryz.prog (mkFl ty) [] [] (fun b=>.slice (some ⟨b,0,none⟩) 15 15) (fun _=>[]) (fun b=>[rowO 3 1 (.slice (some ⟨b,0,none⟩) 15 15) 15 fl15]):=by
  obtain ⟨ie,hie,hz,hsz,_⟩:=info_parts (show (Tryz.prog.info? 3).map (fun i=>(i.zero,i.size,i.bytes))=some (some (.int .i64 0),1,8) by kernel_rfl);intro wb w H;have hb:Below w.heap.size w (w.alloc (.cells fl15.toArray 3)):=(Below.refl _ _).alloc (Nat.le_refl _) _;refine ⟨w.heap.size,w.alloc (.cells fl15.toArray 3),_,?_,Or.inl rfl,(Kp.begin H).newC hb _ ?_ ?_⟩
  · have hr:=run_buildSlice (P:=Tryz.prog) w 169 3 15 #[(0,.int .i64 0),(1,.int .i64 0),(2,.int .i64 0),(3,.int .i64 0),(4,.int .i64 0),(5,.int .i64 0),(6,.int .i64 2),(7,.int .i64 0),(8,.int .i64 2),(9,.int .i64 0),(10,.int .i64 2),(11,.int .i64 0),(12,.int .i64 0),(13,.int .i64 0),(14,.int .i64 0)] fl15.toArray ie _ Tryz.underlying169 hie hz (by rw [hsz];decide) (by rw [hsz];decide) (by rw [hsz];kernel_rfl)
    unfold mkFl opT execOp;have e0:∀ v,known (numL 0 []) (.const v)=v:=fun _=>rfl
    simp only [List.map_toArray,List.map_cons,List.map_nil,e0,Sem.run_bind,hr,Result.andThen_ok,Sem.run_pure]
  · exact own_mk (xs:=fl15) (by simpa using heap_alloc_new w (.cells fl15.toArray 3)) (by rfl) (by decide) (Nat.zero_le _)
  · intro j hj
    have hj:(Value.slice (some ⟨w.heap.size,0,none⟩) 15 15).ownBlock=some j:=hj;simp [Value.ownBlock] at hj
    omega
theorem fl_range {w:World} {b t:Nat} (h:(rowO 3 1 (.slice (some ⟨b,0,none⟩) 15 15) 15 fl15).is w) (ht:t < 15):w.rangeAt b (0+t * 1) [.int .i64 ((flN t:Nat):Int)]:=by
  obtain ⟨b',o',e,hc⟩:=own_cells (show w.ownsRow 0 3 1 _ 15 fl15 from h) t _ (fl_at t ht);injection e with e
  injection e with e1 e2
  subst e1 e2;intro j v hv;cases j with
  | zero =>
    simp only [List.getElem?_cons_zero,Option.some.injEq] at hv;subst hv;rw [Nat.mul_one,Nat.add_zero];exact hc
  | succ j=>simp at hv
attribute [local irreducible] Ok
set_option maxRecDepth 100000 in
set_option maxHeartbeats 4000000 in
theorem firstS4 {wb:World} {p:Pk} {a:Option Addr} {c:Nat} (h1:1≤p.ty∧p.ty≤14) (hq:p.ty=3→p.qos≤2):Spec Tryz.prog wb 103 #[.agg (pkV p a c)] [] [] (fun _:Unit=>.int .i64 ((16 * p.ty+flagsN p:Nat):Int)) (fun _=>[]) (fun _=>[]):=by
  have b1:bitN p.dup 8≤8:=by unfold bitN;split <;> omega
  have b2:bitN p.ret 1≤1:=by unfold bitN;split <;> omega
  obtain ⟨z,hz⟩:∃ z,flagsN p=z:=⟨_,rfl⟩
  rw [hz];unfold flagsN at hz;have hzl:z≤20:=by
    rw [← hz];split
    · rename_i h3
      have:=hq h3;omega
    · split <;> omega
  intro w H;refine en_call Tryz.func103 H ?_;refine en1 E0 [.x,.c] fun X=>?_
  refine en_ops (ops_fl 169) [] [] [] (fun b=>?_);refine en ⟨⟨[⟨b,0+p.ty * 1,[.int .i64 ((flN p.ty:Nat):Int)]⟩],[]⟩,[],[⟨some ⟨b,0,none⟩,15,15,.u8,p.ty,1,⟨b,0+p.ty * 1,none⟩⟩],[],fun _ _ h=>⟨⟨fl_range (is_at h.hp.is 0 (c:=rowO 3 1 (.slice (some ⟨b,0,none⟩) 15 15) 15 fl15) rfl) (by omega),trivial⟩,trivial⟩,trivial,⟨⟨b,0,p.ty,rfl,rfl,(by show p.ty < 15;omega),rfl⟩,trivial⟩,trivial⟩ [.c,.b 0 0,.i 0,.l 0 0,.c,.c,.b 0 0] ?_;refine en_meetP (codeOf Tryz.f103) [1,1,0] [] (α:=Unit) 1 (fun _=>[(1,.pointer (some ⟨X,0,none⟩)),(3,.int .i64 (z:Int))]) (fun _=>[⟨X,(pkV p a c).toList,33⟩]) (fun _=>many [rowO 3 1 (.slice (some ⟨b,0,none⟩) 15 15) 15 fl15]) ?_ ?_
  · intro JW HJW
    by_cases h3:p.ty=3
    · rw [if_pos h3] at hz
      have hq2:=hq h3;refine en (EK [(.bool ((((p.ty:Int)):Int) == 3),.bool true),(.int .i64 (IntKind.i64.wrap (p.qos:Int)),.int .i64 (p.qos:Int)),(.int .i64 (IntKind.i64.wrap (2 * (p.qos:Int))),.int .i64 ((2 * p.qos:Nat):Int)),(.int .i64 (IntKind.i64.wrap (((bitN p.dup 8:Nat):Int)+((2 * p.qos:Nat):Int))),.int .i64 ((bitN p.dup 8+2 * p.qos:Nat):Int)),(.int .i64 (IntKind.i64.wrap (((bitN p.dup 8+2 * p.qos:Nat):Int)+((bitN p.ret 1:Nat):Int))),.int .i64 (z:Int))] ⟨eqI (by omega),cI (by omega),wrK (by omega) (by omega),wrK (by omega) (by omega),wrK (by omega) (by omega),trivial⟩ [⟨124,#[.bool p.dup,.int .i64 8],.int .i64 ((bitN p.dup 8:Nat):Int),[],[]⟩,⟨124,#[.bool p.ret,.int .i64 1],.int .i64 ((bitN p.ret 1:Nat):Int),[],[]⟩] ⟨fun _ w1 _ _=>ref04_yes' p.dup 8 8 rfl w1,fun _ w1 _ _=>ref04_yes' p.ret 1 1 rfl w1,trivial⟩) [.f 0,.g [(0,1,1),(0,2,1),(0,3,1)] 1000 false,.d [(0,.c),(1,.l 0 0),(3,.c),(4,.l 1 0),(5,.f 1),(6,.f 2),(8,.c),(9,.l 2 0)],.k 0,.d (eN 7 [.f 3]),.k 1,.d (eN 11 [.f 4,.c])] ?_;exact en_stopI (fun a w F HK=>HJW () a w F HK)
    · rw [if_neg h3] at hz
      subst hz;refine en (EF [(.bool ((((p.ty:Int)):Int) == 3),.bool false)] ⟨eqI' (by omega),trivial⟩) [.f 0] ?_;exact en_stopI (fun a w F HK=>HJW () a w F HK)
  intro _;refine en (EF [(.int .i64 (IntKind.i64.wrap (p.ty:Int)),.int .i64 (p.ty:Int)),(.int .i64 (IntKind.i64.wrap (16 * (p.ty:Int))),.int .i64 ((16 * p.ty:Nat):Int)),(.int .i64 (IntKind.i64.wrap (((16 * p.ty:Nat):Int)+(z:Int))),.int .i64 ((16 * p.ty+z:Nat):Int))] ⟨cI (by omega),wrK (by omega) (by omega),wrK (by omega) (by omega),trivial⟩) [.c,.b 0 0,.f 0,.f 1,.c,.f 2,.c] ?_;exact en_rets () [] [] []
theorem ref04_First (p:Pk) (a:Option Addr) (c:Nat) (w:World) (hE:Env w) (h:1≤p.ty∧p.ty≤14) (hq:p.ty=3→p.qos≤2):Calls Tryz.prog 103 #[.agg (pkV p a c)] w fun e w'=>e=.returned (.int .i64 ((16 * p.ty+flagsN p:Nat):Int))∧Below w.heap.size w w' :=
  rdc_of hE (firstS4 h hq)
end Go.Proofs.YtehpihmgjbmoaaaGreatDoor
namespace Go.Proofs.YtehpihmgjbmoaaaGreatDoor
open Go.RowKit
theorem pa {α:Type _} (l:List α) (i:Nat) (a:α):l.toArray.setIfInBounds i a=(l.set i a).toArray:=List.setIfInBounds_toArray l i a
theorem p0 {α:Type _} (x a:α) (l:List α):(x::l).set 0 a=a::l:=List.set_cons_zero
theorem p1 {α:Type _} (x a:α) (l:List α) (n:Nat):(x::l).set (n+1) a=x::l.set n a:=List.set_cons_succ
section
variable {P:Program} {md:Region.Mode} {ops:Array Oper} {S:World→Prop} {Q:Exit→Act→World→Prop}
theorem wt {i:Nat} {oi:Oper} {v:Value} {fuel:Nat} {listed:Array Bool} {a:Act} {w:World} (hi:ops[i]? = some oi) (hy:∀ w,S w→(execOp a.eval oi).run P w=.ok (.value v) w)
    (h:wpAnyH P md ops Q S fuel (listed.setIfInBounds i true) (a.put oi.dst v) w)
    (hs:Region.noSelect ops=true:=by kernel_rfl) (hf:Region.free md ops listed i=true:=by kernel_rfl) (hr:(Region.ready md ops listed).contains i=true:=by kernel_rfl)
    (hw:Region.wanted oi (yielded ops a.tmps)=true:=by rfl) (hS:S w:=by assumption)
    (hQ:∀ c a w,Q (.panic c) (a.put oi.dst v) w→Q (.panic c) a w:=by exact fun _ _ _ h=>h):wpAnyH P md ops Q S (fuel+1) listed a w :=
  wpAnyH_take hi hs hf hr hQ (Or.inl ⟨hw,hy⟩) hS h
end
end Go.Proofs.YtehpihmgjbmoaaaGreatDoor
namespace Go.Proofs.YtehpihmgjbmoaaaGreatDoor
open Go.RowKit
attribute [local irreducible] Ok
theorem sub_range6 {w:World} {al:Option Addr} {L:List Sb} (h:CellsA w al (subCells L)) {k:Nat} {x:Sb} (hx:L[k]? = some x):∃ b o,al=some ⟨b,o,none⟩∧w.rangeAt b (o+k * 2) [.string x.1,.int .u8 (x.2:Int)]:=by
  obtain ⟨b,o,e,hj⟩:=CellsA.elem (g:=fun x:Sb=>[Value.string x.1,.int .u8 (x.2:Int)]) (m:=2) (fun _=>rfl) h hx (.string x.1) rfl;exact ⟨b,o,e,fun j v hv=>hj j v hv⟩
theorem con_bounds {p:Pk} (h1:p.ty=1) (h0:0≤restP p):p.level=4∧p.client.size≤65535∧p.user.size≤65535∧p.pass.size≤65535∧p.wqos≤2∧(p.hasWill=true→p.wtopic.size≤65535∧p.wpayload.size≤65535):=by
  obtain ⟨hl,hc,hw,hu,hs,hv,hpz⟩:=con_fields (con_parts h1 h0).1;have hcs:=valid_some hc;have hus:=valid_some hv;rw [blen] at hcs hus;unfold willOk at hw;refine ⟨hl,hcs,hus,hpz,?_,fun h=>?_⟩
  · split at hw
    · simp only [Bool.and_eq_true,decide_eq_true_eq] at hw;exact hw.2
    · simp only [decide_eq_true_eq] at hw
      have:=hw.2.2.1;omega
  · rw [if_pos h] at hw
    simp only [Bool.and_eq_true,decide_eq_true_eq] at hw;have h2:=valid_some (name_valid hw.1.1);rw [blen] at h2;exact ⟨h2,hw.1.2⟩
theorem bitN_le (b:Bool) (n:Nat):bitN b n≤n:=by unfold bitN;split <;> omega
theorem dataB_bl {s:ByteArray}:bB (bl s)=s:=bl_inj rfl
theorem wordB_len (n:Nat):(wordB n).length=2:=rfl
theorem ad_bl {L:Bs} {s:ByteArray} (h:L.length+s.size≤9223372036854775807) {w:World} (ty:TypeId):(adT (.string (bB L)) (.string s) ty).run Tryz.prog w=.ok (.value (.string (bB (L++bl s)))) w:=by
  have h2:=ad_run (L:=L) (M:=bl s) (by rw [blen];exact h) (w:=w) ty;rw [dataB_bl] at h2;exact h2
theorem subsB_short (t:Nat) (S:List Sb) (j:Nat) (hS:∀ x ∈ S,x.1.size≤65535∧x.2 < 256):((S.take j).flatMap (subB t)).length≤S.length * 65538:=by
  have h1:∀ (l:List Sb),(∀ x ∈ l,x.1.size≤65535∧x.2 < 256)→(l.flatMap (subB t)).length≤l.length * 65538:=by
    intro l;induction l with
    | nil=>intro _;exact Nat.le_refl _
    | cons x r ih =>
      intro h;have h2:=ih (fun y hy=>h y (List.mem_cons_of_mem _ hy));have h3:=(h x List.mem_cons_self).1;have h4:(subB t x).length≤65538:=by
        unfold subB;rw [List.length_append,dataB_len];split
        · simp only [List.length_cons,List.length_nil];omega
        · simp only [List.length_nil];omega
      rw [List.flatMap_cons,List.length_append,List.length_cons];omega
  have h5:=h1 (S.take j) (fun x hx=>hS x (List.mem_of_mem_take hx));rw [List.length_take] at h5;exact Nat.le_trans h5 (Nat.mul_le_mul_right _ (Nat.min_le_right _ _))
set_option maxRecDepth 100000 in
set_option maxHeartbeats 4000000 in
theorem rest04 {wb:World} {p:Pk} {a:Option Addr} {c:Nat} (hp:PkOk p) (hX:∀ w,Below wb.heap.size wb w→CellsA w a (subCells p.subs)) (h0:0≤restP p):Spec Tryz.prog wb 106 #[.agg (pkV p a c)] [] [] (fun _:Unit=>.string (bB (restB p))) (fun _=>[]) (fun _=>[]):=by
  have hty:=rest_types h0;have zz:=(zeros_iff p).1 (rest_bare h0);obtain ⟨z,hz⟩:∃ z,restB p=z:=⟨_,rfl⟩
  rw [hz];have hcon:=fun h1:p.ty=1=>con_bounds h1 h0
  have hpub:=fun h3:p.ty=3=>pub_parts h3 h0
  have hids:=fun (h3:p.ty≠3) (h4:4≤p.ty∧p.ty≤11)=>ids_parts h3 h4 h0
  have hsub:=fun h8:p.ty=8∨p.ty=10=>(subs_parts h8 h0).2.2.1
  obtain ⟨ty,dup,qos,ret,id,topic,payload,level,clean,keep,client,hasWill,wtopic,wpayload,wqos,wret,hasUser,hasPass,user,pass,present,code,subs,codes⟩:=p;have hpt:=hp.topic;have hpp:=hp.payload;have hpi:=hp.id;have hpc:=hp.code;have hpk:=hp.keep;have hpd:=hp.codes;have hpf:=hp.few;have hpe:=hp.each;have z1:=zz.z1;have z2:=zz.z2;have z3:=zz.z3;have z9:=zz.z9;have zi:=zz.zi;have zs:=zz.zs;simp only at hty z1 z2 z3 z9 zi zs hcon hpub hids hsub hpt hpp hpi hpc hpk hpd hpf hpe
  clear hp h0 zz;intro w H;refine en_call Tryz.func106 H ?_;by_cases h:ty=1
  · subst h
    obtain ⟨hl,hcs,hus,hpz,hq,hwt⟩:=hcon rfl;have b1:=bitN_le hasUser 128;have b2:=bitN_le hasPass 64;have b3:=bitN_le wret 32;have b4:=bitN_le hasWill 4;have b5:=bitN_le clean 2;obtain ⟨F,hF⟩:∃ F,bitN hasUser 128+bitN hasPass 64+bitN wret 32+8 * wqos+bitN hasWill 4+bitN clean 2=F:=⟨_,rfl⟩
    have hcf:conFlags (⟨1,dup,qos,ret,id,topic,payload,level,clean,keep,client,hasWill,wtopic,wpayload,wqos,wret,hasUser,hasPass,user,pass,present,code,subs,codes⟩:Pk)=F:=hF;subst hl;have hm4:mqtt.size=4:=rfl;unfold restB connectB at hz;simp only [hcf,if_true] at hz;clear hcon hpub hids hsub;refine en1 (EK [(.int .i64 (IntKind.i64.wrap ((wqos:Int))),.int .i64 (wqos:Int)),(.int .i64 (IntKind.i64.wrap (8 * (wqos:Int))),.int .i64 ((8 * wqos:Nat):Int)),(.int .i64 (IntKind.i64.wrap (((bitN hasUser 128:Nat):Int)+((bitN hasPass 64:Nat):Int))),.int .i64 ((bitN hasUser 128+bitN hasPass 64:Nat):Int)),(.int .i64 (IntKind.i64.wrap (((bitN hasUser 128+bitN hasPass 64:Nat):Int)+((bitN wret 32:Nat):Int))),.int .i64 ((bitN hasUser 128+bitN hasPass 64+bitN wret 32:Nat):Int)),(.int .i64 (IntKind.i64.wrap (((bitN hasUser 128+bitN hasPass 64+bitN wret 32:Nat):Int)+((8 * wqos:Nat):Int))),.int .i64 ((bitN hasUser 128+bitN hasPass 64+bitN wret 32+8 * wqos:Nat):Int)),(.int .i64 (IntKind.i64.wrap (((bitN hasUser 128+bitN hasPass 64+bitN wret 32+8 * wqos:Nat):Int)+((bitN hasWill 4:Nat):Int))),.int .i64 ((bitN hasUser 128+bitN hasPass 64+bitN wret 32+8 * wqos+bitN hasWill 4:Nat):Int)),(.int .i64 (IntKind.i64.wrap (((bitN hasUser 128+bitN hasPass 64+bitN wret 32+8 * wqos+bitN hasWill 4:Nat):Int)+((bitN clean 2:Nat):Int))),.int .i64 (F:Int))] ⟨wrK rfl (by omega),wrK (by omega) (by omega),wrK (by omega) (by omega),wrK (by omega) (by omega),wrK (by omega) (by omega),wrK (by omega) (by omega),wrK (by omega) (by omega),trivial⟩ [⟨124,#[.bool hasUser,.int .i64 128],.int .i64 ((bitN hasUser 128:Nat):Int),[],[]⟩,⟨124,#[.bool hasPass,.int .i64 64],.int .i64 ((bitN hasPass 64:Nat):Int),[],[]⟩,⟨124,#[.bool wret,.int .i64 32],.int .i64 ((bitN wret 32:Nat):Int),[],[]⟩,⟨124,#[.bool hasWill,.int .i64 4],.int .i64 ((bitN hasWill 4:Nat):Int),[],[]⟩,⟨124,#[.bool clean,.int .i64 2],.int .i64 ((bitN clean 2:Nat):Int),[],[]⟩] ⟨fun _ w _ _=>ref04_yes hasUser 128 w,fun _ w _ _=>ref04_yes hasPass 64 w,fun _ w _ _=>ref04_yes wret 32 w,fun _ w _ _=>ref04_yes hasWill 4 w,fun _ w _ _=>ref04_yes clean 2 w,trivial⟩) (.x::eC 3 [.b 0 0,.c,.c,.g [(0,16,1),(0,17,1),(0,15,1),(0,14,1),(0,11,1),(0,8,1)] 1000 false,.d [(0,.c),(1,.l 0 0),(3,.c),(4,.l 1 0),(7,.c),(8,.c),(9,.l 2 0),(12,.c),(13,.c),(14,.l 3 0),(15,.f 0),(16,.f 1),(18,.c),(19,.l 4 0),(22,.c),(23,.l 5 0)],.k 0,.k 1,.d (eN 6 [.f 2]),.k 2,.d [(11,.f 3),(17,.f 4)],.k 3,.d (eN 21 [.f 5]),.k 4,.d (eN 25 [.f 6,.c])]) fun Y=>?_
    refine en ⟨⟨[],[(adT (.string (bB (dataB mqtt))) (.string (bB [byteN 4])) 9,.string (bB ((dataB mqtt)++[byteN 4]))),(adT (.string (bB (dataB mqtt++[byteN 4]))) (.string (bB [byteN F])) 9,.string (bB ((dataB mqtt++[byteN 4])++[byteN F]))),(adT (.string (bB ((dataB mqtt++[byteN 4])++[byteN F]))) (.string (bB (wordB keep))) 9,.string (bB (((dataB mqtt++[byteN 4])++[byteN F])++(wordB keep)))),(adT (.string (bB (((dataB mqtt++[byteN 4])++[byteN F])++wordB keep))) (.string (bB (dataB client))) 9,.string (bB ((((dataB mqtt++[byteN 4])++[byteN F])++wordB keep)++(dataB client))))]⟩,[],[],[⟨135,#[.string mqtt],.string (bB (dataB mqtt)),[],[]⟩,⟨110,#[.int .i64 4],.string (bB [byteN 4]),[],[]⟩,⟨110,#[.int .i64 (F:Int)],.string (bB [byteN F]),[],[]⟩,⟨136,#[.int .u16 (keep:Int)],.string (bB (wordB keep)),[],[]⟩,⟨135,#[.string client],.string (bB (dataB client)),[],[]⟩],fun _ _ h=>⟨trivial,⟨ad_run (by simp only [List.length_append,dataB_len,wordB_len,List.length_cons,List.length_nil,bl_len,blen];omega) 9,ad_run (by simp only [List.length_append,dataB_len,wordB_len,List.length_cons,List.length_nil,bl_len,blen];omega) 9,ad_run (by simp only [List.length_append,dataB_len,wordB_len,List.length_cons,List.length_nil,bl_len,blen];omega) 9,ad_run (by simp only [List.length_append,dataB_len,wordB_len,List.length_cons,List.length_nil,bl_len,blen];omega) 9,trivial⟩⟩,trivial,trivial,⟨fun _ w h _=>ref04_data mqtt (by decide) w h.hp.env,fun _ w h _=>ref04_one' 4 4 rfl (by decide) w h.hp.env,fun _ w h _=>ref04_one' (F:Int) F rfl (by omega) w h.hp.env,fun _ w h _=>ref04_word keep (by omega) w h.hp.env,fun _ w h _=>ref04_data client (by omega) w h.hp.env,trivial⟩⟩ [.g [(0,9,1),(0,10,1)] 1000 true,.d [(3,.c),(6,.c),(7,.l 0 0),(10,.c),(11,.l 1 0)],.k 0,.k 1,.d (eN 2 [.r 0]),.k 2,.d (eN 5 [.r 1]),.k 3,.d (eN 9 [.r 2]),.k 4,.d (eN 13 [.r 3,.c])] ?_;refine en_norm (runP (codeOf Tryz.f106) [1,1,0,1,0,1,0,1,1,0,0] [] 0) [(1,.pointer (some ⟨Y,0,none⟩)),(2,.string ⟨#[]⟩),(3,.string (bB ((((dataB mqtt++[byteN 4])++[byteN F])++wordB keep)++(dataB client))))] [⟨Y,[.int .u8 1,.bool dup,.int .u8 (qos:Int),.bool ret,.int .u16 (id:Int),.string topic,.string payload,.int .u8 ((4:Nat):Int),.bool clean,.int .u16 (keep:Int),.string client,.bool hasWill,.string wtopic,.string wpayload,.int .u8 (wqos:Int),.bool wret,.bool hasUser,.bool hasPass,.string user,.string pass,.bool present,.int .u8 (code:Int),.slice a subs.length c,.string codes],33⟩] ?_;cases hasWill
    · refine en E0 [.c,.b 0 11] ?_
      cases hasUser
      · refine en E0 [.c,.b 0 16] ?_
        cases hasPass
        · refine en E0 [.c,.b 0 17,.c,.c] ?_
          have he:z=((((dataB mqtt++[byteN 4])++[byteN F])++wordB keep)++dataB client):=by rw [← hz];simp only [List.append_assoc,List.cons_append,List.nil_append,List.append_nil,Bool.false_eq_true,if_true,if_false]
          subst he;exact en_rets () [] [] []
        · refine en ⟨⟨[],[(adT (.string (bB ((((dataB mqtt++[byteN 4])++[byteN F])++wordB keep)++dataB client))) (.string (bB (dataB pass))) 9,.string (bB (((((dataB mqtt++[byteN 4])++[byteN F])++wordB keep)++dataB client)++(dataB pass))))]⟩,[],[],[⟨135,#[.string pass],.string (bB (dataB pass)),[],[]⟩],fun _ _ h=>⟨trivial,⟨ad_run (by simp only [List.length_append,dataB_len,wordB_len,List.length_cons,List.length_nil,bl_len,blen];omega) 9,trivial⟩⟩,trivial,trivial,⟨fun _ w h _=>ref04_data pass (hpz) w h.hp.env,trivial⟩⟩ (.c::.b 0 17::.c::.c::.b 0 19::.k 0::.r 0::eC 3 []) ?_
          have he:z=(((((dataB mqtt++[byteN 4])++[byteN F])++wordB keep)++dataB client)++dataB pass):=by rw [← hz];simp only [List.append_assoc,List.cons_append,List.nil_append,List.append_nil,Bool.false_eq_true,if_true,if_false]
          subst he;exact en_rets () [] [] []
      · refine en ⟨⟨[],[(adT (.string (bB ((((dataB mqtt++[byteN 4])++[byteN F])++wordB keep)++dataB client))) (.string (bB (dataB user))) 9,.string (bB (((((dataB mqtt++[byteN 4])++[byteN F])++wordB keep)++dataB client)++(dataB user))))]⟩,[],[],[⟨135,#[.string user],.string (bB (dataB user)),[],[]⟩],fun _ _ h=>⟨trivial,⟨ad_run (by simp only [List.length_append,dataB_len,wordB_len,List.length_cons,List.length_nil,bl_len,blen];omega) 9,trivial⟩⟩,trivial,trivial,⟨fun _ w h _=>ref04_data user (hus) w h.hp.env,trivial⟩⟩ [.c,.b 0 16,.c,.c,.b 0 18,.k 0,.r 0,.c] ?_
        cases hasPass
        · refine en E0 [.c,.b 0 17,.c,.c] ?_
          have he:z=(((((dataB mqtt++[byteN 4])++[byteN F])++wordB keep)++dataB client)++dataB user):=by rw [← hz];simp only [List.append_assoc,List.cons_append,List.nil_append,List.append_nil,Bool.false_eq_true,if_true,if_false]
          subst he;exact en_rets () [] [] []
        · refine en ⟨⟨[],[(adT (.string (bB (((((dataB mqtt++[byteN 4])++[byteN F])++wordB keep)++dataB client)++dataB user))) (.string (bB (dataB pass))) 9,.string (bB ((((((dataB mqtt++[byteN 4])++[byteN F])++wordB keep)++dataB client)++dataB user)++(dataB pass))))]⟩,[],[],[⟨135,#[.string pass],.string (bB (dataB pass)),[],[]⟩],fun _ _ h=>⟨trivial,⟨ad_run (by simp only [List.length_append,dataB_len,wordB_len,List.length_cons,List.length_nil,bl_len,blen];omega) 9,trivial⟩⟩,trivial,trivial,⟨fun _ w h _=>ref04_data pass (hpz) w h.hp.env,trivial⟩⟩ (.c::.b 0 17::.c::.c::.b 0 19::.k 0::.r 0::eC 3 []) ?_
          have he:z=((((((dataB mqtt++[byteN 4])++[byteN F])++wordB keep)++dataB client)++dataB user)++dataB pass):=by rw [← hz];simp only [List.append_assoc,List.cons_append,List.nil_append,List.append_nil,Bool.false_eq_true,if_true,if_false]
          subst he;exact en_rets () [] [] []
    · obtain ⟨hw1,hw2⟩:=hwt rfl
      refine en E0 [.c,.b 0 11] ?_;refine en ⟨⟨[],[(adT (.string (bB ((((dataB mqtt++[byteN 4])++[byteN F])++wordB keep)++dataB client))) (.string (bB (dataB wtopic))) 9,.string (bB (((((dataB mqtt++[byteN 4])++[byteN F])++wordB keep)++dataB client)++(dataB wtopic)))),(adT (.string (bB (((((dataB mqtt++[byteN 4])++[byteN F])++wordB keep)++dataB client)++dataB wtopic))) (.string (bB (dataB wpayload))) 9,.string (bB ((((((dataB mqtt++[byteN 4])++[byteN F])++wordB keep)++dataB client)++dataB wtopic)++(dataB wpayload))))]⟩,[],[],[⟨135,#[.string wtopic],.string (bB (dataB wtopic)),[],[]⟩,⟨135,#[.string wpayload],.string (bB (dataB wpayload)),[],[]⟩],fun _ _ h=>⟨trivial,⟨ad_run (by simp only [List.length_append,dataB_len,wordB_len,List.length_cons,List.length_nil,bl_len,blen];omega) 9,ad_run (by simp only [List.length_append,dataB_len,wordB_len,List.length_cons,List.length_nil,bl_len,blen];omega) 9,trivial⟩⟩,trivial,trivial,⟨fun _ w h _=>ref04_data wtopic (hw1) w h.hp.env,fun _ w h _=>ref04_data wpayload (hw2) w h.hp.env,trivial⟩⟩ [.g [(0,12,1),(0,13,1)] 1000 true,.d [(0,.c),(1,.c),(2,.c),(3,.l 0 0),(6,.c),(7,.c),(8,.l 1 0)],.k 0,.d (eN 5 [.r 0]),.k 1,.d (eN 10 [.r 1,.c])] ?_;cases hasUser
      · refine en E0 [.c,.b 0 16] ?_
        cases hasPass
        · refine en E0 [.c,.b 0 17,.c,.c] ?_
          have he:z=((((((dataB mqtt++[byteN 4])++[byteN F])++wordB keep)++dataB client)++dataB wtopic)++dataB wpayload):=by rw [← hz];simp only [List.append_assoc,List.cons_append,List.nil_append,List.append_nil,Bool.false_eq_true,if_true,if_false]
          subst he;exact en_rets () [] [] []
        · refine en ⟨⟨[],[(adT (.string (bB ((((((dataB mqtt++[byteN 4])++[byteN F])++wordB keep)++dataB client)++dataB wtopic)++dataB wpayload))) (.string (bB (dataB pass))) 9,.string (bB (((((((dataB mqtt++[byteN 4])++[byteN F])++wordB keep)++dataB client)++dataB wtopic)++dataB wpayload)++(dataB pass))))]⟩,[],[],[⟨135,#[.string pass],.string (bB (dataB pass)),[],[]⟩],fun _ _ h=>⟨trivial,⟨ad_run (by simp only [List.length_append,dataB_len,wordB_len,List.length_cons,List.length_nil,bl_len,blen];omega) 9,trivial⟩⟩,trivial,trivial,⟨fun _ w h _=>ref04_data pass (hpz) w h.hp.env,trivial⟩⟩ (.c::.b 0 17::.c::.c::.b 0 19::.k 0::.r 0::eC 3 []) ?_
          have he:z=(((((((dataB mqtt++[byteN 4])++[byteN F])++wordB keep)++dataB client)++dataB wtopic)++dataB wpayload)++dataB pass):=by rw [← hz];simp only [List.append_assoc,List.cons_append,List.nil_append,List.append_nil,Bool.false_eq_true,if_true,if_false]
          subst he;exact en_rets () [] [] []
      · refine en ⟨⟨[],[(adT (.string (bB ((((((dataB mqtt++[byteN 4])++[byteN F])++wordB keep)++dataB client)++dataB wtopic)++dataB wpayload))) (.string (bB (dataB user))) 9,.string (bB (((((((dataB mqtt++[byteN 4])++[byteN F])++wordB keep)++dataB client)++dataB wtopic)++dataB wpayload)++(dataB user))))]⟩,[],[],[⟨135,#[.string user],.string (bB (dataB user)),[],[]⟩],fun _ _ h=>⟨trivial,⟨ad_run (by simp only [List.length_append,dataB_len,wordB_len,List.length_cons,List.length_nil,bl_len,blen];omega) 9,trivial⟩⟩,trivial,trivial,⟨fun _ w h _=>ref04_data user (hus) w h.hp.env,trivial⟩⟩ [.c,.b 0 16,.c,.c,.b 0 18,.k 0,.r 0,.c] ?_
        cases hasPass
        · refine en E0 [.c,.b 0 17,.c,.c] ?_
          have he:z=(((((((dataB mqtt++[byteN 4])++[byteN F])++wordB keep)++dataB client)++dataB wtopic)++dataB wpayload)++dataB user):=by rw [← hz];simp only [List.append_assoc,List.cons_append,List.nil_append,List.append_nil,Bool.false_eq_true,if_true,if_false]
          subst he;exact en_rets () [] [] []
        · refine en ⟨⟨[],[(adT (.string (bB (((((((dataB mqtt++[byteN 4])++[byteN F])++wordB keep)++dataB client)++dataB wtopic)++dataB wpayload)++dataB user))) (.string (bB (dataB pass))) 9,.string (bB ((((((((dataB mqtt++[byteN 4])++[byteN F])++wordB keep)++dataB client)++dataB wtopic)++dataB wpayload)++dataB user)++(dataB pass))))]⟩,[],[],[⟨135,#[.string pass],.string (bB (dataB pass)),[],[]⟩],fun _ _ h=>⟨trivial,⟨ad_run (by simp only [List.length_append,dataB_len,wordB_len,List.length_cons,List.length_nil,bl_len,blen];omega) 9,trivial⟩⟩,trivial,trivial,⟨fun _ w h _=>ref04_data pass (hpz) w h.hp.env,trivial⟩⟩ (.c::.b 0 17::.c::.c::.b 0 19::.k 0::.r 0::eC 3 []) ?_
          have he:z=((((((((dataB mqtt++[byteN 4])++[byteN F])++wordB keep)++dataB client)++dataB wtopic)++dataB wpayload)++dataB user)++dataB pass):=by rw [← hz];simp only [List.append_assoc,List.cons_append,List.nil_append,List.append_nil,Bool.false_eq_true,if_true,if_false]
          subst he;exact en_rets () [] [] []
  have h1:=h;clear h;by_cases h:ty=2
  · subst h
    have b1:=bitN_le present 1;refine en1 E0 (.x::eC 3 (.b 0 0::eC 4 [])) fun Y=>?_
    refine en ⟨⟨[],[(adT (.string (bB [byteN (bitN present 1)])) (.string (bB [byteN code])) 9,.string (bB ([byteN (bitN present 1)]++[byteN code])))]⟩,[(.int .i64 (IntKind.i64.wrap ((code:Int))),.int .i64 (code:Int))],[],[⟨124,#[.bool present,.int .i64 1],.int .i64 ((bitN present 1:Nat):Int),[],[]⟩,⟨110,#[.int .i64 ((bitN present 1:Nat):Int)],.string (bB [byteN (bitN present 1)]),[],[]⟩,⟨110,#[.int .i64 (code:Int)],.string (bB [byteN code]),[],[]⟩],fun _ _ h=>⟨trivial,⟨ad_run (by simp only [List.length_append,dataB_len,wordB_len,List.length_cons,List.length_nil,bl_len,blen];omega) 9,trivial⟩⟩,⟨wrK rfl (by omega),trivial⟩,trivial,⟨fun _ w _ _=>ref04_yes present 1 w,fun _ w h _=>ref04_one' ((bitN present 1:Nat):Int) (bitN present 1) rfl (by omega) w h.hp.env,fun _ w h _=>ref04_one' (code:Int) code rfl (hpc) w h.hp.env,trivial⟩⟩ [.g [(0,20,1),(0,21,1)] 1000 true,.d [(0,.c),(1,.l 0 0),(4,.c),(5,.l 1 0),(6,.f 0)],.k 0,.k 1,.k 2,.d (eN 8 [.r 0,.c]),.c,.c] ?_;have he:z=([byteN (bitN present 1)]++[byteN code]):=by rw [← hz];rfl
    subst he;exact en_rets () [] [] []
  have h2:=h;clear h;by_cases h:ty=3
  · subst h
    obtain ⟨hn,hq,hid⟩:=hpub rfl;have hts:topic.size≤65535:=by have h:=valid_some (name_valid hn);rw [blen] at h;exact h
    have hc:=z9 (by decide);have hs:=zs (by decide) (by decide);subst hc hs;refine en1 (EK [] trivial [⟨135,#[.string topic],.string (bB (dataB topic)),[],[]⟩] ⟨fun _ w h _=>ref04_data topic (hts) w h.hp.env,trivial⟩) (.x::eC 3 (.b 0 0::eC 7 [.b 0 5,.k 0,.c])) fun Y=>?_
    by_cases hq0:0 < qos
    · have hid0:id≠0:=by rcases hid with ⟨q0,_,_⟩ | ⟨_,i0,_⟩ <;> omega
      refine en ⟨⟨[],[(adT (.string (bB (dataB topic))) (.string (bB (wordB id))) 9,.string (bB ((dataB topic)++(wordB id)))),(adT (.string (bB (dataB topic++wordB id))) (.string payload) 9,.string (bB ((dataB topic++wordB id)++bl payload)))]⟩,[(.bool (decide ((((qos:Int)):Int) > 0)),.bool true)],[],[⟨136,#[.int .u16 (id:Int)],.string (bB (wordB id)),[],[]⟩],fun _ _ h=>⟨trivial,⟨ad_run (by simp only [List.length_append,dataB_len,wordB_len,List.length_cons,List.length_nil,bl_len,blen];omega) 9,ad_bl (by simp only [List.length_append,dataB_len,wordB_len];omega) 9,trivial⟩⟩,⟨dcT (by omega),trivial⟩,trivial,⟨fun _ w h _=>ref04_word id (by omega) w h.hp.env,trivial⟩⟩ (.c::.b 0 2::.f 0::.c::.c::.b 0 4::.k 0::.r 0::eC 3 (.b 0 6::.r 1::eC 3 [])) ?_;have he:z=((dataB topic++wordB id)++bl payload):=by rw [← hz];unfold restB otherB;simp [hid0,e0_bl]
      subst he;exact en_rets () [] [] []
    · have hid0:id=0:=by rcases hid with ⟨_,i0,_⟩ | ⟨q0,_,_⟩ <;> omega
      refine en ⟨⟨[],[(adT (.string (bB (dataB topic))) (.string payload) 9,.string (bB ((dataB topic)++bl payload)))]⟩,[(.bool (decide ((((qos:Int)):Int) > 0)),.bool false)],[],[],fun _ _ h=>⟨trivial,⟨ad_bl (by simp only [List.length_append,dataB_len,wordB_len];omega) 9,trivial⟩⟩,⟨dcF (by omega),trivial⟩,trivial,trivial⟩ (.c::.b 0 2::.f 0::.c::.c::.b 0 6::.r 0::eC 3 []) ?_;have he:z=(dataB topic++bl payload):=by rw [← hz];unfold restB otherB;simp [hid0,e0_bl]
      subst he;exact en_rets () [] [] []
  have h3:=h;clear h;by_cases h:ty=12
  · subst h
    have hi:=zi (by decide);have hc:=z9 (by decide);have hs:=zs (by decide) (by decide);have hy:=(z3 (by decide)).2.2.2.2;subst hi hc hs hy;refine en1 E0 (.x::eC 3 (.b 0 0::eC 16 [])) fun Y=>?_
    have he:z=[]:=by rw [← hz];unfold restB otherB;simp [e0_bl]
    subst he;exact en_rets () [] [] []
  have h12:=h;clear h;by_cases h:ty=13
  · subst h
    have hi:=zi (by decide);have hc:=z9 (by decide);have hs:=zs (by decide) (by decide);have hy:=(z3 (by decide)).2.2.2.2;subst hi hc hs hy;refine en1 E0 (.x::eC 3 (.b 0 0::eC 18 [])) fun Y=>?_
    have he:z=[]:=by rw [← hz];unfold restB otherB;simp [e0_bl]
    subst he;exact en_rets () [] [] []
  have h13:=h;clear h;by_cases h:ty=14
  · subst h
    have hi:=zi (by decide);have hc:=z9 (by decide);have hs:=zs (by decide) (by decide);have hy:=(z3 (by decide)).2.2.2.2;subst hi hc hs hy;refine en1 E0 (.x::eC 3 (.b 0 0::eC 20 [])) fun Y=>?_
    have he:z=[]:=by rw [← hz];unfold restB otherB;simp [e0_bl]
    subst he;exact en_rets () [] [] []
  have h14:=h;clear h;by_cases h:ty=9
  · subst h
    have hi:=hids (by decide) (by decide);have hs:=zs (by decide) (by decide);have hy:=(z3 (by decide)).2.2.2.2;subst hs hy;refine en1 E0 (.x::eC 3 (.b 0 0::eC 12 [])) fun Y=>?_
    refine en ⟨⟨[],[(adT (.string (bB (wordB id))) (.string codes) 9,.string (bB (wordB id++bl codes)))]⟩,[],[],[⟨136,#[.int .u16 (id:Int)],.string (bB (wordB id)),[],[]⟩],fun _ _ h=>⟨trivial,⟨ad_bl (by simp only [wordB_len];omega) 9,trivial⟩⟩,trivial,trivial,⟨fun _ w h _=>ref04_word id (by omega) w h.hp.env,trivial⟩⟩ [.g [(0,4,1),(0,23,1)] 1000 true,.d [(0,.c),(1,.l 0 0),(3,.c),(4,.l 1 0)],.k 0,.d (eN 5 [.r 0,.c]),.c,.c] ?_;have he:z=(wordB id++bl codes):=by rw [← hz];unfold restB otherB;simp [hi,e0_bl]
    subst he;exact en_rets () [] [] []
  have h9:=h;clear h;by_cases h:ty=8
  · subst h
    have hi:=hids (by decide) (by decide);have hc:=z9 (by decide);have hy:=(z3 (by decide)).2.2.2.2;subst hc hy;have hall:=hsub (by decide);have hS:∀ x ∈ subs,x.1.size≤65535∧x.2 < 256:=by
      intro x hx;have h5:=List.all_eq_true.1 hall x hx;unfold subOk at h5;simp only [Bool.and_eq_true,decide_eq_true_eq] at h5;have h6:(bl x.1).length≤65535:=valid_some (filter_valid h5.1);rw [blen] at h6;exact ⟨h6,(hpe x hx).2⟩
    clear hcon hpub hids hsub hall;refine en1 (EK [] trivial [⟨136,#[.int .u16 (id:Int)],.string (bB (wordB id)),[],[]⟩] ⟨fun _ w h _=>ref04_word id (by omega) w h.hp.env,trivial⟩) (.x::eC 3 (.b 0 0::eC 9 [.b 0 4,.k 0,.c,.c])) fun Y=>?_
    refine en_loopP (codeOf Tryz.f106) [1,1,0,1,0,1,1,1,1,1,1,1,0,1,1,0] [1,1,0,1,0,1,1,1,1,1,1,1,0,1,1,0,0] [] (α:={j:Nat // j≤subs.length}) (fun y=>subs.length - y.1) (fun y=>[(1,.pointer (some ⟨Y,0,none⟩)),(2,.string ⟨#[]⟩),(5,.int .i64 (y.1:Int)),(3,.string (bB (wordB id++(subs.take y.1).flatMap (subB 8))))]) (fun y=>[⟨Y,[.int .u8 8,.bool dup,.int .u8 (qos:Int),.bool ret,.int .u16 (id:Int),.string topic,.string e0,.int .u8 (level:Int),.bool clean,.int .u16 (keep:Int),.string client,.bool hasWill,.string wtopic,.string wpayload,.int .u8 (wqos:Int),.bool wret,.bool hasUser,.bool hasPass,.string user,.string pass,.bool present,.int .u8 (code:Int),.slice a subs.length c,.string e0],33⟩]) (fun y=>many []) ⟨0,Nat.zero_le _⟩ (by kernel_rfl) ?_;intro ⟨j,hj⟩ J HJ;simp only at HJ
    by_cases hk:j < subs.length
    · obtain ⟨x,hx⟩:∃ x,subs[j]? = some x:=⟨_,List.getElem?_eq_getElem hk⟩
      obtain ⟨hx1,hx2⟩:=hS x (List.mem_of_getElem? hx);have hlen:=subsB_short 8 subs j hS;have ht:wordB id++(subs.take (j+1)).flatMap (subB 8)=(((wordB id++(subs.take j).flatMap (subB 8))++dataB x.1)++[byteN x.2]):=by rw [List.take_add_one,hx];simp [subB]
      refine en_factK (p:=∃ g o,a=some ⟨g,o,none⟩) (fun w h=>by obtain ⟨g,o,h1,_⟩:=sub_range6 (hX w h.hp.low) hx;exact ⟨g,o,h1⟩) ?_;rintro ⟨gs,os,rfl⟩;have HR:∀ w,Below wb.heap.size wb w→w.rangeAt gs (os+j * 2) [.string x.1,.int .u8 (x.2:Int)]:=fun w h1=>by
        obtain ⟨g',o',h3,h4⟩:=sub_range6 (hX w h1) hx;injection h3 with h3
        injection h3 with h3 h5
        subst h3 h5;exact h4
      refine en ⟨⟨[⟨gs,os+j * 2,[.string x.1,.int .u8 (x.2:Int)]⟩],[(adT (.string (bB (wordB id++(subs.take j).flatMap (subB 8)))) (.string (bB (dataB x.1))) 9,.string (bB ((wordB id++(subs.take j).flatMap (subB 8))++(dataB x.1)))),(adT (.string (bB ((wordB id++(subs.take j).flatMap (subB 8))++dataB x.1))) (.string (bB [byteN x.2])) 9,.string (bB (((wordB id++(subs.take j).flatMap (subB 8))++dataB x.1)++[byteN x.2])))]⟩,[(.bool (decide ((((j:Int)):Int) < (subs.length:Int))),.bool true),(.int .i64 (IntKind.i64.wrap ((x.2:Int))),.int .i64 (x.2:Int)),(.int .i64 (IntKind.i64.wrap ((j:Int)+1)),.int .i64 ((j+1:Nat):Int))],[⟨some ⟨gs,os,none⟩,subs.length,c,.i64,j,2,⟨gs,os+j * 2,none⟩⟩,⟨some ⟨gs,os,none⟩,subs.length,c,.i64,j,2,⟨gs,os+j * 2,none⟩⟩],[⟨135,#[.string x.1],.string (bB (dataB x.1)),[],[]⟩,⟨110,#[.int .i64 (x.2:Int)],.string (bB [byteN x.2]),[],[]⟩],fun _ _ h=>⟨⟨HR _ h.hp.low,trivial⟩,⟨ad_run (by simp only [List.length_append,dataB_len,wordB_len,List.length_cons,List.length_nil];omega) 9,ad_run (by simp only [List.length_append,dataB_len,wordB_len,List.length_cons,List.length_nil];omega) 9,trivial⟩⟩,⟨dcT (by omega),wrK rfl (by omega),addI (by omega),trivial⟩,⟨⟨gs,os,j,rfl,rfl,hk,rfl⟩,⟨gs,os,j,rfl,rfl,hk,rfl⟩,trivial⟩,⟨fun _ w h _=>ref04_data x.1 (hx1) w h.hp.env,fun _ w h _=>ref04_one' (x.2:Int) x.2 rfl (hx2) w h.hp.env,trivial⟩⟩ (.c::.c::.b 0 22::.c::.f 0::.c::.c::.b 0 22::.c::.i 0::.c::.l 0 0::.k 0::.r 0::.c::.c::.b 0 0::eC 3 [.b 0 22,.c,.i 1,.c,.l 0 1,.f 1,.k 1,.r 1,.c,.c,.f 2,.c]) ?_;replace HJ:=HJ ⟨j+1,by omega⟩;simp only [ht] at HJ;exact en_stopI (fun a w F HK=>HJ a w (by show subs.length - (j+1) < subs.length - j;omega) F HK)
    refine en (EF [(.bool (decide ((((j:Int)):Int) < (subs.length:Int))),.bool false)] ⟨dcF (by omega),trivial⟩) [.c,.c,.b 0 22,.c,.f 0,.c,.c] ?_;have he:z=(wordB id++(subs.take j).flatMap (subB 8)):=by rw [← hz];rw [List.take_of_length_le (by omega)];unfold restB otherB;simp [hi,e0_bl]
    subst he;exact en_rets () [] [] []
  have h8:=h;clear h;by_cases h:ty=10
  · subst h
    have hi:=hids (by decide) (by decide);have hc:=z9 (by decide);have hy:=(z3 (by decide)).2.2.2.2;subst hc hy;have hall:=hsub (by decide);have hS:∀ x ∈ subs,x.1.size≤65535∧x.2 < 256:=by
      intro x hx;have h5:=List.all_eq_true.1 hall x hx;unfold subOk at h5;simp only [Bool.and_eq_true,decide_eq_true_eq] at h5;have h6:(bl x.1).length≤65535:=valid_some (filter_valid h5.1);rw [blen] at h6;exact ⟨h6,(hpe x hx).2⟩
    clear hcon hpub hids hsub hall;refine en1 (EK [] trivial [⟨136,#[.int .u16 (id:Int)],.string (bB (wordB id)),[],[]⟩] ⟨fun _ w h _=>ref04_word id (by omega) w h.hp.env,trivial⟩) (.x::eC 3 (.b 0 0::eC 11 [.b 0 4,.k 0,.c,.c])) fun Y=>?_
    refine en_loopP (codeOf Tryz.f106) [1,1,0,1,0,1,1,1,1,1,1,1,0,1,1,0] [1,1,0,1,0,1,1,1,1,1,1,1,0,1,1,0,0] [] (α:={j:Nat // j≤subs.length}) (fun y=>subs.length - y.1) (fun y=>[(1,.pointer (some ⟨Y,0,none⟩)),(2,.string ⟨#[]⟩),(5,.int .i64 (y.1:Int)),(3,.string (bB (wordB id++(subs.take y.1).flatMap (subB 10))))]) (fun y=>[⟨Y,[.int .u8 10,.bool dup,.int .u8 (qos:Int),.bool ret,.int .u16 (id:Int),.string topic,.string e0,.int .u8 (level:Int),.bool clean,.int .u16 (keep:Int),.string client,.bool hasWill,.string wtopic,.string wpayload,.int .u8 (wqos:Int),.bool wret,.bool hasUser,.bool hasPass,.string user,.string pass,.bool present,.int .u8 (code:Int),.slice a subs.length c,.string e0],33⟩]) (fun y=>many []) ⟨0,Nat.zero_le _⟩ (by kernel_rfl) ?_;intro ⟨j,hj⟩ J HJ;simp only at HJ
    by_cases hk:j < subs.length
    · obtain ⟨x,hx⟩:∃ x,subs[j]? = some x:=⟨_,List.getElem?_eq_getElem hk⟩
      obtain ⟨hx1,hx2⟩:=hS x (List.mem_of_getElem? hx);have hlen:=subsB_short 10 subs j hS;have ht:wordB id++(subs.take (j+1)).flatMap (subB 10)=((wordB id++(subs.take j).flatMap (subB 10))++dataB x.1):=by rw [List.take_add_one,hx];simp [subB]
      refine en_factK (p:=∃ g o,a=some ⟨g,o,none⟩) (fun w h=>by obtain ⟨g,o,h1,_⟩:=sub_range6 (hX w h.hp.low) hx;exact ⟨g,o,h1⟩) ?_;rintro ⟨gs,os,rfl⟩;have HR:∀ w,Below wb.heap.size wb w→w.rangeAt gs (os+j * 2) [.string x.1,.int .u8 (x.2:Int)]:=fun w h1=>by
        obtain ⟨g',o',h3,h4⟩:=sub_range6 (hX w h1) hx;injection h3 with h3
        injection h3 with h3 h5
        subst h3 h5;exact h4
      refine en ⟨⟨[⟨gs,os+j * 2,[.string x.1,.int .u8 (x.2:Int)]⟩],[(adT (.string (bB (wordB id++(subs.take j).flatMap (subB 10)))) (.string (bB (dataB x.1))) 9,.string (bB ((wordB id++(subs.take j).flatMap (subB 10))++(dataB x.1))))]⟩,[(.bool (decide ((((j:Int)):Int) < (subs.length:Int))),.bool true),(.int .i64 (IntKind.i64.wrap ((j:Int)+1)),.int .i64 ((j+1:Nat):Int))],[⟨some ⟨gs,os,none⟩,subs.length,c,.i64,j,2,⟨gs,os+j * 2,none⟩⟩],[⟨135,#[.string x.1],.string (bB (dataB x.1)),[],[]⟩],fun _ _ h=>⟨⟨HR _ h.hp.low,trivial⟩,⟨ad_run (by simp only [List.length_append,dataB_len,wordB_len,List.length_cons,List.length_nil];omega) 9,trivial⟩⟩,⟨dcT (by omega),addI (by omega),trivial⟩,⟨⟨gs,os,j,rfl,rfl,hk,rfl⟩,trivial⟩,⟨fun _ w h _=>ref04_data x.1 (hx1) w h.hp.env,trivial⟩⟩ [.c,.c,.b 0 22,.c,.f 0,.c,.c,.b 0 22,.c,.i 0,.c,.l 0 0,.k 0,.r 0,.c,.c,.b 0 0,.c,.c,.f 1,.c] ?_;replace HJ:=HJ ⟨j+1,by omega⟩;simp only [ht] at HJ;exact en_stopI (fun a w F HK=>HJ a w (by show subs.length - (j+1) < subs.length - j;omega) F HK)
    refine en (EF [(.bool (decide ((((j:Int)):Int) < (subs.length:Int))),.bool false)] ⟨dcF (by omega),trivial⟩) [.c,.c,.b 0 22,.c,.f 0,.c,.c] ?_;have he:z=(wordB id++(subs.take j).flatMap (subB 10)):=by rw [← hz];rw [List.take_of_length_le (by omega)];unfold restB otherB;simp [hi,e0_bl]
    subst he;exact en_rets () [] [] []
  have h10:=h;clear h;have hi:=hids (by omega) (by omega);have hs:=zs h8 h10;have hc:=z9 h9;have hy:=(z3 h3).2.2.2.2;subst hs hc hy;refine en1 (EK [(.bool ((((ty:Int)):Int) == 1),.bool false),(.bool ((((ty:Int)):Int) == 2),.bool false),(.bool ((((ty:Int)):Int) == 3),.bool false),(.bool ((((ty:Int)):Int) == 8),.bool false),(.bool ((((ty:Int)):Int) == 10),.bool false),(.bool ((((ty:Int)):Int) == 9),.bool false),(.bool ((((ty:Int)):Int) == 12),.bool false),(.bool ((((ty:Int)):Int) == 13),.bool false),(.bool ((((ty:Int)):Int) == 14),.bool false)] ⟨eqI' (by omega),eqI' (by omega),eqI' (by omega),eqI' (by omega),eqI' (by omega),eqI' (by omega),eqI' (by omega),eqI' (by omega),eqI' (by omega),trivial⟩ [⟨136,#[.int .u16 (id:Int)],.string (bB (wordB id)),[],[]⟩] ⟨fun _ w h _=>ref04_word id (by omega) w h.hp.env,trivial⟩) (.x::eC 3 (.b 0 0::.f 0::.c::.f 1::.c::.f 2::.c::.f 3::.c::.f 4::.c::.f 5::.c::.f 6::.c::.f 7::.c::.f 8::.c::.c::.b 0 4::.k 0::eC 3 [])) fun Y=>?_
  have he:z=(wordB id):=by rw [← hz];unfold restB otherB;simp [hi,h1,h2,h3,e0_bl]
  subst he;exact en_rets () [] [] []
theorem ref04_Rest (p:Pk) (a:Option Addr) (c:Nat) (w:World) (hE:Env w) (hp:PkOk p) (ha:CellsA w a (subCells p.subs)) (h0:0≤restP p):Calls Tryz.prog 106 #[.agg (pkV p a c)] w fun e w'=>e=.returned (.string (bB (restB p)))∧Below w.heap.size w w' :=
  rdc_of hE (rest04 hp (fun _ h=>ha.below h) h0)
end Go.Proofs.YtehpihmgjbmoaaaGreatDoor
