import Derived.Test.YtehpihmgjbmoaaaGreatDoorJoinB
import Derived.Test.YtehpihmgjbmoaaaGreatDoorJoinI
import Derived.Test.YtehpihmgjbmoaaaGreatDoorJoinC
namespace Go.Proofs.YtehpihmgjbmoaaaGreatDoor
open Go.RowKit
def pkV (p:Pk) (a:Option Addr) (c:Nat):Array Value :=
  #[.int .u8 (p.ty:Int),.bool p.dup,.int .u8 (p.qos:Int),.bool p.ret,.int .u16 (p.id:Int),.string p.topic,.string p.payload,.int .u8 (p.level:Int),.bool p.clean,.int .u16 (p.keep:Int),.string p.client,.bool p.hasWill,
    .string p.wtopic,.string p.wpayload,.int .u8 (p.wqos:Int),.bool p.wret,.bool p.hasUser,.bool p.hasPass,.string p.user,.string p.pass,.bool p.present,.int .u8 (p.code:Int),.slice a p.subs.length c,.string p.codes]
theorem infoPk:(Tryz.prog.info? 33).map (·.size)=some 24:=by kernel_rfl
theorem infoPkR:(Tryz.prog.info? 33).map (fun i=>(i.zero,i.size,i.bytes))=some (some (.agg (pkV Pk.zero none 0)),24,200):=by kernel_rfl
theorem pk_at (p:Pk) (a:Option Addr) (c:Nat):(pkV p a c)[0]? = some (Value.int .u8 (p.ty:Int))∧(pkV p a c)[1]? = some (Value.bool p.dup)∧(pkV p a c)[2]? = some (Value.int .u8 (p.qos:Int))∧(pkV p a c)[3]? = some (Value.bool p.ret)∧(pkV p a c)[4]? = some (Value.int .u16 (p.id:Int))∧(pkV p a c)[5]? = some (Value.string p.topic)∧(pkV p a c)[6]? = some (Value.string p.payload)∧(pkV p a c)[7]? = some (Value.int .u8 (p.level:Int))∧(pkV p a c)[8]? = some (Value.bool p.clean)∧(pkV p a c)[9]? = some (Value.int .u16 (p.keep:Int))∧(pkV p a c)[10]? = some (Value.string p.client)∧(pkV p a c)[11]? = some (Value.bool p.hasWill)∧(pkV p a c)[12]? = some (Value.string p.wtopic)∧(pkV p a c)[13]? = some (Value.string p.wpayload)∧(pkV p a c)[14]? = some (Value.int .u8 (p.wqos:Int))∧(pkV p a c)[15]? = some (Value.bool p.wret)∧(pkV p a c)[16]? = some (Value.bool p.hasUser)∧(pkV p a c)[17]? = some (Value.bool p.hasPass)∧(pkV p a c)[18]? = some (Value.string p.user)∧(pkV p a c)[19]? = some (Value.string p.pass)∧(pkV p a c)[20]? = some (Value.bool p.present)∧(pkV p a c)[21]? = some (Value.int .u8 (p.code:Int))∧(pkV p a c)[22]? = some (Value.slice a p.subs.length c)∧(pkV p a c)[23]? = some (Value.string p.codes) :=
  ⟨rfl,rfl,rfl,rfl,rfl,rfl,rfl,rfl,rfl,rfl,rfl,rfl,rfl,rfl,rfl,rfl,rfl,rfl,rfl,rfl,rfl,rfl,rfl,rfl⟩
theorem pk_size (p:Pk) (a:Option Addr) (c:Nat):(Tryz.prog.info? 33).map (·.size)=some (pkV p a c).size:=infoPk
theorem bcell {W w1:World} (hb:Below W.heap.size W w1):∀ b o,b < W.heap.size→w1.cell? ⟨b,o,none⟩=W.cell? ⟨b,o,none⟩:=fun b o h=>hb.cell (p:=⟨b,o,none⟩) h
theorem packet_id (p:Pk) (a:Option Addr) (c:Nat) (w:World):Calls Tryz.prog 120 #[.agg (pkV p a c)] w fun e w'=>e=.returned (.int .i64 (idN p))∧Below w.heap.size w w':=by
  unfold pkV;by_cases h:p.id=0
  · have k:((p.id:Int) == 0)=true:=by rw [h];rfl
    have HI:=Lib.hid (show idN p=-1 by unfold idN;rw [if_pos h]);clear h;go_enter Tryz.func120,Tryz.ntmps120
    go_wp2_with fail
    go_ret
    exact ⟨by rw [HI.out];rfl,by go_grown⟩
  · have k:((p.id:Int) == 0)=false:=by rw [beq_eq_false_iff_ne];omega
    have HI:=Lib.hid (show idN p=2 by unfold idN;rw [if_neg h]);clear h;go_enter Tryz.func120,Tryz.ntmps120
    go_wp2_with fail
    go_ret
    exact ⟨by rw [HI.out];rfl,by go_grown⟩
theorem packet_publish (p:Pk) (a:Option Addr) (c:Nat) (w:World) (hE:Env w) (hp:PkOk p):Calls Tryz.prog 119 #[.agg (pkV p a c)] w fun e w'=>e=.returned (.int .i64 (publishN p))∧Below w.heap.size w w':=by
  have h1:=hp.topic;have h2:=hp.payload;have HN:=Lib.hid (fun w1 (hb:Below w.heap.size w w1)=>packet_name p.topic w1 (hE.below hb) (by omega));have FIN:=Lib.hid (show ∀ (n:Int) (w':World),publishN p=n→Below w.heap.size w w'→Ending.returned (.int .i64 n)=.returned (.int .i64 (publishN p))∧Below w.heap.size w w' from by rintro n w' rfl h;exact ⟨rfl,h⟩);clear hp hE;unfold pkV;cases hn:nameL (bl p.topic) <;> rw [hn] at HN <;> cases hd:p.dup
  all_goals
    have HNN:=Lib.hid (And.intro hn hd);clear hn hd;go_enter Tryz.func119,Tryz.ntmps119
    go_wp2_with (go_at_call 145;refine Calls.mono (HN.out _ (by go_grown)) ?_;rintro e w1 ⟨rfl,hb1⟩;have hb:Below w.heap.size w w1:=Below.then (by go_grown) hb1;have hc1:=bcell hb1)
  all_goals go_ret
  all_goals (refine FIN.out _ _ ?_ hb;obtain ⟨k1,k2⟩:=HNN.out;unfold publishN;rw [k1,k2];clear FIN HN HNN;(repeat' split) <;> first | rfl | omega | (simp_all;done) | (simp_all;omega))
end Go.Proofs.YtehpihmgjbmoaaaGreatDoor
namespace Go.Proofs.YtehpihmgjbmoaaaGreatDoor
open Go.RowKit
theorem all_take {α:Type} (p:α→Bool) (L:List α) (k:Nat) (x:α) (hx:L[k]? = some x):(L.take (k+1)).all p=((L.take k).all p && p x):=by
  rw [List.take_add_one,hx,List.all_append];simp
theorem all_at {α:Type} {p:α→Bool} {L:List α} {k:Nat} {x:α} (hx:L[k]? = some x) (hp:p x=false):L.all p=false:=by
  rw [List.all_eq_false];exact ⟨x,List.mem_of_getElem? hx,by simp [hp]⟩
set_option maxRecDepth 100000 in
theorem packet_codes (p:Pk) (a:Option Addr) (c:Nat) (w:World) (hp:PkOk p):Calls Tryz.prog 122 #[.agg (pkV p a c)] w fun e w'=>e=.returned (.int .i64 (codesN p))∧Below w.heap.size w w':=by
  have h1:=hp.codes;have HI:=Lib.hid (fun w1=>packet_id p a c w1);have FIN:=Lib.hid (show ∀ (n:Int) (w':World),codesN p=n→Below w.heap.size w w'→Ending.returned (.int .i64 n)=.returned (.int .i64 (codesN p))∧Below w.heap.size w w' from by rintro n w' rfl h;exact ⟨rfl,h⟩);clear hp;by_cases hid:p.id=0
  · rw [show idN p=-1 by unfold idN;rw [if_pos hid]] at HI
    have HC:=Lib.hid (show codesN p=-1 by unfold codesN;rw [if_pos (Or.inl hid)]);clear hid;obtain ⟨k0,k1,k2,k3,k4,k5,k6,k7,k8,k9,k10,k11,k12,k13,k14,k15,k16,k17,k18,k19,k20,k21,k22,k23⟩:=pk_at p a c;go_enter Tryz.func122,Tryz.ntmps122
    go_wp2_with (first
            | (go_at_call 120;refine Calls.mono (HI.out _) ?_;rintro e w1 ⟨rfl,hb1⟩;have hb:Below w.heap.size w w1:=Below.then (by go_grown) hb1)
            | (with_reducible refine wpList_load_row (o:=⟨some 6,_,_,_,_,_⟩) rfl 33 (.tmp 1) rfl w.heap.size rfl 33 (pkV p a c) (0,0) _ (heap_alloc_new w _) Tryz.underlying33 rfl (pk_size p a c) ?_))
    go_ret
    exact FIN.out _ _ HC.out hb
  · rw [show idN p=2 by unfold idN;rw [if_neg hid]] at HI
    cases hemp:(bl p.codes).isEmpty with
    | true =>
      have he:p.codes.toList.isEmpty=true:=by rw [empty_toList];exact hemp
      have HC:=Lib.hid (show codesN p=-1 by unfold codesN;rw [if_pos (Or.inr hemp)]);clear hid hemp;obtain ⟨k0,k1,k2,k3,k4,k5,k6,k7,k8,k9,k10,k11,k12,k13,k14,k15,k16,k17,k18,k19,k20,k21,k22,k23⟩:=pk_at p a c;go_enter Tryz.func122,Tryz.ntmps122
      go_wp2_with (first
            | (go_at_call 120;refine Calls.mono (HI.out _) ?_;rintro e w1 ⟨rfl,hb1⟩;have hb:Below w.heap.size w w1:=Below.then (by go_grown) hb1;have hc1:=bcell hb1)
            | (with_reducible refine wpList_load_row (o:=⟨some 6,_,_,_,_,_⟩) rfl 33 (.tmp 1) rfl w.heap.size rfl 33 (pkV p a c) (0,0) _ (heap_alloc_new w _) Tryz.underlying33 rfl (pk_size p a c) ?_))
      go_ret
      exact FIN.out _ _ HC.out hb
    | false =>
      have he:p.codes.toList.isEmpty=false:=by rw [empty_toList];exact hemp
      have HC:=Lib.hid (show codesN p=if (bl p.codes).all codeOk=true then 2+(p.codes.size:Int) else -1 by unfold codesN;rw [if_neg (by rintro (h | h);exact hid h;rw [hemp] at h;cases h)]);clear hid hemp;obtain ⟨k0,k1,k2,k3,k4,k5,k6,k7,k8,k9,k10,k11,k12,k13,k14,k15,k16,k17,k18,k19,k20,k21,k22,k23⟩:=pk_at p a c;go_enter Tryz.func122,Tryz.ntmps122
      go_wp2_with (first
            | (go_at_call 120;refine Calls.mono (HI.out _) ?_;rintro e w1 ⟨rfl,hb1⟩;have hb:Below w.heap.size w w1:=Below.then (by go_grown) hb1;have hc1:=bcell hb1)
            | (with_reducible refine wpList_load_row (o:=⟨some 6,_,_,_,_,_⟩) rfl 33 (.tmp 1) rfl w.heap.size rfl 33 (pkV p a c) (0,0) _ (heap_alloc_new w _) Tryz.underlying33 rfl (pk_size p a c) ?_))
      go_loopw [18] (fun i wr=>∃ k:Nat,k≤p.codes.size∧i=.int .i64 k∧Hid (((bl p.codes).take k).all codeOk=true)∧w1=wr) (fun i _=>p.codes.size - (intOf i).toNat)
      case atStart=>exact ⟨0,by omega,rfl,rfl,rfl⟩
      case round =>
        obtain ⟨k,hk,rfl,HP,rfl⟩:=hrel;by_cases hlt:k < p.codes.size
        · have hx:=get_bl p.codes k hlt
          have hst:=all_take codeOk (bl p.codes) k _ hx;rw [HP.out,Bool.true_and] at hst;by_cases h2:((p.codes[k]'hlt).toNat:Int)≤2
          · have h2':¬ (2:Int) < ((p.codes[k]'hlt).toNat:Int):=by omega
            have HS:=Lib.hid (show ((bl p.codes).take (k+1)).all codeOk=true by rw [hst];unfold codeOk;simp;omega);clear hx hst;go_wp2_with fail
            go_roundw
            case rel=>exact ⟨k+1,by omega,by first | rfl | go_num,HS.out,by first | rfl | trivial⟩
            case measure=>simp [intOf];omega
          · have h2':(2:Int) < ((p.codes[k]'hlt).toNat:Int):=by omega
            by_cases h8:((p.codes[k]'hlt).toNat:Int)=128
            · have h8':(((p.codes[k]'hlt).toNat:Int) != 128)=false:=by rw [h8];rfl
              have HS:=Lib.hid (show ((bl p.codes).take (k+1)).all codeOk=true by rw [hst];unfold codeOk;simp;omega);clear hx hst h8;go_wp2_with fail
              go_roundw
              case rel=>exact ⟨k+1,by omega,by first | rfl | go_num,HS.out,by first | rfl | trivial⟩
              case measure=>simp [intOf];omega
            · have h8':(((p.codes[k]'hlt).toNat:Int) != 128)=true:=by rw [bne_iff_ne];exact h8
              have HS:=Lib.hid (show (bl p.codes).all codeOk=false from all_at hx (by unfold codeOk;simp;omega));clear hx hst h8;go_wp2_with fail
              go_ret
              exact FIN.out _ _ (by rw [HC.out,HS.out];rfl) hb
        · have:k=p.codes.size:=by omega
          subst this;have HS:=Lib.hid (show (bl p.codes).all codeOk=true by have:=HP.out;rwa [← bl_len,List.take_length] at this);go_wp2_with fail
          go_ret
          exact FIN.out _ _ (by rw [HC.out,HS.out];rfl) hb
theorem subsLen_snoc (m:Nat) (S:List Sb) (k:Nat) (x:Sb) (hx:S[k]? = some x):subsLen m (S.take (k+1))=subsLen m (S.take k)+(2+x.1.size+m):=by
  unfold subsLen;rw [List.take_add_one,hx,List.map_append,List.sum_append];simp
theorem subsLen_le (m:Nat) (hm:m≤1) (S:List Sb) (hS:∀ x ∈ S,x.1.size≤300000000):subsLen m S≤S.length * 300000003:=by
  unfold subsLen;induction S with
  | nil=>simp
  | cons x r ih =>
    have h1:=hS x (by simp);have h2:=ih (fun y hy=>hS y (by simp [hy]));rw [List.map_cons,List.sum_cons,List.length_cons,Nat.succ_mul];omega
set_option maxRecDepth 100000 in
set_option maxHeartbeats 1000000 in
theorem packet_subs (p:Pk) (a:Option Addr) (c:Nat) (w:World) (hE:Env w) (hp:PkOk p) (ha:CellsA w a (subCells p.subs)):Calls Tryz.prog 121 #[.agg (pkV p a c)] w fun e w'=>e=.returned (.int .i64 (subsN p))∧Below w.heap.size w w':=by
  have h1:=hp.few;have HEA:=Lib.hid hp.each;have HI:=Lib.hid (fun w1=>packet_id p a c w1);have FIN:=Lib.hid (show ∀ (n:Int) (w':World),subsN p=n→Below w.heap.size w w'→Ending.returned (.int .i64 n)=.returned (.int .i64 (subsN p))∧Below w.heap.size w w' from by rintro n w' rfl h;exact ⟨rfl,h⟩);have hty:=hp.ty;clear hp;have hmm:(((p.ty:Int) == 10)=true∧mostN p=0∧moreN p=0)∨(((p.ty:Int) == 10)=false∧mostN p=2∧moreN p=1):=by
    by_cases h:p.ty=10
    · exact Or.inl ⟨by rw [h];rfl,by unfold mostN;rw [if_pos h],by unfold moreN;rw [if_pos h]⟩
    · exact Or.inr ⟨by rw [beq_eq_false_iff_ne];omega,by unfold mostN;rw [if_neg h],by unfold moreN;rw [if_neg h]⟩
  have hmost:∃ most more:Nat,mostN p=most∧moreN p=more∧more≤1∧((((p.ty:Int) == 10)=true∧most=0∧more=0)∨(((p.ty:Int) == 10)=false∧most=2∧more=1)):=by
    rcases hmm with ⟨h1,h2,h3⟩ | ⟨h1,h2,h3⟩
    · exact ⟨0,0,h2,h3,by omega,Or.inl ⟨h1,rfl,rfl⟩⟩
    · exact ⟨2,1,h2,h3,by omega,Or.inr ⟨h1,rfl,rfl⟩⟩
  clear hmm;obtain ⟨most,more,hmo,hme,hme1,hty⟩:=hmost;by_cases hid:p.id=0
  · rw [show idN p=-1 by unfold idN;rw [if_pos hid]] at HI
    have HC:=Lib.hid (show subsN p=-1 by unfold subsN;rw [if_pos (Or.inl hid)]);clear hid hmo hme;obtain ⟨k0,k1,k2,k3,k4,k5,k6,k7,k8,k9,k10,k11,k12,k13,k14,k15,k16,k17,k18,k19,k20,k21,k22,k23⟩:=pk_at p a c;rcases hty with ⟨ht,rfl,rfl⟩ | ⟨ht,rfl,rfl⟩
    all_goals
      go_enter Tryz.func121,Tryz.ntmps121
      go_wp2_with (first
            | (go_at_call 120;refine Calls.mono (HI.out _) ?_;rintro e w1 ⟨rfl,hb1⟩;have hb:Below w.heap.size w w1:=Below.then (by go_grown) hb1;have hc1:=bcell hb1)
            | (with_reducible refine wpList_load_row (o:=⟨some 8,_,_,_,_,_⟩) rfl 33 (.tmp 1) rfl w.heap.size rfl 33 (pkV p a c) (0,0) _ (heap_alloc_new w _) Tryz.underlying33 rfl (pk_size p a c) ?_))
      go_ret
      exact FIN.out _ _ HC.out hb
  · rw [show idN p=2 by unfold idN;rw [if_neg hid]] at HI
    by_cases hemp:p.subs.length=0
    · have HC:=Lib.hid (show subsN p=-1 by unfold subsN;rw [if_pos (Or.inr (List.eq_nil_of_length_eq_zero hemp))])
      have he:((p.subs.length:Int) == 0)=true:=by rw [hemp];rfl
      clear hid hemp hmo hme;obtain ⟨k0,k1,k2,k3,k4,k5,k6,k7,k8,k9,k10,k11,k12,k13,k14,k15,k16,k17,k18,k19,k20,k21,k22,k23⟩:=pk_at p a c;rcases hty with ⟨ht,rfl,rfl⟩ | ⟨ht,rfl,rfl⟩
      all_goals
        go_enter Tryz.func121,Tryz.ntmps121
        go_wp2_with (first
            | (go_at_call 120;refine Calls.mono (HI.out _) ?_;rintro e w1 ⟨rfl,hb1⟩;have hb:Below w.heap.size w w1:=Below.then (by go_grown) hb1;have hc1:=bcell hb1)
            | (with_reducible refine wpList_load_row (o:=⟨some 8,_,_,_,_,_⟩) rfl 33 (.tmp 1) rfl w.heap.size rfl 33 (pkV p a c) (0,0) _ (heap_alloc_new w _) Tryz.underlying33 rfl (pk_size p a c) ?_))
        go_ret
        exact FIN.out _ _ HC.out hb
    · have he:((p.subs.length:Int) == 0)=false:=by rw [beq_eq_false_iff_ne];omega
      have HC:=Lib.hid (show subsN p=if p.subs.all (subOk most)=true then 2+(subsLen more p.subs:Int) else -1 by
        unfold subsN;rw [if_neg (by rintro (h | h);exact hid h;rw [h] at hemp;exact hemp rfl),hmo,hme])
      clear hid hemp hmo hme;generalize hS:p.subs=S at *;obtain ⟨k0,k1,k2,k3,k4,k5,k6,k7,k8,k9,k10,k11,k12,k13,k14,k15,k16,k17,k18,k19,k20,k21,k22,k23⟩:=pk_at p a c;have HSS:=Lib.hid hS;rw [hS] at *;clear hS;rcases hty with ⟨ht,hmo,hme⟩ | ⟨ht,hmo,hme⟩
      all_goals
        have HM:=Lib.hid (And.intro hmo hme);have hmi:(most:Int)=(most:Int):=rfl;subst hmo hme;clear hmi;go_enter Tryz.func121,Tryz.ntmps121
        go_wp2_with (first
            | (go_at_call 120;refine Calls.mono (HI.out _) ?_;rintro e w1 ⟨rfl,hb1⟩;have hb:Below w.heap.size w w1:=Below.then (by go_grown) hb1;have hc1:=bcell hb1)
            | (with_reducible refine wpList_load_row (o:=⟨some 8,_,_,_,_,_⟩) rfl 33 (.tmp 1) rfl w.heap.size rfl 33 (pkV p a c) (0,0) _ (heap_alloc_new w _) Tryz.underlying33 rfl (pk_size p a c) ?_))
      · go_loopw [3,24] (fun n i wr=>∃ k:Nat,k≤S.length∧i=.int .i64 k∧n=.int .i64 (2+(subsLen 0 (S.take k):Int))∧Hid ((S.take k).all (subOk 0)=true)∧Below w.heap.size w wr) (fun _ i _=>S.length - (intOf i).toNat)
        case atStart=>exact ⟨0,by omega,rfl,rfl,rfl,hb⟩
        case round =>
          clear hc1 hb1 hb;obtain ⟨k,hk,rfl,rfl,HP,hbr⟩:=hrel;by_cases hlt:k < S.length
          · obtain ⟨x,hx⟩:∃ x,S[k]? = some x:=⟨_,List.getElem?_eq_getElem hlt⟩
            obtain ⟨bb,o,rfl,c1,c2⟩:=(ha.below hbr).sub hx;have hm:=List.mem_of_getElem? hx;have hxs:=HEA.out x hm;have hst:=all_take (subOk 0) S k x hx;rw [HP.out,Bool.true_and] at hst;have hsl:=subsLen_snoc 0 S k x hx;have hle:=subsLen_le 0 (by omega) (S.take k) (fun y hy=>(HEA.out y (List.mem_of_mem_take hy)).1);have hlk:(S.take k).length≤100000000:=by rw [List.length_take];omega
            have hle2:subsLen 0 (S.take k)≤30000000300000000:=by
              have:=Nat.mul_le_mul_right 300000003 hlk;omega
            clear hle hlk;generalize subsLen 0 (S.take k)=s0 at *;have hF:=packet_filter x.1;obtain ⟨y,z⟩:=x;dsimp only at *
            have hzn:=hxs.2;have hyn:=hxs.1;have HF:=Lib.hid (fun (w:World) hE=>hF w hE (by omega));have HSL:=Lib.hid hsl;cases hf:filterL (bl y) with
            | false =>
              rw [hf] at HF;have HS:=Lib.hid (show S.all (subOk 0)=false from all_at hx (by unfold subOk;rw [show fB (y,z)=bl y from rfl,hf];rfl));clear hf hst hx hm hF hsl;go_wp2_with (go_at_call 146;refine Calls.mono (HF.out _ ((hE.below hbr).below (by go_grown))) ?_;rintro e w3 ⟨rfl,hb3⟩;have hb4:Below w.heap.size w w3:=Below.then hbr (Below.then (by go_grown) hb3))
              go_ret
              exact FIN.out _ _ (by rw [HC.out,HS.out];rfl) hb4
            | true =>
              rw [hf] at HF;by_cases hz:z≤0
              · have hz1:¬ (0:Int) < (z:Int):=by omega
                have hz2:¬ 0 < z:=by omega
                have HS:=Lib.hid (hst.trans (by unfold subOk;rw [show fB (y,z)=bl y from rfl,hf,decide_eq_true hz];rfl:_=true));clear hf hst hx hm hF hsl;go_wp2_with (go_at_call 146;refine Calls.mono (HF.out _ ((hE.below hbr).below (by go_grown))) ?_;rintro e w3 ⟨rfl,hb3⟩;have hb4:Below w.heap.size w w3:=Below.then hbr (Below.then (by go_grown) hb3);have hc3:=bcell hb3)
                go_roundw
                case rel=>exact ⟨k+1,by omega,by first | rfl | go_num,by rw [HSL.out];first | go_num | (congr 1;omega) | (congr 1;push_cast;omega),HS.out,hb4⟩
                case measure=>simp [intOf];omega
              · have hz1:(0:Int) < (z:Int):=by omega
                have hz2:0 < z:=by omega
                have HS:=Lib.hid (show S.all (subOk 0)=false from all_at hx (by unfold subOk;rw [decide_eq_false hz,Bool.and_false]));clear hf hst hx hm hF hsl;go_wp2_with (go_at_call 146;refine Calls.mono (HF.out _ ((hE.below hbr).below (by go_grown))) ?_;rintro e w3 ⟨rfl,hb3⟩;have hb4:Below w.heap.size w w3:=Below.then hbr (Below.then (by go_grown) hb3);have hc3:=bcell hb3)
                go_ret
                exact FIN.out _ _ (by rw [HC.out,HS.out];rfl) hb4
          · have:k=S.length:=by omega
            subst this;have HS:=HP.out;rw [List.take_length] at HS ⊢;replace HS:=Lib.hid HS;go_wp2_with fail
            go_ret
            exact FIN.out _ _ (by rw [HC.out,HS.out];rfl) hbr
      · go_loopw [3,24] (fun n i wr=>∃ k:Nat,k≤S.length∧i=.int .i64 k∧n=.int .i64 (2+(subsLen 1 (S.take k):Int))∧Hid ((S.take k).all (subOk 2)=true)∧Below w.heap.size w wr) (fun _ i _=>S.length - (intOf i).toNat)
        case atStart=>exact ⟨0,by omega,rfl,rfl,rfl,hb⟩
        case round =>
          clear hc1 hb1 hb;obtain ⟨k,hk,rfl,rfl,HP,hbr⟩:=hrel;by_cases hlt:k < S.length
          · obtain ⟨x,hx⟩:∃ x,S[k]? = some x:=⟨_,List.getElem?_eq_getElem hlt⟩
            obtain ⟨bb,o,rfl,c1,c2⟩:=(ha.below hbr).sub hx;have hm:=List.mem_of_getElem? hx;have hxs:=HEA.out x hm;have hst:=all_take (subOk 2) S k x hx;rw [HP.out,Bool.true_and] at hst;have hsl:=subsLen_snoc 1 S k x hx;have hle:=subsLen_le 1 (by omega) (S.take k) (fun y hy=>(HEA.out y (List.mem_of_mem_take hy)).1);have hlk:(S.take k).length≤100000000:=by rw [List.length_take];omega
            have hle2:subsLen 1 (S.take k)≤30000000300000000:=by
              have:=Nat.mul_le_mul_right 300000003 hlk;omega
            clear hle hlk;generalize subsLen 1 (S.take k)=s0 at *;have hF:=packet_filter x.1;obtain ⟨y,z⟩:=x;dsimp only at *
            have hzn:=hxs.2;have hyn:=hxs.1;have HF:=Lib.hid (fun (w:World) hE=>hF w hE (by omega));have HSL:=Lib.hid hsl;cases hf:filterL (bl y) with
            | false =>
              rw [hf] at HF;have HS:=Lib.hid (show S.all (subOk 2)=false from all_at hx (by unfold subOk;rw [show fB (y,z)=bl y from rfl,hf];rfl));clear hf hst hx hm hF hsl;go_wp2_with (go_at_call 146;refine Calls.mono (HF.out _ ((hE.below hbr).below (by go_grown))) ?_;rintro e w3 ⟨rfl,hb3⟩;have hb4:Below w.heap.size w w3:=Below.then hbr (Below.then (by go_grown) hb3))
              go_ret
              exact FIN.out _ _ (by rw [HC.out,HS.out];rfl) hb4
            | true =>
              rw [hf] at HF;by_cases hz:z≤2
              · have hz1:¬ (2:Int) < (z:Int):=by omega
                have hz2:¬ 2 < z:=by omega
                have HS:=Lib.hid (hst.trans (by unfold subOk;rw [show fB (y,z)=bl y from rfl,hf,decide_eq_true hz];rfl:_=true));clear hf hst hx hm hF hsl;go_wp2_with (go_at_call 146;refine Calls.mono (HF.out _ ((hE.below hbr).below (by go_grown))) ?_;rintro e w3 ⟨rfl,hb3⟩;have hb4:Below w.heap.size w w3:=Below.then hbr (Below.then (by go_grown) hb3);have hc3:=bcell hb3)
                go_roundw
                case rel=>exact ⟨k+1,by omega,by first | rfl | go_num,by rw [HSL.out];first | go_num | (congr 1;omega) | (congr 1;push_cast;omega),HS.out,hb4⟩
                case measure=>simp [intOf];omega
              · have hz1:(2:Int) < (z:Int):=by omega
                have hz2:2 < z:=by omega
                have HS:=Lib.hid (show S.all (subOk 2)=false from all_at hx (by unfold subOk;rw [decide_eq_false hz,Bool.and_false]));clear hf hst hx hm hF hsl;go_wp2_with (go_at_call 146;refine Calls.mono (HF.out _ ((hE.below hbr).below (by go_grown))) ?_;rintro e w3 ⟨rfl,hb3⟩;have hb4:Below w.heap.size w w3:=Below.then hbr (Below.then (by go_grown) hb3);have hc3:=bcell hb3)
                go_ret
                exact FIN.out _ _ (by rw [HC.out,HS.out];rfl) hb4
          · have:k=S.length:=by omega
            subst this;have HS:=HP.out;rw [List.take_length] at HS ⊢;replace HS:=Lib.hid HS;go_wp2_with fail
            go_ret
            exact FIN.out _ _ (by rw [HC.out,HS.out];rfl) hbr
end Go.Proofs.YtehpihmgjbmoaaaGreatDoor
namespace Go.Proofs.YtehpihmgjbmoaaaGreatDoor
open Go.RowKit
theorem nil_e0 (x:ByteArray):x.toList=[]↔x=e0:=by
  rw [Lib.toList_data];exact ⟨fun h=>bl_inj h,fun h=>by rw [h];rfl⟩
theorem max3 {n:Nat} (h:n≤300000000):n≤140737488355328:=by omega
set_option maxRecDepth 100000 in
set_option maxHeartbeats 4000000 in
theorem packet_connect (p:Pk) (a:Option Addr) (c:Nat) (w:World) (hE:Env w) (hp:PkOk p):Calls Tryz.prog 118 #[.agg (pkV p a c)] w fun e w'=>e=.returned (.int .i64 (connectN p))∧Below w.heap.size w w':=by
  have s1:=hp.client;have s2:=hp.wtopic;have s3:=hp.wpayload;have s4:=hp.user;have s5:=hp.pass;have HV:=Lib.hid (fun (w1:World) hE=>text_Valid p.client w1 hE (max3 s1));have HU:=Lib.hid (fun (w1:World) hE=>text_Valid p.user w1 hE (max3 s4));have HN:=Lib.hid (fun (w1:World) hE=>packet_name p.wtopic w1 hE (by omega));rw [show p.client.data.toList=bl p.client from rfl] at HV;rw [show p.user.data.toList=bl p.user from rfl] at HU;have FIN:=Lib.hid (show ∀ (n:Int) (w':World),connectN p=n→Below w.heap.size w w'→Ending.returned (.int .i64 n)=.returned (.int .i64 (connectN p))∧Below w.heap.size w w' from by rintro n w' rfl h;exact ⟨rfl,h⟩);clear hp;obtain ⟨k0,k1,k2,k3,k4,k5,k6,k7,k8,k9,k10,k11,k12,k13,k14,k15,k16,k17,k18,k19,k20,k21,k22,k23⟩:=pk_at p a c;have eu:=empty_toList p.user;have ep:=empty_toList p.pass;have hb:Below w.heap.size w (w.alloc (.cells (pkV p a c) 33)):=(Below.refl _ _).alloc (Nat.le_refl _) _;have HBX:=Lib.hid (BoxAt.new w (pkV p a c) 33);go_enter Tryz.func118,Tryz.ntmps118
  go_wp2_with (first
    | (go_at_call 145;refine Calls.mono (HN.out _ (hE.below hb)) ?_;rintro e w1 ⟨rfl,hb1⟩;replace HBX:=Lib.hid (HBX.out.below hb1);have hX:=HBX.out.cells;replace hb:=Below.then hb hb1;clear hb1)
    | (go_at_call 144;refine Calls.mono (HV.out _ (hE.below hb)) ?_;rintro e w1 ⟨rfl,hb1⟩;replace HBX:=Lib.hid (HBX.out.below hb1);have hX:=HBX.out.cells;replace hb:=Below.then hb hb1;clear hb1)
    | (go_at_call 144;refine Calls.mono (HU.out _ (hE.below hb)) ?_;rintro e w1 ⟨rfl,hb1⟩;replace HBX:=Lib.hid (HBX.out.below hb1);have hX:=HBX.out.cells;replace hb:=Below.then hb hb1;clear hb1))
  all_goals go_ret
  all_goals
    refine FIN.out _ _ ?_ hb;have q1:=nil_e0 p.wtopic;have q2:=nil_e0 p.wpayload;clear FIN HV HU HN HBX hb hE;clear k0 k1 k2 k3 k4 k5 k6 k7 k8 k9 k10 k11 k12 k13 k14 k15 k16 k17 k18 k19 k20 k21 k22 k23;unfold connectN connectOk connectLen willOk userOk passOk willZero;simp_all <;> omega
end Go.Proofs.YtehpihmgjbmoaaaGreatDoor
namespace Go.Proofs.YtehpihmgjbmoaaaGreatDoor
open Go.RowKit
theorem infoFlat:(Tryz.prog.info? 184).map (·.size)=some 23:=by kernel_rfl
theorem fl_size (p:Pk):(Tryz.prog.info? 184).map (·.size)=some (flV p).size:=infoFlat
set_option maxRecDepth 100000 in
set_option maxHeartbeats 4000000 in
theorem packet_plain (p:Pk) (a:Option Addr) (c:Nat) (w:World):Calls Tryz.prog 147 #[.agg (pkV p a c)] w fun e w'=>e=.returned (.agg (flV p))∧Below w.heap.size w w':=by
  obtain ⟨k0,k1,k2,k3,k4,k5,k6,k7,k8,k9,k10,k11,k12,k13,k14,k15,k16,k17,k18,k19,k20,k21,k22,k23⟩:=pk_at p a c;have hone:(flV p).all (·.oneCell')=true:=by unfold flV;simp [Value.oneCell']
  have HONE:=Lib.hid hone;clear hone;go_enter Tryz.func147,Tryz.ntmps147
  go_wp2_with (first
    | ((with_reducible show wpList _ _ _ (⟨some 43,_,_,_,_,_⟩::_) _ _);refine wpList_build_to (o:=⟨some 43,_,_,_,_,_⟩) rfl 184 _ rfl (flV p) (by kernel_rfl) ?_)
    | ((with_reducible show wpList _ _ _ (⟨none,.store 184 _ _,_,_,_,_⟩::_) _ _);refine wpList_store_box rfl 184 (.tmp 2) (.tmp 43) rfl (w.heap.size+1) (flV p) rfl rfl 184 _ (BoxAt.new2 _ _ _ _) (fl_size p) rfl HONE.out ?_;intro w2 hbx hon))
  have hbw:Below w.heap.size w w2:=Below.trans (by go_grown) (hon.below (B:=w.heap.size) (by simp;omega) (fun k e=>by omega));exact bodyPost_ret (v:=.agg (flV p)) (results_cell_row rfl _ w2 (w.heap.size+1) 184 (flV p) (0,0) _ rfl hbx Tryz.underlying184 rfl (fl_size p)) rfl ⟨rfl,hbw⟩
end Go.Proofs.YtehpihmgjbmoaaaGreatDoor
