import Derived.Test.YtehpihmgjbmoaaaGreatDoorJoinA
import Derived.Test.YtehpihmgjbmoaaaGreatDoorJoinI
import Derived.Laws.EntriesVeiled
import Derived.StillTailTactics
namespace Go.Proofs.YtehpihmgjbmoaaaGreatDoor
def prime:Nat:=1099511628211
def basis:Nat:=14695981039346656037
def two64:Nat:=18446744073709551616
def hashB (h:Nat) (b:UInt8):Nat:=((h ^^^ b.toNat) * prime) % two64
def hashFrom (h:Nat) (s:Bs):Nat:=s.foldl hashB h
def hashL (s:Bs):Nat:=hashFrom basis s
theorem hashB_lt (h:Nat) (b:UInt8):hashB h b < two64:=Nat.mod_lt _ (by decide)
theorem hashFrom_lt:∀ (s:Bs) (h:Nat),h < two64→hashFrom h s < two64
  | [],_,hh=>hh
  | b::s,h,_=>hashFrom_lt s _ (hashB_lt h b)
theorem hashL_lt (s:Bs):hashL s < two64:=hashFrom_lt s _ (by decide)
theorem hashFrom_append (h:Nat) (s t:Bs):hashFrom h (s++t)=hashFrom (hashFrom h s) t:=List.foldl_append ..
theorem xor_bits (x y k:Nat):(x ^^^ y) % 2 ^ (k+1)=(x ^^^ y) % 2 ^ k+(if x / 2 ^ k % 2=y / 2 ^ k % 2 then 0 else 2 ^ k):=by
  rw [Nat.pow_succ,Nat.mod_mul];congr 1;have h1:(x ^^^ y) / 2 ^ k % 2=if x / 2 ^ k % 2=y / 2 ^ k % 2 then 0 else 1:=by
    have hb:(x ^^^ y).testBit k=(x.testBit k ^^ y.testBit k):=Nat.testBit_xor ..;rw [Nat.testBit_eq_decide_div_mod_eq,Nat.testBit_eq_decide_div_mod_eq,Nat.testBit_eq_decide_div_mod_eq] at hb;have hx:x / 2 ^ k % 2 < 2:=Nat.mod_lt _ (by decide);have hy:y / 2 ^ k % 2 < 2:=Nat.mod_lt _ (by decide);have hz:(x ^^^ y) / 2 ^ k % 2 < 2:=Nat.mod_lt _ (by decide);generalize x / 2 ^ k % 2=a at *;generalize y / 2 ^ k % 2=b at *;generalize (x ^^^ y) / 2 ^ k % 2=c at *;match a,hx,b,hy,c,hz with
    | 0,_,0,_,0,_=>rfl
    | 0,_,1,_,1,_=>rfl
    | 1,_,0,_,1,_=>rfl
    | 1,_,1,_,0,_=>rfl
    | 0,_,0,_,1,_=>simp at hb
    | 0,_,1,_,0,_=>simp at hb
    | 1,_,0,_,0,_=>simp at hb
    | 1,_,1,_,1,_=>simp at hb
  rw [h1];split <;> simp
theorem xor_low (h b:Nat) (hb:b < 256):h - h % 256+((h % 256) ^^^ b) % 256=h ^^^ b:=by
  have hl:(h % 256) ^^^ b < 256:=Nat.xor_lt_two_pow (n:=8) (Nat.mod_lt _ (by decide)) hb;rw [Nat.mod_eq_of_lt hl];have e1:(h ^^^ b) % 256=(h % 256) ^^^ b:=by
    have:=Nat.xor_mod_two_pow (a:=h) (b:=b) (n:=8);rw [show (2:Nat) ^ 8=256 from rfl] at this;rw [this,Nat.mod_eq_of_lt hb]
  have e2:(h ^^^ b) / 256=h / 256:=by
    have:=Nat.xor_div_two_pow (a:=h) (b:=b) (n:=8);rw [show (2:Nat) ^ 8=256 from rfl] at this;rw [this,Nat.div_eq_of_lt hb,Nat.xor_zero]
  have h1:=Nat.div_add_mod h 256;have h2:=Nat.div_add_mod (h ^^^ b) 256;rw [e1,e2] at h2;omega
def restL (s:Bs) (n:Nat):Nat:=hashL s % n
def fewB (n:Int):Bool:=decide (1≤n) && decide (n≤64)
def homeL (s:Bs) (n:Int):Int:=if fewB n then (restL s n.toNat:Int) else -1
def gateL (c n:Int):Int:=if fewB n && decide (1≤c) then (c - 1) % n else -1
end Go.Proofs.YtehpihmgjbmoaaaGreatDoor
namespace Go.Proofs.YtehpihmgjbmoaaaGreatDoor
open Go.RowKit
def catL (A:List ByteArray):Bs:=(A.map bl).flatten
theorem hash_round (h:Nat) (b:UInt8) (hh:h < 18446744073709551616):IntKind.u64.wrap (bits .xor .u64 (h:Int) (b.toNat:Int) * 1099511628211)=((hashB h b:Nat):Int):=by
  have hb:=b.toNat_lt;rw [u64_xor_nat h b.toNat hh (by omega),IntKind.wrap_u64];unfold hashB prime two64;rw [Int.natCast_emod,Int.natCast_mul];rfl
theorem shard_Hash (a:Option Addr) (c:Nat) (A:List ByteArray) (w:World) (hA:A.length≤9223372036854775807) (hs:∀ x ∈ A,x.size≤9223372036854775807) (ha:CellsA w a (A.map Value.string)) :
    Calls Tryz.prog 101 #[.slice a A.length c] w fun e w'=>e=.returned (.int .u64 (hashL (catL A):Nat))∧w=w':=by
  have fin:∀ (n:Nat) (w':World),hashL (catL A)=n→w=w'→Ending.returned (.int .u64 (n:Int))=.returned (.int .u64 (hashL (catL A):Nat))∧w=w':=by
    rintro n w' rfl rfl;exact ⟨rfl,rfl⟩
  have FIN:=Lib.hid fin;clear fin;have HS:=Lib.hid hs;clear hs;go_enter Tryz.func101,Tryz.ntmps101
  go_wp2_with fail
  go_loopw [3,9] (fun h i wr=>∃ k n:Nat,k≤A.length∧i=.int .i64 k∧h=.int .u64 n∧n < 18446744073709551616∧Hid (hashFrom n (catL (A.drop k))=hashL (catL A))∧w=wr) (fun _ i _=>A.length - (intOf i).toNat)
  case atStart=>exact ⟨0,basis,by omega,rfl,rfl,by decide,rfl,rfl⟩
  case round =>
    obtain ⟨k,n,hk,rfl,rfl,hn,HP,rfl⟩:=hrel;by_cases hlt:k < A.length
    · obtain ⟨x,hx⟩:∃ x,A[k]? = some x:=⟨_,List.getElem?_eq_getElem hlt⟩
      obtain ⟨b,o,rfl,hcell⟩:=ha.text hx;have hxs:=HS.out x (List.mem_of_getElem? hx);have hc:catL (A.drop k)=bl x++catL (A.drop (k+1)):=by
        obtain ⟨h2,h3⟩:=List.getElem?_eq_some_iff.1 hx;rw [List.drop_eq_getElem_cons h2,h3];simp [catL]
      have HQ:=Lib.hid (show hashFrom (hashFrom n (bl x)) (catL (A.drop (k+1)))=hashL (catL A) by rw [← hashFrom_append,← hc,HP.out]);clear hc hx;go_wp2_with fail
      go_loopw [3,6,15] (fun h _ i wr=>∃ j m:Nat,j≤x.size∧i=.int .i64 j∧h=.int .u64 m∧m < 18446744073709551616∧Hid (hashFrom m ((bl x).drop j)=hashFrom n (bl x))∧w=wr) (fun _ _ i _=>x.size - (intOf i).toNat)
      case atStart=>exact ⟨0,n,by omega,rfl,rfl,hn,rfl,rfl⟩
      case round =>
        obtain ⟨j,m,hj,rfl,rfl,hm,HM,rfl⟩:=hrel;by_cases hjt:j < x.size
        · have hd:(bl x).drop j=(x[j]'hjt)::(bl x).drop (j+1):=List.drop_eq_getElem_cons (by rw [bl_len];exact hjt)
          obtain ⟨y,hy⟩:∃ y,x[j]'hjt=y:=⟨_,rfl⟩
          rw [hy] at hd;have HN:=Lib.hid (show hashFrom (hashB m y) ((bl x).drop (j+1))=hashFrom n (bl x) by rw [← HM.out,hd];rfl);clear hd;have hr:=hash_round m y hm;have hlt2:=hashB_lt m y;unfold two64 at hlt2;have hyb:=y.toNat_lt;go_wp2_with fail
          go_roundw
          case rel=>exact ⟨j+1,hashB m y,by omega,by first | rfl | (rw [Int.natCast_add];rfl) | trivial,by first | rfl | (exact congrArg (Value.int .u64) hr) | trivial,hlt2,HN,by first | rfl | trivial⟩
          all_goals (try (simp only [intOf];omega))
        · have:j=x.size:=by omega
          subst this;have HE:=Lib.hid (show m=hashFrom n (bl x) by rw [← HM.out,List.drop_eq_nil_of_le (by rw [bl_len];exact Nat.le_refl _)];rfl);clear HM;go_wp2_with fail
          go_roundw
          case rel=>exact ⟨k+1,m,by omega,by first | rfl | (rw [Int.natCast_add];rfl) | trivial,by first | rfl | trivial,hm,by rw [HE.out];exact HQ.out,by first | rfl | trivial⟩
          all_goals (try (simp only [intOf];omega))
    · have:k=A.length:=by omega
      subst this;go_wp2_with fail
      go_ret
      exact FIN.out _ _ (by rw [← HP.out,List.drop_eq_nil_of_le (Nat.le_refl _)];rfl) rfl
end Go.Proofs.YtehpihmgjbmoaaaGreatDoor
namespace Go.Proofs.YtehpihmgjbmoaaaGreatDoor
open Go.RowKit
theorem xor_bits' (x y p z r:Nat) (hp:∃ j,p=2 ^ j) (hz:z=x ^^^ y) (hr:r=z % p) (v:Bool) (hv:(((x / p % 2:Nat):Int) != ((y / p % 2:Nat):Int))=v):z % (2 * p)=r+(if v then p else 0):=by
  obtain ⟨j,rfl⟩:=hp;subst hz hr;have h:=xor_bits x y j;rw [Nat.pow_succ,Nat.mul_comm] at h;rw [h];subst hv;by_cases e:x / 2 ^ j % 2=y / 2 ^ j % 2
  · simp [e]
  · have:((x / 2 ^ j % 2:Nat):Int)≠((y / 2 ^ j % 2:Nat):Int):=by omega
    have hb:(((x / 2 ^ j % 2:Nat):Int) != ((y / 2 ^ j % 2:Nat):Int))=true:=bne_iff_ne.2 this;rw [hb,if_neg e,if_pos rfl]
theorem ref08_Hash (s:ByteArray) (w:World) (hs:s.size≤9223372036854775807) :
    Calls Tryz.prog 91 #[.string s] w fun e w'=>e=.returned (.int .u64 (hashL (bl s):Nat))∧Below w.heap.size w w':=by
  have fin:∀ (n:Nat) (w':World),hashL (bl s)=n→Below w.heap.size w w'→Ending.returned (.int .u64 (n:Int))=.returned (.int .u64 (hashL (bl s):Nat))∧Below w.heap.size w w':=by
    rintro n w' rfl h;exact ⟨rfl,h⟩
  have FIN:=Lib.hid fin;clear fin;go_enter Tryz.func91,Tryz.ntmps91
  go_wp2_with fail
  go_loopw [3,4] (fun h i wr=>∃ k n:Nat,k≤s.size∧i=.int .i64 k∧h=.int .u64 n∧n < 18446744073709551616∧Hid (hashFrom n ((bl s).drop k)=hashL (bl s))∧Below w.heap.size w wr) (fun _ i _=>s.size - (intOf i).toNat)
  case atStart=>exact ⟨0,basis,by omega,rfl,rfl,by decide,rfl,Below.refl _ _⟩
  case round =>
    obtain ⟨k,n,hk,rfl,rfl,hn,HP,hb⟩:=hrel;by_cases hlt:k < s.size
    · have hd:(bl s).drop k=(s[k]'hlt)::(bl s).drop (k+1):=List.drop_eq_getElem_cons (by rw [bl_len];exact hlt)
      obtain ⟨y,hy⟩:∃ y,s[k]'hlt=y:=⟨_,rfl⟩
      rw [hy] at hd;have hr:=hash_round n y hn;have HQ:=Lib.hid (show hashFrom (hashB n y) ((bl s).drop (k+1))=hashL (bl s) by rw [← HP.out,hd];rfl);clear hd;have hyb:=y.toNat_lt;obtain ⟨lo,hlo⟩:∃ lo,n % 256=lo:=⟨_,rfl⟩
      have hlo2:lo < 256:=by rw [← hlo];exact Nat.mod_lt _ (by decide)
      have hlo3:lo≤n:=by rw [← hlo];exact Nat.mod_le _ _
      have hmod:((n:Int) % 256)=(lo:Int):=by omega
      have hmod2:Int.tmod (n:Int) 256=(lo:Int):=by rw [Int.tmod_eq_emod_of_nonneg (by omega)];exact hmod
      go_wp2_with fail
      obtain ⟨z,hz⟩:∃ z,z=lo ^^^ y.toNat:=⟨_,rfl⟩
      have hzl:z < 256:=by rw [hz];exact Nat.xor_lt_two_pow (n:=8) hlo2 hyb
      have hxl:=xor_low n y.toNat hyb;rw [hlo,← hz,Nat.mod_eq_of_lt hzl] at hxl;have HZ:=Lib.hid hz;have HX:=Lib.hid hxl;clear hz hxl;have hno:n - lo+255 < 18446744073709551616:=by omega
      have hsub:(n:Int) - (lo:Int)=((n - lo:Nat):Int):=by omega
      go_loopw [3,7,8] (fun h bit i wr=>∃ j p m:Nat,j≤8∧p=2 ^ j∧0 < p∧p≤256∧i=.int .i64 j∧bit=.int .u64 p∧h=.int .u64 ((n - lo:Nat)+m:Nat)∧m=z % p∧m < 256∧Below w.heap.size w wr) (fun _ _ i _=>8 - (intOf i).toNat)
      case atStart=>exact ⟨0,1,0,by omega,rfl,by omega,by omega,rfl,rfl,by simp [hsub],by omega,by omega,hb⟩
      case round =>
        obtain ⟨j,p,m,hj,hp,hp0,hp1,rfl,rfl,rfl,hm,hm2,hb⟩:=hrel;by_cases hjt:j < 8
        · have hp2:p≤128:=by
            rw [hp];exact Nat.le_trans (Nat.pow_le_pow_right (by omega) (show j≤7 by omega)) (by decide)
          obtain ⟨v,hv⟩:∃ v,(((lo / p % 2:Nat):Int) != ((y.toNat / p % 2:Nat):Int))=v:=⟨_,rfl⟩
          have HV:=Lib.hid (xor_bits' lo y.toNat p z m ⟨j,hp⟩ HZ.out hm v hv);have d1:(lo:Int).tdiv (p:Int)=((lo / p:Nat):Int):=rfl;have d2:(y.toNat:Int).tdiv (p:Int)=((y.toNat / p:Nat):Int):=rfl;have b1:lo / p < 256:=Nat.lt_of_le_of_lt (Nat.div_le_self _ _) hlo2;have b2:y.toNat / p < 256:=Nat.lt_of_le_of_lt (Nat.div_le_self _ _) hyb;obtain ⟨x1,hx1⟩:∃ x,lo / p=x:=⟨_,rfl⟩
          obtain ⟨x2,hx2⟩:∃ x,y.toNat / p=x:=⟨_,rfl⟩
          rw [hx1] at d1 b1 hv;rw [hx2] at d2 b2 hv;have t1:(x1:Int).tmod 2=((x1 % 2:Nat):Int):=rfl;have t2:(x2:Int).tmod 2=((x2 % 2:Nat):Int):=rfl;have u1:IntKind.u64.wrap (x1:Int)=x1:=by rw [IntKind.wrap_u64];omega
          have u2:IntKind.u64.wrap (x2:Int)=x2:=by rw [IntKind.wrap_u64];omega
          obtain ⟨y1,hy1⟩:∃ x,x1 % 2=x:=⟨_,rfl⟩
          obtain ⟨y2,hy2⟩:∃ x,x2 % 2=x:=⟨_,rfl⟩
          rw [hy1] at t1 hv;rw [hy2] at t2 hv;have pne:¬ (p:Int)=0:=by omega
          have HJ:=Lib.hid hp;clear hx1 hx2 hy1 hy2 hp hm;go_wp2_with fail
          go_quiet (fail)
          generalize hw2:World.drewN wr _=w9;have hb9:=Below.then hb (below_draws hw2)
          clear hw2;cases v
          · go_wp2_with fail
            go_roundw
            case rel=>exact ⟨j+1,2 * p,m,by omega,by rw [Nat.pow_succ,← HJ.out];omega,by omega,by omega,by go_num,by go_num,by first | rfl | go_num,by rw [HV.out];simp,hm2,hb9⟩
            case measure=>simp [intOf];omega
          · have hmp:m+p < 256:=by
              have h:=HV.out;rw [if_pos rfl] at h;rw [← h];exact Nat.lt_of_le_of_lt (Nat.mod_le _ _) hzl
            go_wp2_with fail
            go_roundw
            case rel=>exact ⟨j+1,2 * p,m+p,by omega,by rw [Nat.pow_succ,← HJ.out];omega,by omega,by omega,by go_num,by go_num,by first | rfl | go_num,by rw [HV.out];simp,hmp,hb9⟩
            case measure=>simp [intOf];omega
        · have:j=8:=by omega
          subst this;have hp8:p=256:=hp.trans (by decide);subst hp8;have hfin:n - lo+m=n ^^^ y.toNat:=by rw [hm,Nat.mod_eq_of_lt hzl];exact HX.out
          have hr':IntKind.u64.wrap (((n - lo+m:Nat):Int) * 1099511628211)=((hashB n y:Nat):Int):=by
            rw [← hr,hfin,u64_xor_nat n y.toNat hn (by omega)]
          have hl2:=hashB_lt n y;unfold two64 at hl2;clear hm hfin;go_wp2_with fail
          go_roundw
          case rel=>exact ⟨k+1,hashB n y,by omega,by go_num,by rw [← Int.natCast_add,hr'],hl2,HQ.out,hb⟩
          case measure=>simp [intOf];omega
    · have:k=s.size:=by omega
      subst this;go_wp2_with fail
      go_ret
      exact FIN.out _ _ (by rw [← HP.out,List.drop_eq_nil_of_le (by rw [bl_len];exact Nat.le_refl _)];rfl) hb
end Go.Proofs.YtehpihmgjbmoaaaGreatDoor
namespace Go.Proofs.YtehpihmgjbmoaaaGreatDoor
open Go.RowKit
theorem shard_few (n:Int) (w:World):Calls Tryz.prog 55 #[.int .i64 n] w fun e w'=>e=.returned (.bool (fewB n))∧w=w':=by
  unfold fewB;by_cases h1:1≤n
  · have e1:decide (1≤n)=true:=decide_eq_true h1
    go_enter Tryz.func55,Tryz.ntmps55
    go_wp2_with fail
    go_ret
    exact ⟨ret_bool (by simp [h1]),rfl⟩
  · have e1:decide (1≤n)=false:=decide_eq_false h1
    go_enter Tryz.func55,Tryz.ntmps55
    go_wp2_with fail
    go_ret
    exact ⟨ret_bool (by simp [h1]),rfl⟩
theorem ref08_Few (n:Int) (w:World):Calls Tryz.prog 85 #[.int .i64 n] w fun e w'=>e=.returned (.bool (fewB n))∧w=w':=by
  unfold fewB;by_cases h1:1≤n
  · have e1:decide (1≤n)=true:=decide_eq_true h1
    go_enter Tryz.func85,Tryz.ntmps85
    go_wp2_with fail
    go_ret
    exact ⟨ret_bool (by simp [h1]),rfl⟩
  · have e1:decide (1≤n)=false:=decide_eq_false h1
    go_enter Tryz.func85,Tryz.ntmps85
    go_wp2_with fail
    go_ret
    exact ⟨ret_bool (by simp [h1]),rfl⟩
theorem few_nat {n:Int} (h:fewB n=true):∃ m:Nat,n=m∧1≤m∧m≤64:=by
  unfold fewB at h;simp at h
  exact ⟨n.toNat,by omega,by omega,by omega⟩
theorem one_text' {w:World} {s:ByteArray}:CellsA (w.alloc (.cells #[.string s] 9)) (some ⟨w.heap.size,0,none⟩) ([s].map Value.string):=by
  intro j v hv;refine ⟨_,_,rfl,?_⟩;rw [Nat.zero_add,cell_of_row _ _ _ _ _ _ (heap_alloc_new w _)];simpa using hv
theorem catL_one (s:ByteArray):catL [s]=bl s:=by simp [catL]
theorem shard_rest (s:ByteArray) (m:Nat) (w:World) (hs:s.size≤9223372036854775807) (h1:1≤m) (h2:m≤64) :
    Calls Tryz.prog 84 #[.string s,.int .i64 m] w fun e w'=>e=.returned (.int .i64 (restL (bl s) m:Nat))∧Below w.heap.size w w':=by
  obtain ⟨i0,hi,hz0,hz1,hz2⟩:=info_parts (show (Tryz.prog.info? 9).map (fun i=>(i.zero,i.size,i.bytes))=some (some (.string ByteArray.empty),1,16) by kernel_rfl);have hb:=Below.refl w.heap.size w;have hL:=Lib.hid (shard_Hash (some ⟨w.heap.size,0,none⟩) 1 [s] (w.alloc (.cells #[.string s] 9)) (by simp) (by simpa using hs) one_text');rw [catL_one] at hL;have hlt:=hashL_lt (bl s);unfold two64 at hlt;have hR:hashL (bl s) % m=restL (bl s) m:=rfl;have hR2:restL (bl s) m < 64:=by rw [← hR];exact Nat.lt_of_lt_of_le (Nat.mod_lt _ (by omega)) h2
  generalize hashL (bl s)=H at *;generalize restL (bl s) m=R at *;have t1:(H:Int).tmod (m:Int)=(R:Int):=by rw [← hR];rfl
  have c1:¬ (m:Int)=0:=by omega
  have c2:IntKind.u64.wrap (m:Int)=m:=by rw [IntKind.wrap_u64];omega
  have c3:IntKind.i64.wrap (R:Int)=R:=by rw [IntKind.wrap_i64];omega
  go_enter Tryz.func84,Tryz.ntmps84
  go_wp2_with (first
    | (go_at_call 101;refine hL.out.mono ?_;rintro e w1 ⟨rfl,rfl⟩;replace hb:=hb.alloc (Nat.le_refl _) (.cells #[.string s] 9)))
  go_ret
  exact ⟨rfl,hb⟩
theorem shard_Home (s:ByteArray) (n:Int) (w:World) (hs:s.size≤9223372036854775807) :
    Calls Tryz.prog 63 #[.string s,.int .i64 n] w fun e w'=>e=.returned (.int .i64 (homeL (bl s) n))∧Below w.heap.size w w':=by
  unfold homeL;have hF:=Lib.hid (fun w=>shard_few n w);cases hf:fewB n
  · rw [hf] at hF
    go_enter Tryz.func63,Tryz.ntmps63
    go_wp2_with (first
      | (go_at_call 55;refine (hF.out _).mono ?_;rintro e w1 ⟨rfl,rfl⟩))
    go_ret
    exact ⟨rfl,Below.refl _ _⟩
  · rw [hf] at hF
    obtain ⟨m,rfl,h1,h2⟩:=few_nat hf;go_enter Tryz.func63,Tryz.ntmps63
    go_wp2_with (first
      | (go_at_call 55;refine (hF.out _).mono ?_;rintro e w1 ⟨rfl,rfl⟩)
      | (go_at_call 84;refine (shard_rest s m _ hs h1 h2).mono ?_;rintro e w1 ⟨rfl,hb⟩))
    go_ret
    exact ⟨rfl,hb⟩
theorem shard_Gate (c n:Int) (w:World) (hc:c < 9223372036854775808) :
    Calls Tryz.prog 34 #[.int .i64 c,.int .i64 n] w fun e w'=>e=.returned (.int .i64 (gateL c n))∧w=w':=by
  have G0:fewB n=false→gateL c n=-1:=fun h=>by simp [gateL,h]
  have G1:¬ 1≤c→gateL c n=-1:=fun h=>by simp [gateL,h]
  have G2:fewB n=true→1≤c→gateL c n=(c - 1) % n:=fun h h2=>by simp [gateL,h,h2]
  have hF:=Lib.hid (fun w=>shard_few n w);cases hf:fewB n
  · rw [hf] at hF
    go_enter Tryz.func34,Tryz.ntmps34
    go_wp2_with (first
      | (go_at_call 55;refine (hF.out _).mono ?_;rintro e w1 ⟨rfl,rfl⟩))
    go_ret
    exact ⟨ret_int (G0 hf).symm,rfl⟩
  · rw [hf] at hF
    obtain ⟨m,rfl,h1,h2⟩:=few_nat hf;by_cases hc1:1≤c
    · have c1:¬ (m:Int)=0:=by omega
      have c2:¬ c < 1:=by omega
      have c3:IntKind.i64.wrap (c - 1)=c - 1:=by rw [IntKind.wrap_i64];omega
      have t1:(c - 1).tmod (m:Int)=(c - 1) % (m:Int):=Int.tmod_eq_emod_of_nonneg (by omega);go_enter Tryz.func34,Tryz.ntmps34
      go_wp2_with (first
        | (go_at_call 55;refine (hF.out _).mono ?_;rintro e w1 ⟨rfl,rfl⟩))
      go_ret
      exact ⟨ret_int (G2 hf hc1).symm,rfl⟩
    · have c2:c < 1:=by omega
      go_enter Tryz.func34,Tryz.ntmps34
      go_wp2_with (first
        | (go_at_call 55;refine (hF.out _).mono ?_;rintro e w1 ⟨rfl,rfl⟩))
      go_ret
      exact ⟨ret_int (G1 hc1).symm,rfl⟩
end Go.Proofs.YtehpihmgjbmoaaaGreatDoor
namespace Go.Proofs.YtehpihmgjbmoaaaGreatDoor
open Go.RowKit
theorem ref08_Home (s:ByteArray) (n:Int) (w:World) (hs:s.size≤9223372036854775807) :
    Calls Tryz.prog 74 #[.string s,.int .i64 n] w fun e w'=>e=.returned (.int .i64 (homeL (bl s) n))∧Below w.heap.size w w':=by
  have G0:fewB n=false→homeL (bl s) n=-1:=fun h=>by simp [homeL,h]
  have hF:=Lib.hid (fun w=>ref08_Few n w);cases hf:fewB n
  · rw [hf] at hF
    go_enter Tryz.func74,Tryz.ntmps74
    go_wp2_with (first
      | (go_at_call 85;refine (hF.out _).mono ?_;rintro e w1 ⟨rfl,rfl⟩))
    go_ret
    exact ⟨ret_int (G0 hf).symm,Below.refl _ _⟩
  · rw [hf] at hF
    obtain ⟨m,rfl,h1,h2⟩:=few_nat hf;have G1:homeL (bl s) (m:Int)=(restL (bl s) m:Nat):=by simp [homeL,hf]
    have hlt:=hashL_lt (bl s);unfold two64 at hlt;have hR:hashL (bl s) % m=restL (bl s) m:=rfl;have hR2:restL (bl s) m < 64:=by rw [← hR];exact Nat.lt_of_lt_of_le (Nat.mod_lt _ (by omega)) h2
    have hH:=Lib.hid (fun w=>ref08_Hash s w hs);rw [G1];generalize hashL (bl s)=H at *;generalize restL (bl s) m=R at *;have t1:(H:Int).tmod (m:Int)=(R:Int):=by rw [← hR];rfl
    have c1:¬ (m:Int)=0:=by omega
    have c2:IntKind.u64.wrap (m:Int)=m:=by rw [IntKind.wrap_u64];omega
    have c3:IntKind.i64.wrap (R:Int)=R:=by rw [IntKind.wrap_i64];omega
    clear G0 G1;go_enter Tryz.func74,Tryz.ntmps74
    go_wp2_with (first
      | (go_at_call 85;refine (hF.out _).mono ?_;rintro e w1 ⟨rfl,rfl⟩)
      | (go_at_call 91;refine (hH.out _).mono ?_;rintro e w1 ⟨rfl,hb⟩))
    go_ret
    exact ⟨rfl,hb⟩
theorem ref08_Gate (c n:Int) (w:World) (hc:c < 9223372036854775808) :
    Calls Tryz.prog 64 #[.int .i64 c,.int .i64 n] w fun e w'=>e=.returned (.int .i64 (gateL c n))∧w=w':=by
  have G0:fewB n=false→gateL c n=-1:=fun h=>by simp [gateL,h]
  have G1:¬ 1≤c→gateL c n=-1:=fun h=>by simp [gateL,h]
  have G2:fewB n=true→1≤c→gateL c n=(c - 1) % n:=fun h h2=>by simp [gateL,h,h2]
  have hF:=Lib.hid (fun w=>ref08_Few n w);cases hf:fewB n
  · rw [hf] at hF
    go_enter Tryz.func64,Tryz.ntmps64
    go_wp2_with (first
      | (go_at_call 85;refine (hF.out _).mono ?_;rintro e w1 ⟨rfl,rfl⟩))
    go_ret
    exact ⟨ret_int (G0 hf).symm,rfl⟩
  · rw [hf] at hF
    obtain ⟨m,rfl,h1,h2⟩:=few_nat hf;by_cases hc1:1≤c
    · have c1:¬ (m:Int)=0:=by omega
      have c2:¬ c < 1:=by omega
      have c3:IntKind.i64.wrap (c - 1)=c - 1:=by rw [IntKind.wrap_i64];omega
      have t1:(c - 1).tmod (m:Int)=(c - 1) % (m:Int):=Int.tmod_eq_emod_of_nonneg (by omega);go_enter Tryz.func64,Tryz.ntmps64
      go_wp2_with (first
        | (go_at_call 85;refine (hF.out _).mono ?_;rintro e w1 ⟨rfl,rfl⟩))
      go_ret
      exact ⟨ret_int (G2 hf hc1).symm,rfl⟩
    · have c2:c < 1:=by omega
      go_enter Tryz.func64,Tryz.ntmps64
      go_wp2_with (first
        | (go_at_call 85;refine (hF.out _).mono ?_;rintro e w1 ⟨rfl,rfl⟩))
      go_ret
      exact ⟨ret_int (G1 hc1).symm,rfl⟩
end Go.Proofs.YtehpihmgjbmoaaaGreatDoor
