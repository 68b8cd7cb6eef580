import Derived.Test.YtehpihmgjbmoaaaGreatDoorJoinC
import Derived.Test.YtehpihmgjbmoaaaGreatDoorJoinPB
import Derived.Deep.MidRow
import Derived.Test.YtehpihmgjbmoaaaGreatDoorJoinSR
namespace Go.Proofs.YtehpihmgjbmoaaaGreatDoor
open Go.RowKit
theorem OnlyU.size {B:Nat} {w w':World} (h:OnlyU B w w'):w.heap.size≤w'.heap.size:=Only.size h
theorem flag_bits (d r:Bool) (q:Nat) (hq:q≤2):bits BinOp.or IntKind.u8 (bits BinOp.or IntKind.u8 (bitI d 8) (IntKind.u8.wrap ((q:Int) * 2))) (bitI r 1)=((bitN d 8+2 * q+bitN r 1:Nat):Int):=by
  have h:q=0∨q=1∨q=2:=by omega
  rcases h with rfl | rfl | rfl <;> cases d <;> cases r <;> rfl
theorem con_bits (u s r i c:Bool) (q:Nat) (hq:q≤2):bits BinOp.or IntKind.u8 (bits BinOp.or IntKind.u8 (bits BinOp.or IntKind.u8 (bits BinOp.or IntKind.u8 (bits BinOp.or IntKind.u8 (bitI u 128) (bitI s 64)) (bitI r 32)) (IntKind.u8.wrap ((q:Int) * 8))) (bitI i 4)) (bitI c 2)=((bitN u 128+bitN s 64+bitN r 32+8 * q+bitN i 4+bitN c 2:Nat):Int):=by
  have h:q=0∨q=1∨q=2:=by omega
  rcases h with rfl | rfl | rfl <;> cases u <;> cases s <;> cases r <;> cases i <;> cases c <;> rfl
theorem conFlags_lt (p:Pk) (h:p.wqos≤2):conFlags p < 256:=by
  unfold conFlags bitN
  (repeat' split) <;> omega
end Go.Proofs.YtehpihmgjbmoaaaGreatDoor
namespace Go.Proofs.YtehpihmgjbmoaaaGreatDoor
open Go.RowKit
theorem flat_take (t:Nat) (S:List Sb) (k:Nat):((S.take k).flatMap (subB t)).length≤(S.flatMap (subB t)).length:=by
  conv=>rhs;rw [← List.take_append_drop k S,List.flatMap_append,List.length_append]
  omega
theorem flat_snoc (t:Nat) (S:List Sb) (k:Nat) (x:Sb) (hx:S[k]? = some x):(S.take (k+1)).flatMap (subB t)=(S.take k).flatMap (subB t)++subB t x:=by
  rw [List.take_add_one,hx,List.flatMap_append];simp
theorem body_parts {p:Pk} (hp:PkOk p) (h:0≤restP p) (h1:p.ty≠1) (h2:p.ty≠2):(p.ty=3→p.topic.size≤65535)∧(∀ x ∈ p.subs,x.1.size≤65535∧x.2≤2)∧(p.subs.flatMap (subB p.ty)).length≤268435455:=by
  have hr:=restB_len p hp h;have hm:restP p≤268435455:=by unfold restP restOf;split <;> omega
  refine ⟨fun h3=>?_,fun x hx=>?_,?_⟩
  · have:=name_len (pub_parts h3 h).1
    rwa [blen] at this
  · have hz:=(zeros_iff p).1 (rest_bare h)
    have ht:p.ty=8∨p.ty=10:=by
      by_cases h8:p.ty=8
      · exact Or.inl h8
      · by_cases h10:p.ty=10
        · exact Or.inr h10
        · have:=hz.zs h8 h10
          rw [this] at hx;cases hx
    have e:restP p=subsN p:=by
      rw [rest_type h];unfold typeN;rw [if_neg h1,if_neg h2,if_neg (by omega),if_neg (by omega),if_pos ht]
    rw [e] at h;unfold subsN at h;split at h
    · omega
    · split at h
      · rename_i hall
        have:=List.all_eq_true.1 hall x hx;unfold subOk at this;simp only [Bool.and_eq_true,decide_eq_true_eq] at this;have hl:=filter_len this.1;have hm2:mostN p≤2:=by unfold mostN;split <;> omega
        refine ⟨?_,by omega⟩;have hb:(bl x.1).length≤65535:=hl;rwa [blen] at hb
      · omega
  · unfold restB at hr
    rw [if_neg h1,if_neg h2] at hr;unfold otherB at hr;simp only [List.length_append] at hr;omega
theorem u8V_bit (b:Bool):((bitN b 1:Nat):Int)=bitI b 1:=by cases b <;> rfl
end Go.Proofs.YtehpihmgjbmoaaaGreatDoor
namespace Go.Proofs.YtehpihmgjbmoaaaGreatDoor
open Go.RowKit
def sizeN (p:Pk):Nat:=if restP p < 0 then 0 else 1+lenS (restP p).toNat+(restP p).toNat
theorem restP_max (p:Pk):restP p≤268435455:=by
  unfold restP restOf;split <;> omega
theorem lenS_le (n:Nat):1≤lenS n∧lenS n≤4:=by unfold lenS;(repeat' split) <;> omega
set_option maxRecDepth 100000 in
theorem write_Size (p:Pk) (a:Option Addr) (c:Nat) (w:World) (hE:Env w) (hp:PkOk p) (ha:CellsA w a (subCells p.subs)):Calls Tryz.prog 111 #[.agg (pkV p a c)] w fun e w'=>e=.returned (.int .i64 (sizeN p:Nat))∧Below w.heap.size w w':=by
  have HK:=Lib.hid ((Keep.begin hE [(a,subCells p.subs)] (by intro r hr;simp at hr;subst hr;exact ha)).alloc' (pkV p a c) 33 w.heap.size rfl);have hR:=fun w1 hE ha=>packet_Rest p a c w1 hE hp ha
  have FIN:=Lib.hid (show ∀ (k:Int) (w':World),((sizeN p:Nat):Int)=k→Below w.heap.size w w'→Ending.returned (.int .i64 k)=.returned (.int .i64 (sizeN p:Nat))∧Below w.heap.size w w' from by rintro k w' rfl h;exact ⟨rfl,h⟩);have hmx:=restP_max p;clear hp ha hE;by_cases h0:restP p < 0
  · have HX:=Lib.hid (show ((sizeN p:Nat):Int)=0 by unfold sizeN;rw [if_pos h0];rfl)
    have hn:=restP_neg p h0;rw [hn] at hR;have HR:=Lib.hid hR;clear hR h0 hn hmx;go_enter Tryz.func111,Tryz.ntmps111
    go_wp2_with (first
      | ((with_reducible show wpList _ _ _ (⟨_,.load 33 _,_,_,_,_⟩::_) _ _);refine wpList_load_box rfl 33 _ rfl _ rfl 33 _ (by (first | exact HK.out.at 0 rfl)) _ Tryz.underlying33 rfl (pk_size _ _ _) ?_)
      | (go_at_call 100;refine Calls.mono (HR.out _ HK.out.env (HK.out.rowAt 0 rfl)) ?_;rintro e w1 ⟨rfl,hb1⟩;replace HK:=Lib.hid (HK.out.below hb1);clear hb1))
    go_ret
    exact FIN.out _ _ HX.out HK.out.low
  · obtain ⟨n,hn⟩:∃ n:Nat,restP p=(n:Int):=⟨(restP p).toNat,by omega⟩
    have HX:=Lib.hid (show ((sizeN p:Nat):Int)=1+(lenS n:Nat)+(n:Int) by unfold sizeN;rw [if_neg h0,hn];push_cast;rfl);rw [hn] at hR hmx;have hn2:n≤268435455:=by omega
    have HS:=Lib.hid (fun w1=>num_Size n hn2 w1);have HR:=Lib.hid hR;have hl4:=lenS_le n;clear hR h0 hn hmx;generalize lenS n=z at *;go_enter Tryz.func111,Tryz.ntmps111
    go_wp2_with (first
      | ((with_reducible show wpList _ _ _ (⟨_,.load 33 _,_,_,_,_⟩::_) _ _);refine wpList_load_box rfl 33 _ rfl _ rfl 33 _ (by (first | exact HK.out.at 0 rfl)) _ Tryz.underlying33 rfl (pk_size _ _ _) ?_)
      | (go_at_call 100;refine Calls.mono (HR.out _ HK.out.env (HK.out.rowAt 0 rfl)) ?_;rintro e w1 ⟨rfl,hb1⟩;replace HK:=Lib.hid (HK.out.below hb1);clear hb1)
      | (go_at_call 138;refine Calls.mono (HS.out _) ?_;rintro e w1 ⟨rfl,rfl⟩))
    go_ret
    exact FIN.out _ _ HX.out HK.out.low
abbrev PkE:=Pk × Option Addr × Nat
def pkC (x:PkE):List Value:=(pkV x.1 x.2.1 x.2.2).toList
theorem pkC_len (x:PkE):(pkC x).length=24:=rfl
def pkCells (T:List PkE):List Value:=T.flatMap pkC
def okAll (T:List PkE):Bool:=T.all fun x=>decide (0≤restP x.1)
def encAll (T:List PkE):Bs:=T.flatMap fun x=>encB x.1
structure PkIn (w:World) (x:PkE):Prop where
  ok:PkOk x.1
  row:CellsA w x.2.1 (subCells x.1.subs)
theorem PkIn.low {w:World} {x:PkE} (h:PkIn w x):subCells x.1.subs≠[]→∀ b o,x.2.1=some ⟨b,o,none⟩→b < w.heap.size:=fun hne b o e=>by
  cases hs:subCells x.1.subs with
  | nil=>exact absurd hs hne
  | cons u r =>
    obtain ⟨b',o',e',hc⟩:=h.row 0 u (by rw [hs];rfl);rw [e] at e';injection e' with e'
    injection e' with e1 e2
    subst e1 e2;exact World.block_lt_of_cell? _ _ hc
theorem pk_range {w:World} {al:Option Addr} {T:List PkE} (h:CellsA w al (pkCells T)) {k:Nat} {x:PkE} (hx:T[k]? = some x):∃ b o,al=some ⟨b,o,none⟩∧w.rangeAt b (o+k * 24) (pkC x)∧b < w.heap.size:=by
  obtain ⟨b,o,e,hj⟩:=CellsA.elem pkC_len h hx (.int .u8 (x.1.ty:Int)) rfl;exact ⟨b,o,e,fun j v hv=>hj j v hv,World.block_lt_of_cell? _ _ (hj 0 _ rfl)⟩
theorem size_pos (p:Pk):((sizeN p:Nat):Int)=0↔restP p < 0:=by
  unfold sizeN;split <;> omega
def sumS (T:List PkE):Nat:=(T.map fun x=>sizeN x.1).sum
theorem sumS_snoc (T:List PkE) (k:Nat) (x:PkE) (hx:T[k]? = some x):sumS (T.take (k+1))=sumS (T.take k)+sizeN x.1:=by
  unfold sumS;rw [List.take_add_one,hx,List.map_append,List.sum_append];simp
theorem encAll_snoc (T:List PkE) (k:Nat) (x:PkE) (hx:T[k]? = some x):encAll (T.take (k+1))=encAll (T.take k)++encB x.1:=by
  unfold encAll;rw [List.take_add_one,hx,List.flatMap_append];simp
theorem first_bits:∀ t:Nat,t < 16→∀ f:Nat,f < 16→bits BinOp.or IntKind.u8 (IntKind.u8.wrap ((t:Int) * 16)) (f:Int)=((16 * t+f:Nat):Int):=by decide +kernel
theorem flags_lt (p:Pk) (h:p.ty=3→p.qos≤2):flagsN p < 16:=by
  unfold flagsN bitN;split
  · rename_i h3
    have:=h h3
    (repeat' split) <;> omega
  · split <;> omega
theorem enc_le {p:Pk} (hp:PkOk p) (h:0≤restP p):(encB p).length≤300000000:=by
  rw [encB_len p hp h];have:=restP_max p;have:=lenS_le (restP p).toNat;omega
theorem encAll_le:∀ (T:List PkE),(∀ x ∈ T,PkOk x.1∧0≤restP x.1)→(encAll T).length≤T.length * 300000000
  | [],_=>by simp [encAll]
  | x::r,h=>by
    have ih:=encAll_le r (fun y hy=>h y (by simp [hy]));have h1:=enc_le (h x (by simp)).1 (h x (by simp)).2;unfold encAll at *;rw [List.flatMap_cons,List.length_append,List.length_cons,Nat.succ_mul];omega
end Go.Proofs.YtehpihmgjbmoaaaGreatDoor
namespace Go.Proofs.YtehpihmgjbmoaaaGreatDoor
open Go.RowKit
attribute [local irreducible] Ok
theorem con_facts {p:Pk} (hk:connectOk p=true):p.level=4∧p.client.size≤65535∧p.user.size≤65535∧p.pass.size≤65535∧p.wqos≤2∧(p.hasWill=true→p.wtopic.size≤65535∧p.wpayload.size≤65535):=by
  unfold connectOk at hk;simp only [Bool.and_eq_true,decide_eq_true_eq] at hk;obtain ⟨⟨⟨⟨⟨⟨hl,hc⟩,hw⟩,_⟩,_⟩,hv⟩,hz⟩:=hk;have hcs:=valid_some hc;have hus:=valid_some hv;rw [blen] at hcs hus;unfold willOk willZero at hw;refine ⟨hl,hcs,hus,hz,?_,fun h=>?_⟩
  · split at hw
    · try simp only [Bool.and_eq_true,decide_eq_true_eq] at hw
      exact hw.2
    · have:=(of_decide_eq_true hw).2.2.1
      omega
  · rw [if_pos h] at hw
    try simp only [Bool.and_eq_true,decide_eq_true_eq] at hw
    have h2:=valid_some (name_valid hw.1.1);rw [blen] at h2;exact ⟨h2,hw.1.2⟩
theorem infoIntW:(Tryz.prog.info? 3).map (fun i=>(i.zero,i.size,i.bytes))=some (some (.int .i64 0),1,8):=by kernel_rfl
theorem cell1 {w:World} {b:Nat} {v:Value} {T:TypeId} (h:(rowO T 1 (.slice (some ⟨b,0,none⟩) 1 1) 1 [v]).is w):w.cell? ⟨b,0,none⟩=some v:=by
  obtain ⟨b',o',e,hc⟩:=own_cells (show w.ownsRow 0 T 1 _ 1 [v] from h) 0 v rfl;injection e with e
  injection e with e1 e2
  subst e1 e2;exact hc
set_option maxRecDepth 100000 in
set_option maxHeartbeats 4000000 in
theorem fieldS {wb:World} {v:Value} {L:Bs} (s:ByteArray) (hs:s.size≤65535) (hL:L.length≤1000000000000):Spec Tryz.prog wb 141 #[v,.string s] [] [OW v L] (fun y:Value=>y) (fun _=>[]) (fun y=>[OW y (L++dataB s)]):=by
  have hd:(bB (dataB s)).size≤65537:=by show (dataB s).length≤_;rw [dataB_len];omega
  intro w H;refine en_call Tryz.func141 H ?_;refine en (EK [] trivial [⟨154,#[.string s],.tuple #[.string (bB (dataB s)),.int .i64 0],[],[]⟩] ⟨fun _ w1 _ _=>text_PutData s hs w1,trivial⟩) (.c::.c::.k 0::eC 7 []) ?_;refine en_ops (ops_ow 22 (v:=v) (L:=L) (bB (dataB s)) (by omega)) [] [0] [] (fun v'=>?_);refine en E0 [.c] ?_;exact en_rets v' [] [0] []
set_option maxRecDepth 100000 in
set_option maxHeartbeats 4000000 in
theorem wordS8 {wb:World} {v:Value} {L:Bs} (n:Nat) (hn:n≤65535) (hL:L.length≤1000000000000):Spec Tryz.prog wb 142 #[v,.int .u16 (n:Int)] [] [OW v L] (fun y:Value=>y) (fun _=>[]) (fun y=>[OW y (L++wordB n)]):=by
  obtain ⟨i0,hi,hz0,hz1,hz2⟩:=info_parts infoIntW;have hd:(bB (wordB n)).size=2:=rfl;intro w H;refine en_call Tryz.func142 H ?_;refine en (EF [(.int .i64 (IntKind.i64.wrap (n:Int)),.int .i64 (n:Int))] ⟨cI (by omega),trivial⟩) [.c,.c,.f 0] ?_;refine en_ops (ops_one1 169 3 169 (.int .i64 (n:Int)) #[.int .i64 (n:Int)] i0 _ hz1.symm Tryz.underlying169 hi hz0 (by rw [hz1];decide) (by rw [hz1];decide) (by rw [hz1];kernel_rfl) (by rw [hz1];rfl)) [] [] [] (fun b=>?_);refine en (EK [] trivial [⟨155,#[.slice (some ⟨b,0,none⟩) 1 1],.tuple #[.string (bB (wordB n)),.int .i64 0],[],[]⟩] ⟨fun _ w1 h _=>num_Words n hn b 0 w1 (cell1 (is_at h.hp.is 0 (c:=rowO 3 1 (.slice (some ⟨b,0,none⟩) 1 1) 1 [.int .i64 (n:Int)]) rfl)),trivial⟩) (.k 0::eC 7 []) ?_;refine en_ops (ops_ow 22 (v:=v) (L:=L) (bB (wordB n)) (by omega)) [] [1] [] (fun v'=>?_);refine en E0 [.c] ?_;exact en_rets v' [] [0] []
set_option maxRecDepth 100000 in
set_option maxHeartbeats 4000000 in
theorem flagsS {wb:World} {p:Pk} {a:Option Addr} {c:Nat} (hq:p.ty=3→p.qos≤2):Spec Tryz.prog wb 113 #[.agg (pkV p a c)] [] [] (fun _:Unit=>.int .u8 (flagsN p:Int)) (fun _=>[]) (fun _=>[]):=by
  obtain ⟨z,hz⟩:∃ z,flagsN p=z:=⟨_,rfl⟩
  rw [hz];unfold flagsN at hz;intro w H;refine en_call Tryz.func113 H ?_;refine en1 E0 [.x,.c,.c,.b 0 0] fun X=>?_
  by_cases h3:p.ty=3
  · rw [if_pos h3] at hz
    have hf:=flag_bits p.dup p.ret p.qos (hq h3);rw [hz] at hf;refine en (EK [(.bool ((((p.ty:Int)):Int) == 3),.bool true),(.int .u8 (bits BinOp.or IntKind.u8 (bits BinOp.or IntKind.u8 (bitI p.dup 8) (IntKind.u8.wrap ((p.qos:Int) * 2))) (bitI p.ret 1)),.int .u8 (z:Int))] ⟨eqI (by omega),congrArg (Value.int .u8) hf,trivial⟩ [⟨139,#[.bool p.dup,.int .u64 3],.int .u8 (bitI p.dup 8),[],[]⟩,⟨139,#[.bool p.ret,.int .u64 0],.int .u8 (bitI p.ret 1),[],[]⟩] ⟨fun _ w1 _ _=>(write_bit p.dup 3 8 (by omega) w1).mono (fun e w' h=>⟨h.1,h.2 ▸ Below.refl _ _⟩),fun _ w1 _ _=>(write_bit p.ret 0 1 (by omega) w1).mono (fun e w' h=>⟨h.1,h.2 ▸ Below.refl _ _⟩),trivial⟩) [.f 0,.c,.g [(0,1,1),(0,2,1),(0,3,1)] 1000 false,.d [(0,.c),(1,.l 0 0),(3,.c),(4,.l 1 0),(5,.c),(7,.c),(8,.l 2 0)],.k 0,.d (eN 6 [.c]),.k 1,.d (eN 10 [.f 1,.c])] ?_;exact en_rets () [] [] []
  rw [if_neg h3] at hz;refine en (EF [(.bool ((((p.ty:Int)):Int) == 3),.bool false)] ⟨eqI' (by omega),trivial⟩) [.f 0,.c] ?_;by_cases h6:p.ty=6
  · rw [if_pos (by omega)] at hz
    subst hz;refine en (EF [(.bool ((((p.ty:Int)):Int) == 6),.bool true)] ⟨eqI (by omega),trivial⟩) [.f 0,.c,.c] ?_;exact en_rets () [] [] []
  by_cases h8:p.ty=8
  · rw [if_pos (by omega)] at hz
    subst hz;refine en (EF [(.bool ((((p.ty:Int)):Int) == 6),.bool false),(.bool ((((p.ty:Int)):Int) == 8),.bool true)] ⟨eqI' (by omega),eqI (by omega),trivial⟩) [.f 0,.c,.f 1,.c,.c] ?_;exact en_rets () [] [] []
  by_cases h10:p.ty=10
  · rw [if_pos (by omega)] at hz
    subst hz;refine en (EF [(.bool ((((p.ty:Int)):Int) == 6),.bool false),(.bool ((((p.ty:Int)):Int) == 8),.bool false),(.bool ((((p.ty:Int)):Int) == 10),.bool true)] ⟨eqI' (by omega),eqI' (by omega),eqI (by omega),trivial⟩) [.f 0,.c,.f 1,.c,.f 2,.c,.c] ?_;exact en_rets () [] [] []
  rw [if_neg (by omega)] at hz;subst hz;refine en (EF [(.bool ((((p.ty:Int)):Int) == 6),.bool false),(.bool ((((p.ty:Int)):Int) == 8),.bool false),(.bool ((((p.ty:Int)):Int) == 10),.bool false)] ⟨eqI' (by omega),eqI' (by omega),eqI' (by omega),trivial⟩) [.f 0,.c,.f 1,.c,.f 2,.c,.c] ?_;exact en_rets () [] [] []
set_option maxRecDepth 100000 in
set_option maxHeartbeats 4000000 in
theorem connectS {wb:World} {v:Value} {L:Bs} {p:Pk} {a:Option Addr} {c:Nat} (hp:PkOk p) (hL:L.length≤100000000000) (hk:connectOk p=true):Spec Tryz.prog wb 140 #[v,.agg (pkV p a c)] [] [OW v L] (fun y:Value=>y) (fun _=>[]) (fun y=>[OW y (L++connectB p)]):=by
  have hB:=connectB_len p;obtain ⟨hlv,hcs,hus,hps,hq2,hwl⟩:=con_facts hk;have hcf:=conFlags_lt p hq2;have hcb:=con_bits p.hasUser p.hasPass p.wret p.hasWill p.clean p.wqos hq2;rw [show bitN p.hasUser 128+bitN p.hasPass 64+bitN p.wret 32+8 * p.wqos+bitN p.hasWill 4+bitN p.clean 2=conFlags p from rfl] at hcb;have hkp:=hp.keep;obtain ⟨cf,hcf2⟩:∃ n,conFlags p=n:=⟨_,rfl⟩
  unfold connectB;rw [hcf2];rw [hcf2] at hcf hcb;have hm:mqtt.size≤65535:=by decide
  have hml:(dataB mqtt).length=6:=rfl;have hwl2:(wordB p.keep).length=2:=rfl;have hdl:=fun s=>dataB_len s
  have hty:True:=trivial;obtain ⟨q,hw,hu,hs,hpq⟩:∃ (q:Pk) (hw hu hs:Bool),p={ q with hasWill:=hw,hasUser:=hu,hasPass:=hs }:=⟨p,p.hasWill,p.hasUser,p.hasPass,rfl⟩
  subst hpq;simp only at hlv hcs hus hps hq2 hwl hcb hkp
  clear hB hcf2 hk;intro w H;refine en_call Tryz.func140 H ?_;refine en1 E0 [.x,.c,.c] fun X=>?_
  refine en_spec (fieldS (v:=v) (L:=L) mqtt hm (by omega)) [] [0] [] (fun v1=>?_);refine en (EK [(.int .u8 (bits BinOp.or IntKind.u8 (bits BinOp.or IntKind.u8 (bits BinOp.or IntKind.u8 (bits BinOp.or IntKind.u8 (bits BinOp.or IntKind.u8 (bitI hu 128) (bitI hs 64)) (bitI q.wret 32)) (IntKind.u8.wrap ((q.wqos:Int) * 8))) (bitI hw 4)) (bitI q.clean 2)),.int .u8 (cf:Int))] ⟨congrArg (Value.int .u8) hcb,trivial⟩ [⟨139,#[.bool hu,.int .u64 7],.int .u8 (bitI hu 128),[],[]⟩,⟨139,#[.bool hs,.int .u64 6],.int .u8 (bitI hs 64),[],[]⟩,⟨139,#[.bool q.wret,.int .u64 5],.int .u8 (bitI q.wret 32),[],[]⟩,⟨139,#[.bool hw,.int .u64 2],.int .u8 (bitI hw 4),[],[]⟩,⟨139,#[.bool q.clean,.int .u64 1],.int .u8 (bitI q.clean 2),[],[]⟩] ⟨fun _ w1 _ _=>(write_bit hu 7 128 (by omega) w1).mono (fun e w' h=>⟨h.1,h.2 ▸ Below.refl _ _⟩),fun _ w1 _ _=>(write_bit hs 6 64 (by omega) w1).mono (fun e w' h=>⟨h.1,h.2 ▸ Below.refl _ _⟩),fun _ w1 _ _=>(write_bit q.wret 5 32 (by omega) w1).mono (fun e w' h=>⟨h.1,h.2 ▸ Below.refl _ _⟩),fun _ w1 _ _=>(write_bit hw 2 4 (by omega) w1).mono (fun e w' h=>⟨h.1,h.2 ▸ Below.refl _ _⟩),fun _ w1 _ _=>(write_bit q.clean 1 2 (by omega) w1).mono (fun e w' h=>⟨h.1,h.2 ▸ Below.refl _ _⟩),trivial⟩) [.c,.g [(0,7,1),(0,16,1),(0,17,1),(0,15,1),(0,14,1),(0,11,1),(0,8,1)] 1000 false,.d [(0,.c),(1,.c),(2,.l 0 0),(3,.c),(4,.l 1 0),(6,.c),(7,.l 2 0),(10,.c),(11,.c),(12,.l 3 0),(15,.c),(16,.c),(17,.l 4 0),(18,.c),(20,.c),(21,.l 5 0),(24,.c),(25,.l 6 0)],.k 0,.k 1,.d (eN 9 [.c]),.k 2,.d [(14,.c),(19,.c)],.k 3,.d (eN 23 [.c]),.k 4,.d (eN 27 [.f 0])] ?_;refine en_ops (ops_mk2 22 q.level cf) [] [] [(0,7,1),(0,16,1),(0,17,1),(0,15,1),(0,14,1),(0,11,1),(0,8,1)] (fun b=>?_);refine en_ops (ops_ow2 22 (v:=v1) (L:=(L++dataB mqtt)) (b:=b) q.level cf (by omega) hcf (by simp only [List.length_append,hml];omega)) [] [1,0] [(0,7,1),(0,16,1),(0,17,1),(0,15,1),(0,14,1),(0,11,1),(0,8,1)] (fun v2=>?_);refine en E0 [.d (eN 30 [.c]),.g [(0,9,1),(0,10,1)] 1000 false,.d [(0,.c),(1,.c),(2,.l 0 0),(4,.c),(5,.l 1 0)]] ?_;refine en_spec (wordS8 (v:=v2) (L:=((L++dataB mqtt)++[byteN q.level,byteN cf])) q.keep (by omega) (by simp only [List.length_append,List.length_cons,List.length_nil,hml,hwl2,hdl];omega)) [] [0] [(0,9,1),(0,10,1)] (fun v3=>?_);refine en_spec (fieldS (v:=v3) (L:=(((L++dataB mqtt)++[byteN q.level,byteN cf])++wordB q.keep)) q.client hcs (by simp only [List.length_append,List.length_cons,List.length_nil,hml,hwl2,hdl];omega)) [] [0] [(0,9,1),(0,10,1)] (fun v4=>?_);refine en E0 [.d (eN 7 [.c])] ?_;obtain ⟨N,hN⟩:∃ N,((((L++dataB mqtt)++[byteN q.level,byteN cf])++wordB q.keep)++dataB q.client)=N:=⟨_,rfl⟩
  have hNl:N.length≤100000070000:=by rw [← hN];simp only [List.length_append,List.length_cons,List.length_nil,hml,hwl2,hdl];omega
  rw [hN];refine en_drop [0] [0] ?_;refine en_meetP (codeOf Tryz.f140) [1,1,1,1,0] [] (α:=Value) 1 (fun y=>[(0,y),(3,.pointer (some ⟨X,0,none⟩))]) (fun y=>[⟨X,[.int .u8 (q.ty:Int),.bool q.dup,.int .u8 (q.qos:Int),.bool q.ret,.int .u16 (q.id:Int),.string q.topic,.string q.payload,.int .u8 (q.level:Int),.bool q.clean,.int .u16 (q.keep:Int),.string q.client,.bool hw,.string q.wtopic,.string q.wpayload,.int .u8 (q.wqos:Int),.bool q.wret,.bool hu,.bool hs,.string q.user,.string q.pass,.bool q.present,.int .u8 (q.code:Int),.slice a q.subs.length c,.string q.codes],33⟩]) (fun y=>many [OW y (N++(if hw=true then dataB q.wtopic++dataB q.wpayload else []))]) ?_ ?_
  · intro JW HJW
    cases hw
    · refine en_word 0 (OW v4 N) (OW v4 (N++(if false=true then dataB q.wtopic++dataB q.wpayload else []))) (by rw [if_neg (by decide),List.append_nil]) ?_
      refine en E0 [.c,.b 0 11] ?_;exact en_stopI (fun a w F HK=>HJW v4 a w F HK)
    · have hwl:=hwl rfl
      refine en E0 [.c,.b 0 11,.g [(0,12,1),(0,13,1)] 1000 false,.d [(0,.c),(1,.c),(2,.c),(3,.l 0 0),(5,.c),(6,.c),(7,.l 1 0)]] ?_;refine en_spec (fieldS (v:=v4) (L:=N) q.wtopic hwl.1 (by omega)) [] [0] [(0,12,1),(0,13,1)] (fun v5=>?_);refine en_spec (fieldS (v:=v5) (L:=(N++dataB q.wtopic)) q.wpayload hwl.2 (by simp only [List.length_append,hdl];omega)) [] [0] [(0,12,1),(0,13,1)] (fun v6=>?_);refine en E0 [.d (eN 9 [.c])] ?_;refine en_word 0 (OW v6 ((N++dataB q.wtopic)++dataB q.wpayload)) (OW v6 (N++(if true=true then dataB q.wtopic++dataB q.wpayload else []))) (by rw [if_pos rfl];rw [← List.append_assoc]) ?_;exact en_stopI (fun a w F HK=>HJW v6 a w F HK)
  intro v7;obtain ⟨M,hM⟩:∃ M,(N++(if hw=true then dataB q.wtopic++dataB q.wpayload else []))=M:=⟨_,rfl⟩
  have hMl:M.length≤100000300000:=by
    rw [← hM];cases hw
    · simp;omega
    · have hwl:=hwl rfl
      simp [hdl];omega
  rw [hM];refine en_meetP (codeOf Tryz.f140) [1,1,1,1,1,0] [] (α:=Value) 1 (fun y=>[(0,y),(3,.pointer (some ⟨X,0,none⟩))]) (fun y=>[⟨X,[.int .u8 (q.ty:Int),.bool q.dup,.int .u8 (q.qos:Int),.bool q.ret,.int .u16 (q.id:Int),.string q.topic,.string q.payload,.int .u8 (q.level:Int),.bool q.clean,.int .u16 (q.keep:Int),.string q.client,.bool hw,.string q.wtopic,.string q.wpayload,.int .u8 (q.wqos:Int),.bool q.wret,.bool hu,.bool hs,.string q.user,.string q.pass,.bool q.present,.int .u8 (q.code:Int),.slice a q.subs.length c,.string q.codes],33⟩]) (fun y=>many [OW y (M++(if hu=true then dataB q.user else []))]) ?_ ?_
  · intro JU HJU
    cases hu
    · refine en_word 0 (OW v7 M) (OW v7 (M++(if false=true then dataB q.user else []))) (by rw [if_neg (by decide),List.append_nil]) ?_
      refine en E0 [.c,.b 0 16] ?_;exact en_stopI (fun a w F HK=>HJU v7 a w F HK)
    · refine en E0 [.c,.b 0 16,.c,.c,.b 0 18] ?_
      refine en_spec (fieldS (v:=v7) (L:=M) q.user hus (by omega)) [] [0] [] (fun v8=>?_);refine en E0 [.c] ?_;refine en_word 0 (OW v8 (M++dataB q.user)) (OW v8 (M++(if true=true then dataB q.user else []))) (by rw [if_pos rfl]) ?_;exact en_stopI (fun a w F HK=>HJU v8 a w F HK)
  intro v9;obtain ⟨K,hK⟩:∃ K,(M++(if hu=true then dataB q.user else []))=K:=⟨_,rfl⟩
  have hKl:K.length≤100000500000:=by
    rw [← hK];cases hu
    · simp;omega
    · simp [hdl];omega
  rw [hK];cases hs
  · refine en_word 0 (OW v9 K) (OW v9 (L++(dataB mqtt++[byteN q.level,byteN cf]++wordB q.keep++dataB q.client++(if hw=true then dataB q.wtopic++dataB q.wpayload else [])++(if hu=true then dataB q.user else [])++(if false=true then dataB q.pass else [])))) (by rw [← hK,← hM,← hN];simp [List.append_assoc]) ?_
    refine en E0 [.c,.b 0 17,.c,.c] ?_;exact en_rets v9 [] [0] []
  · refine en E0 [.c,.b 0 17,.c,.c,.b 0 19] ?_
    refine en_spec (fieldS (v:=v9) (L:=K) q.pass hps (by omega)) [] [0] [] (fun vA=>?_);refine en_word 0 (OW vA (K++dataB q.pass)) (OW vA (L++(dataB mqtt++[byteN q.level,byteN cf]++wordB q.keep++dataB q.client++(if hw=true then dataB q.wtopic++dataB q.wpayload else [])++(if hu=true then dataB q.user else [])++(if true=true then dataB q.pass else [])))) (by rw [← hK,← hM,← hN];simp [List.append_assoc]) ?_;refine en E0 (eC 3 []) ?_;exact en_rets vA [] [0] []
theorem sub_atW {w:World} {al:Option Addr} {L:List Sb} (h:CellsA w al (subCells L)) {k:Nat} {x:Sb} (hx:L[k]? = some x):∃ b o,al=some ⟨b,o,none⟩∧w.rangeAt b (o+k * 2) [.string x.1,.int .u8 (x.2:Int)]:=by
  obtain ⟨b,o,e,hj⟩:=CellsA.elem (g:=fun x:Sb=>[Value.string x.1,.int .u8 (x.2:Int)]) (m:=2) (fun _=>rfl) h hx (.string x.1) rfl;exact ⟨b,o,e,fun j v hv=>hj j v hv⟩
set_option maxRecDepth 100000 in
set_option maxHeartbeats 4000000 in
theorem restS8 {wb:World} {v:Value} {L:Bs} {p:Pk} {a:Option Addr} {c:Nat} {X:Chk} (hp:PkOk p) (hL:L.length≤100000000000) (hr:0≤restP p) (hX:∀ w,Below wb.heap.size wb w→X.is w→CellsA w a (subCells p.subs)):Spec Tryz.prog wb 114 #[v,.agg (pkV p a c)] [] [OW v L,X] (fun y:Value=>y) (fun _=>[]) (fun y=>[OW y (L++restB p),X]):=by
  have hty:=hp.ty;have hid:=hp.id;have hcd:=hp.code;obtain ⟨R,hR⟩:∃ R,restB p=R:=⟨_,rfl⟩
  rw [hR];unfold restB at hR;intro w H;refine en_call Tryz.func114 H ?_;refine en1 E0 [.x,.c,.c,.b 0 0] fun Q=>?_
  by_cases h1:p.ty=1
  · rw [if_pos h1] at hR
    subst hR;refine en (EF [(.bool ((((p.ty:Int)):Int) == 1),.bool true)] ⟨eqI (by omega),trivial⟩) [.f 0,.c,.c,.b 0 0] ?_;refine en_spec (connectS (v:=v) (L:=L) (p:=p) (a:=a) (c:=c) hp hL (con_parts h1 hr).1) [] [0] [] (fun v1=>?_);refine en E0 [.c] ?_;exact en_rets v1 [] [0,0] []
  rw [if_neg h1] at hR;refine en (EF [(.bool ((((p.ty:Int)):Int) == 1),.bool false)] ⟨eqI' (by omega),trivial⟩) [.f 0,.c] ?_;by_cases h2:p.ty=2
  · rw [if_pos h2] at hR
    subst hR;have hbl:bitN p.present 1 < 256:=by unfold bitN;split <;> omega
    refine en (EK [(.bool ((((p.ty:Int)):Int) == 2),.bool true)] ⟨eqI (by omega),trivial⟩ [⟨139,#[.bool p.present,.int .u64 0],.int .u8 ((bitN p.present 1:Nat):Int),[],[]⟩] ⟨fun _ w1 _ _=>by have h:=write_bit p.present 0 1 (by omega) w1;rw [← u8V_bit] at h;exact h.mono (fun e w' h=>⟨h.1,h.2 ▸ Below.refl _ _⟩),trivial⟩) [.f 0,.c,.g [(0,20,1),(0,21,1)] 1000 false,.d [(0,.c),(1,.c),(2,.l 0 0),(4,.c),(5,.l 1 0)],.k 0] ?_;refine en_ops (ops_mk2 22 (bitN p.present 1) p.code) [] [] [(0,20,1),(0,21,1)] (fun b=>?_);refine en_ops (ops_ow2 22 (v:=v) (L:=L) (b:=b) (bitN p.present 1) p.code hbl hcd (by omega)) [] [1,0] [(0,20,1),(0,21,1)] (fun v2=>?_);refine en E0 [.d (eN 8 [.c])] ?_;exact en_rets v2 [] [0,1] []
  rw [if_neg h2] at hR;obtain ⟨ht3,hsb,hfl⟩:=body_parts hp hr h1 h2;have hcs:=hp.codes;have hfew:=hp.few;have hpl:=hp.payload;have htp:=hp.topic;have hdl:=fun s=>dataB_len s
  unfold otherB at hR;refine en (EF [(.bool ((((p.ty:Int)):Int) == 2),.bool false)] ⟨eqI' (by omega),trivial⟩) [.f 0,.c] ?_;refine en_meetP (codeOf Tryz.f114) [1,0] [] (α:=Value) 2 (fun y=>[(0,y),(3,.pointer (some ⟨Q,0,none⟩))]) (fun y=>[⟨Q,(pkV p a c).toList,33⟩]) (fun y=>many [OW y (L++(if p.ty=3 then dataB p.topic else [])),X]) ?_ ?_
  · intro JT HJT
    by_cases h3:p.ty=3
    · refine en (EF [(.bool ((((p.ty:Int)):Int) == 3),.bool true)] ⟨eqI (by omega),trivial⟩) (.f 0::eC 3 [.b 0 5]) ?_
      refine en_spec (fieldS (v:=v) (L:=L) p.topic (ht3 h3) (by omega)) [] [0] [] (fun v1=>?_);refine en_word 0 (OW v1 (L++dataB p.topic)) (OW v1 (L++(if p.ty=3 then dataB p.topic else []))) (by rw [if_pos h3]) ?_;refine en E0 [.c] ?_;exact en_stopI (fun a w F HK=>HJT v1 a w F HK)
    · refine en_word 0 (OW v L) (OW v (L++(if p.ty=3 then dataB p.topic else []))) (by rw [if_neg h3,List.append_nil]) ?_
      refine en (EF [(.bool ((((p.ty:Int)):Int) == 3),.bool false)] ⟨eqI' (by omega),trivial⟩) [.f 0,.c] ?_;exact en_stopI (fun a w F HK=>HJT v a w F HK)
  intro v1;obtain ⟨M,hM⟩:∃ M,L++(if p.ty=3 then dataB p.topic else [])=M:=⟨_,rfl⟩
  have hMl:M.length≤100000070000:=by
    rw [← hM];split
    · rename_i h3;have h:=ht3 h3;simp [hdl];omega
    · simp;omega
  rw [hM];refine en E0 [.c,.b 0 4] ?_;refine en_meetP (codeOf Tryz.f114) [1,1,0] [] (α:=Value) 1 (fun y=>[(0,y),(3,.pointer (some ⟨Q,0,none⟩))]) (fun y=>[⟨Q,(pkV p a c).toList,33⟩]) (fun y=>many [OW y (M++(if p.id=0 then [] else wordB p.id)),X]) ?_ ?_
  · intro JI HJI
    by_cases hi:p.id=0
    · refine en_word 0 (OW v1 M) (OW v1 (M++(if p.id=0 then [] else wordB p.id))) (by rw [if_pos hi,List.append_nil]) ?_
      refine en (EF [(.bool (decide ((((p.id:Int)):Int) > 0)),.bool false)] ⟨dcF (by omega),trivial⟩) [.f 0] ?_;exact en_stopI (fun a w F HK=>HJI v1 a w F HK)
    · refine en (EF [(.bool (decide ((((p.id:Int)):Int) > 0)),.bool true)] ⟨dcT (by omega),trivial⟩) [.f 0,.c,.c,.b 0 4] ?_
      refine en_spec (wordS8 (v:=v1) (L:=M) p.id (by omega) (by omega)) [] [0] [] (fun v2=>?_);refine en_word 0 (OW v2 (M++wordB p.id)) (OW v2 (M++(if p.id=0 then [] else wordB p.id))) (by rw [if_neg hi]) ?_;refine en E0 [.c] ?_;exact en_stopI (fun a w F HK=>HJI v2 a w F HK)
  intro v2;obtain ⟨N,hN⟩:∃ N,M++(if p.id=0 then [] else wordB p.id)=N:=⟨_,rfl⟩
  have hNl:N.length≤100000070002:=by
    rw [← hN];split
    · simp;omega
    · simp [wordB];omega
  rw [hN];obtain ⟨S,hS⟩:∃ S,p.subs=S:=⟨_,rfl⟩
  obtain ⟨t,ht⟩:∃ t,p.ty=t:=⟨_,rfl⟩
  refine en E0 [.c,.b 0 22,.c,.c] ?_;refine en_word 0 (OW v2 N) (OW v2 (N++(p.subs.take 0).flatMap (subB p.ty))) (by simp) ?_;refine en_loopP (codeOf Tryz.f114) [1,1,1,0,1,0] [1,1,1,0,1,0,0] [] (α:={y:Nat × Value // y.1≤p.subs.length}) (fun y=>p.subs.length - y.1.1) (fun y=>[(0,y.1.2),(3,.pointer (some ⟨Q,0,none⟩)),(38,.slice a p.subs.length c),(39,.int .i64 (p.subs.length:Int)),(40,.int .i64 (y.1.1:Int))]) (fun y=>[⟨Q,(pkV p a c).toList,33⟩]) (fun y=>many [OW y.1.2 (N++(p.subs.take y.1.1).flatMap (subB p.ty)),X]) ⟨(0,v2),Nat.zero_le _⟩ (by kernel_rfl) ?_;intro ⟨⟨k,v3⟩,hk0⟩ J HJ;simp only at HJ hk0
  by_cases hk:k < p.subs.length
  · obtain ⟨x,hx⟩:∃ x,p.subs[k]? = some x:=⟨_,List.getElem?_eq_getElem hk⟩
    obtain ⟨hx1,hx2⟩:=hsb x (List.mem_of_getElem? hx);have hft:=flat_take p.ty p.subs k;have hsn:=flat_snoc p.ty p.subs k x hx;refine en_factK (p:=∃ ga oa,a=some ⟨ga,oa,none⟩) (fun w h=>by obtain ⟨b,o,h1,_⟩:=sub_atW (hX w h.hp.low (is_at h.hp.is 1 (c:=X) rfl)) hx;exact ⟨b,o,h1⟩) ?_;rintro ⟨ga,oa,rfl⟩;have HR:∀ w,Below wb.heap.size wb w→X.is w→w.rangeAt ga (oa+k * 2) [.string x.1,.int .u8 (x.2:Int)]:=fun w h1 h2=>by
      obtain ⟨g',o',h3,h4⟩:=sub_atW (hX w h1 h2) hx;injection h3 with h3
      injection h3 with h3 h5
      subst h3 h5;exact h4
    refine en1 ⟨⟨[⟨ga,oa+k * 2,[.string x.1,.int .u8 (x.2:Int)]⟩],[]⟩,[(.bool (decide ((((k:Int)):Int) < (p.subs.length:Int))),.bool true)],[⟨some ⟨ga,oa,none⟩,p.subs.length,c,.i64,k,2,⟨ga,oa+k * 2,none⟩⟩],[],fun _ _ h=>⟨⟨HR _ h.hp.low (is_at h.hp.is 1 (c:=X) rfl),trivial⟩,trivial⟩,⟨dcT (by omega),trivial⟩,⟨⟨ga,oa,k,rfl,rfl,hk,rfl⟩,trivial⟩,trivial⟩ [.f 0,.i 0,.l 0 0,.n,.s 1 0,.c,.c,.b 1 0] fun Y=>?_
    refine en_spec (fieldS (v:=v3) (L:=(N++(p.subs.take k).flatMap (subB p.ty))) x.1 hx1 (by rw [List.length_append];omega)) [] [0] [] (fun v4=>?_);refine en E0 [.c,.c,.b 0 0] ?_;by_cases e8:p.ty=8
    · refine en (EF [(.bool ((((p.ty:Int)):Int) == 8),.bool true)] ⟨eqI (by omega),trivial⟩) [.f 0,.c,.c,.b 1 1] ?_
      refine en_ops (ops_mk1 22 x.2) [] [] [] (fun b=>?_);refine en_ops (ops_ow1 22 (v:=v4) (L:=((N++(p.subs.take k).flatMap (subB p.ty))++dataB x.1)) (b:=b) x.2 (by omega) (by simp only [List.length_append,hdl];omega)) [] [1,0] [] (fun v5=>?_);refine en_word 0 (OW v5 (((N++(p.subs.take k).flatMap (subB p.ty))++dataB x.1)++[byteN x.2])) (OW v5 (N++(p.subs.take (k+1)).flatMap (subB p.ty))) (by rw [hsn];unfold subB;rw [if_pos e8];simp [List.append_assoc]) ?_;refine en (EF [(.int .i64 (IntKind.i64.wrap ((k:Int)+1)),.int .i64 ((k+1:Nat):Int))] ⟨addI (by omega),trivial⟩) [.c,.f 0,.c] ?_;refine en_drop [0] [0,1] ?_;exact en_stopI (fun a w F HK=>HJ ⟨(k+1,v5),by simp only;omega⟩ a w (by show _ - (k+1) < _ - k;omega) F HK)
    · refine en_word 0 (OW v4 ((N++(p.subs.take k).flatMap (subB p.ty))++dataB x.1)) (OW v4 (N++(p.subs.take (k+1)).flatMap (subB p.ty))) (by rw [hsn];unfold subB;rw [if_neg e8];simp [List.append_assoc]) ?_
      refine en (EF [(.bool ((((p.ty:Int)):Int) == 8),.bool false),(.int .i64 (IntKind.i64.wrap ((k:Int)+1)),.int .i64 ((k+1:Nat):Int))] ⟨eqI' (by omega),addI (by omega),trivial⟩) [.f 0,.f 1,.c] ?_;refine en_drop [0] [0,0] ?_;exact en_stopI (fun a w F HK=>HJ ⟨(k+1,v4),by simp only;omega⟩ a w (by show _ - (k+1) < _ - k;omega) F HK)
  have e1:p.subs.take k=p.subs:=List.take_of_length_le (by omega);obtain ⟨F,hF⟩:∃ F,N++p.subs.flatMap (subB p.ty)=F:=⟨_,rfl⟩
  have hFl:F.length≤100500000000:=by rw [← hF,List.length_append];omega
  rw [e1,hF];refine en (EF [(.bool (decide ((((k:Int)):Int) < (p.subs.length:Int))),.bool false)] ⟨dcF (by omega),trivial⟩) [.f 0,.c,.c,.b 0 23] ?_;refine en_ops (ops_ow 22 (v:=v3) (L:=F) p.codes (by omega)) [] [0] [] (fun v4=>?_);refine en E0 (eC 3 [.b 0 6]) ?_;refine en_ops (ops_ow 22 (v:=v4) (L:=(F++bl p.codes)) p.payload (by rw [List.length_append,blen];omega)) [] [0] [] (fun v5=>?_);refine en_word 0 (OW v5 ((F++bl p.codes)++bl p.payload)) (OW v5 (L++R)) (by rw [← hR,← hF,← hN,← hM];simp [List.append_assoc]) ?_;refine en E0 [.c] ?_;exact en_rets v5 [] [0,0] []
end Go.Proofs.YtehpihmgjbmoaaaGreatDoor
namespace Go.Proofs.YtehpihmgjbmoaaaGreatDoor
open Go.RowKit
attribute [local irreducible] Ok
def allS (T:List PkE):ByteArray:=if okAll T then bB (encAll T) else ⟨#[]⟩
def allE (T:List PkE):Int:=if okAll T then 0 else 4
def encS (p:Pk):ByteArray:=if restP p < 0 then ⟨#[]⟩ else bB (encB p)
def encE (p:Pk):Int:=if restP p < 0 then 4 else 0
theorem one_S (p:Pk) (a:Option Addr) (c:Nat):allS [(p,a,c)]=encS p∧allE [(p,a,c)]=encE p:=by
  unfold allS allE encS encE okAll;by_cases h:restP p < 0
  · have:decide (0≤restP p)=false:=by rw [decide_eq_false_iff_not];omega
    simp [h,this]
  · have h2:0≤restP p:=by omega
    simp [h,h2,encAll]
theorem PkIn.below {w w':World} {x:PkE} (h:PkIn w x) (k:Below w.heap.size w w'):PkIn w' x:=⟨h.ok,h.row.below k⟩
theorem okAll_snoc {T:List PkE} (h:∀ x ∈ T,0≤restP x.1):okAll T=true:=List.all_eq_true.2 fun x hx=>by simpa using h x hx
theorem okAll_bad {T:List PkE} {x:PkE} (hx:x ∈ T) (h:restP x.1 < 0):okAll T=false:=by
  cases e:okAll T with
  | false=>rfl
  | true =>
    have h2:=List.all_eq_true.1 e x hx;simp at h2
    omega
theorem take_good {T:List PkE} {k:Nat} {x:PkE} (h:∀ y ∈ T.take k,0≤restP y.1) (hx:T[k]? = some x) (h0:0≤restP x.1):∀ y ∈ T.take (k+1),0≤restP y.1:=fun y hy=>by
  rw [List.take_add_one,hx] at hy;rcases List.mem_append.1 hy with hy | hy
  · exact h y hy
  · rw [show y=x by simpa using hy]
    exact h0
set_option maxRecDepth 100000 in
set_option maxHeartbeats 4000000 in
theorem allWS {wb:World} {al:Option Addr} {cl:Nat} {T:List PkE} {X:Chk} (hX:∀ w,Below wb.heap.size wb w→X.is w→CellsA w al (pkCells T)∧∀ x ∈ T,PkIn w x) (hok:∀ x ∈ T,PkOk x.1) (hn:T.length≤300):Spec Tryz.prog wb 93 #[.slice al T.length cl] [] [X] (fun _:Unit=>.tuple #[.string (allS T),.int .i64 (allE T)]) (fun _=>[]) (fun _=>[X]):=by
  obtain ⟨zs,hzs⟩:∃ z,allS T=z:=⟨_,rfl⟩
  obtain ⟨ze,hze⟩:∃ z,allE T=z:=⟨_,rfl⟩
  rw [hzs,hze];unfold allS at hzs;unfold allE at hze;intro w H;refine en_call Tryz.func93 H ?_;refine en E0 (eC 6 []) ?_;refine en_loopP (codeOf Tryz.f93) [1,1,0,1,0] [1,1,0,1,0,0] [] (α:={y:Nat × Nat // y.1≤T.length∧(∀ z ∈ T.take y.1,0≤restP z.1)∧sumS (T.take y.1)=y.2∧y.2≤y.1 * 300000000}) (fun y=>T.length - y.1.1) (fun y=>[(0,.slice al T.length cl),(13,.slice al T.length cl),(14,.int .i64 (T.length:Int)),(15,.int .i64 (y.1.1:Int)),(4,.int .i64 (y.1.2:Int))]) (fun y=>[]) (fun y=>many [X]) ⟨(0,0),Nat.zero_le _,fun y hy=>(by cases hy),rfl,Nat.zero_le _⟩ (by kernel_rfl) ?_;intro ⟨⟨k,sz⟩,hk0,hgd,hsz,hsm⟩ J HJ;simp only at HJ hk0 hgd hsz hsm
  by_cases hk:k < T.length
  · obtain ⟨q,hq⟩:∃ q,T[k]? = some q:=⟨_,List.getElem?_eq_getElem hk⟩
    obtain ⟨p,a,c⟩:=q;have hqm:=List.mem_of_getElem? hq;have hpk:PkOk p:=hok _ hqm;have hmx:=restP_max p;refine en_factK (p:=∃ ga oa,al=some ⟨ga,oa,none⟩) (fun w h=>by obtain ⟨b,o,h1,_⟩:=pk_range (hX w h.hp.low (is_at h.hp.is 0 (c:=X) rfl)).1 hq;exact ⟨b,o,h1⟩) ?_;rintro ⟨ga,oa,rfl⟩;have HR:∀ w,Below wb.heap.size wb w→X.is w→w.rangeAt ga (oa+k * 24) (pkC (p,a,c)):=fun w h1 h2=>by
      obtain ⟨g',o',h3,h4,_⟩:=pk_range (hX w h1 h2).1 hq;injection h3 with h3
      injection h3 with h3 h5
      subst h3 h5;exact h4
    have HS:∀ w,Below wb.heap.size wb w→X.is w→CellsA w a (subCells p.subs):=fun w h1 h2=>((hX w h1 h2).2 _ hqm).row
    have hsp:=size_pos p;have hsl:sizeN p≤300000000:=by unfold sizeN;have:=lenS_le (restP p).toNat;split <;> omega
    have hss:=sumS_snoc T k _ hq;simp only at hss
    by_cases h0:restP p < 0
    · have hb:=okAll_bad hqm h0
      rw [hb] at hzs hze;subst hzs hze;refine en1 ⟨⟨[⟨ga,oa+k * 24,pkC (p,a,c)⟩],[]⟩,[(.bool (decide ((((k:Int)):Int) < (T.length:Int))),.bool true),(.bool (((((sizeN p:Nat):Int)):Int) == 0),.bool true)],[⟨some ⟨ga,oa,none⟩,T.length,cl,.i64,k,24,⟨ga,oa+k * 24,none⟩⟩],[⟨111,#[.agg (pkV p a c)],.int .i64 ((sizeN p:Nat):Int),[],[]⟩],fun _ _ h=>⟨⟨HR _ h.hp.low (is_at h.hp.is 0 (c:=X) rfl),trivial⟩,trivial⟩,⟨dcT (by omega),eqI (hsp.2 h0),trivial⟩,⟨⟨ga,oa,k,rfl,rfl,hk,rfl⟩,trivial⟩,⟨fun _ w1 h _=>write_Size p a c w1 h.hp.env hpk (HS w1 h.hp.low (is_at h.hp.is 0 (c:=X) rfl)),trivial⟩⟩ [.f 0,.i 0,.l 0 0,.n,.s 0 0,.b 0 0,.k 0,.c,.c,.f 1,.c,.c] fun P=>?_
      exact en_rets () [] [0] []
    refine en1 ⟨⟨[⟨ga,oa+k * 24,pkC (p,a,c)⟩],[]⟩,[(.bool (decide ((((k:Int)):Int) < (T.length:Int))),.bool true),(.bool (((((sizeN p:Nat):Int)):Int) == 0),.bool false),(.int .i64 (IntKind.i64.wrap ((sz:Int)+((sizeN p:Nat):Int))),.int .i64 ((sz+sizeN p:Nat):Int)),(.int .i64 (IntKind.i64.wrap ((k:Int)+1)),.int .i64 ((k+1:Nat):Int))],[⟨some ⟨ga,oa,none⟩,T.length,cl,.i64,k,24,⟨ga,oa+k * 24,none⟩⟩],[⟨111,#[.agg (pkV p a c)],.int .i64 ((sizeN p:Nat):Int),[],[]⟩],fun _ _ h=>⟨⟨HR _ h.hp.low (is_at h.hp.is 0 (c:=X) rfl),trivial⟩,trivial⟩,⟨dcT (by omega),eqI' (fun e=>h0 (hsp.1 e)),wrR (by omega) (by omega) (by omega),addI (by omega),trivial⟩,⟨⟨ga,oa,k,rfl,rfl,hk,rfl⟩,trivial⟩,⟨fun _ w1 h _=>write_Size p a c w1 h.hp.env hpk (HS w1 h.hp.low (is_at h.hp.is 0 (c:=X) rfl)),trivial⟩⟩ [.f 0,.i 0,.l 0 0,.n,.s 0 0,.b 0 0,.k 0,.c,.c,.f 1,.c,.c,.f 2,.c,.f 3,.c] fun P=>?_
    refine en_drop [] [0] ?_;exact en_stopI (fun a w F HK=>HJ ⟨(k+1,sz+sizeN p),by simp only;omega,take_good hgd hq (by simp only;omega),by simp only;omega,by simp only;omega⟩ a w (by show _ - (k+1) < _ - k;omega) F HK)
  have e1:T.take k=T:=List.take_of_length_le (by omega);have hszl:sz≤90000000000:=by omega
  rw [e1] at hgd;rw [okAll_snoc hgd] at hzs hze;have hle:=fun k=>encAll_le (T.take k) (fun x hx=>⟨hok x (List.mem_of_mem_take hx),hgd x (List.mem_of_mem_take hx)⟩)
  refine en (EF [(.bool (decide ((((k:Int)):Int) < (T.length:Int))),.bool false)] ⟨dcF (by omega),trivial⟩) [.f 0,.c] ?_;refine en_ops (ops_mk8 22 sz (by omega)) [] [] [] (fun b=>?_);refine en E0 (eC 4 []) ?_;refine en_drop [] [0,0] ?_;refine en_loopP (codeOf Tryz.f93) [1,1,1,1,0,1,0] [1,1,1,1,0,1,0,0] [] (α:={y:Nat × Value // y.1≤T.length}) (fun y=>T.length - y.1.1) (fun y=>[(8,y.1.2),(29,.slice al T.length cl),(30,.int .i64 (T.length:Int)),(31,.int .i64 (y.1.1:Int))]) (fun y=>[]) (fun y=>many [OW y.1.2 (encAll (T.take y.1.1)),X]) ⟨(0,.slice (some ⟨b,0,none⟩) 0 sz),Nat.zero_le _⟩ (by kernel_rfl) ?_;intro ⟨⟨k,v⟩,hk0⟩ J2 HJ2;simp only at HJ2 hk0
  by_cases hk:k < T.length
  · obtain ⟨q,hq⟩:∃ q,T[k]? = some q:=⟨_,List.getElem?_eq_getElem hk⟩
    obtain ⟨p,a,c⟩:=q;have hqm:=List.mem_of_getElem? hq;have hpk:PkOk p:=hok _ hqm;have hmx:=restP_max p;refine en_factK (p:=∃ ga oa,al=some ⟨ga,oa,none⟩) (fun w h=>by obtain ⟨b,o,h1,_⟩:=pk_range (hX w h.hp.low (is_at h.hp.is 1 (c:=X) rfl)).1 hq;exact ⟨b,o,h1⟩) ?_;rintro ⟨ga,oa,rfl⟩;have HR:∀ w,Below wb.heap.size wb w→X.is w→w.rangeAt ga (oa+k * 24) (pkC (p,a,c)):=fun w h1 h2=>by
      obtain ⟨g',o',h3,h4,_⟩:=pk_range (hX w h1 h2).1 hq;injection h3 with h3
      injection h3 with h3 h5
      subst h3 h5;exact h4
    have HS:∀ w,Below wb.heap.size wb w→X.is w→CellsA w a (subCells p.subs):=fun w h1 h2=>((hX w h1 h2).2 _ hqm).row
    have h0:0≤restP p:=hgd _ hqm;obtain ⟨n,hrn⟩:∃ n:Nat,restP p=(n:Int):=⟨(restP p).toNat,by omega⟩
    have htys:=rest_types h0;have hq2:p.ty=3→p.qos≤2:=fun h3=>(pub_parts h3 h0).2.1
    have hfl:=flags_lt p hq2;have hfb:=first_bits p.ty (by omega) (flagsN p) hfl;have hlk:=hle k;rw [List.length_take] at hlk;have hln:=lenB_len n (by omega);have hl4:=lenS_le n;have hsn:=encAll_snoc T k _ hq;simp only at hsn
    have hrt:(restP p).toNat=n:=by omega
    refine en1 ⟨⟨[⟨ga,oa+k * 24,pkC (p,a,c)⟩],[]⟩,[(.bool (decide ((((k:Int)):Int) < (T.length:Int))),.bool true)],[⟨some ⟨ga,oa,none⟩,T.length,cl,.i64,k,24,⟨ga,oa+k * 24,none⟩⟩],[⟨100,#[.agg (pkV p a c)],.int .i64 (n:Int),[],[]⟩,⟨112,#[.int .i64 (n:Int)],.tuple #[.string (bB (lenB n)),.int .i64 0],[],[]⟩],fun _ _ h=>⟨⟨HR _ h.hp.low (is_at h.hp.is 1 (c:=X) rfl),trivial⟩,trivial⟩,⟨dcT (by omega),trivial⟩,⟨⟨ga,oa,k,rfl,rfl,hk,rfl⟩,trivial⟩,⟨fun _ w1 h _=>hrn ▸ packet_Rest p a c w1 h.hp.env hpk (HS w1 h.hp.low (is_at h.hp.is 1 (c:=X) rfl)),fun _ w1 _ _=>num_Len n (by omega) w1,trivial⟩⟩ (.f 0::.i 0::.l 0 0::.n::.s 0 0::.b 0 0::.k 0::.k 1::eC 5 [.g [(0,0,1),(0,0,24)] 1000 false,.d (eN 0 [.c,.c,.l 0 0,.c,.l 1 0])]) fun P=>?_
    refine en_spec0 (flagsS (p:=p) (a:=a) (c:=c) hq2) [] [] [(0,0,1),(0,0,24)] ?_;refine en (EF [(.int .u8 (bits BinOp.or IntKind.u8 (IntKind.u8.wrap ((p.ty:Int) * 16)) (flagsN p:Int)),.int .u8 ((16 * p.ty+flagsN p:Nat):Int))] ⟨congrArg (Value.int .u8) hfb,trivial⟩) [.d (eN 6 [.f 0])] ?_;refine en_ops (ops_mk1 22 (16 * p.ty+flagsN p)) [] [] [(0,0,1),(0,0,24)] (fun d=>?_);refine en_ops (ops_ow1 22 (v:=v) (L:=(encAll (T.take k))) (b:=d) (16 * p.ty+flagsN p) (by omega) (by omega)) [] [1,0] [(0,0,1),(0,0,24)] (fun v1=>?_);refine en E0 [.d (eN 9 [.c]),.c,.c] ?_;refine en_ops (ops_ow 22 (v:=v1) (L:=((encAll (T.take k))++[byteN (16 * p.ty+flagsN p)])) (bB (lenB n)) (by simp only [List.length_append,List.length_singleton,bB_size];omega)) [] [0] [] (fun v2=>?_);refine en E0 [.c,.c,.b 0 0] ?_;refine en_spec (restS8 (v:=v2) (L:=(((encAll (T.take k))++[byteN (16 * p.ty+flagsN p)])++lenB n)) (p:=p) (a:=a) (c:=c) (X:=X) hpk (by simp only [List.length_append,List.length_singleton];omega) h0 HS) [] [0,1] [] (fun v3=>?_);refine en_word 0 (OW v3 ((((encAll (T.take k))++[byteN (16 * p.ty+flagsN p)])++lenB n)++restB p)) (OW v3 (encAll (T.take (k+1)))) (by rw [hsn];unfold encB;rw [hrt];simp [List.append_assoc]) ?_;refine en (EF [(.int .i64 (IntKind.i64.wrap ((k:Int)+1)),.int .i64 ((k+1:Nat):Int))] ⟨addI (by omega),trivial⟩) [.c,.f 0,.c] ?_;refine en_drop [] [0,0] ?_;exact en_stopI (fun a w F HK=>HJ2 ⟨(k+1,v3),by simp only;omega⟩ a w (by show _ - (k+1) < _ - k;omega) F HK)
  have e2:T.take k=T:=List.take_of_length_le (by omega);refine en_word 0 (OW v (encAll (T.take k))) (OW v (encAll T)) (by rw [e2]) ?_;refine en_factK (p:=∃ a c,v=.slice a (encAll T).length c) (fun w h=>by obtain ⟨a,c,h1,_⟩:=own_form (show (rowO 5 1 v (encAll T).length (u8V (encAll T))).is w from is_at h.hp.is 0 (c:=OW v (encAll T)) rfl);exact ⟨a,c,h1⟩) ?_;rintro ⟨av,cv,rfl⟩;subst hzs hze;refine en ⟨⟨[],[(cvT (.slice av (encAll T).length cv) 9,.string (bB (encAll T)))]⟩,[(.bool (decide ((((k:Int)):Int) < (T.length:Int))),.bool false)],[],[],fun _ _ h=>⟨trivial,⟨cv_run rfl (own_cells (show World.ownsRow _ 0 5 1 (.slice av (encAll T).length cv) (encAll T).length (u8V (encAll T)) from is_at h.hp.is 0 (c:=OW (.slice av (encAll T).length cv) (encAll T)) rfl)) 9,trivial⟩⟩,⟨dcF (by omega),trivial⟩,trivial,trivial⟩ [.f 0,.c,.r 0,.c,.c] ?_;exact en_rets () [] [1] []
set_option maxRecDepth 100000 in
set_option maxHeartbeats 4000000 in
theorem encodeS {wb:World} {p:Pk} {a:Option Addr} {c:Nat} (hp:PkOk p) (hX:∀ w,Below wb.heap.size wb w→CellsA w a (subCells p.subs)):Spec Tryz.prog wb 77 #[.agg (pkV p a c)] [] [] (fun _:Unit=>.tuple #[.string (encS p),.int .i64 (encE p)]) (fun _=>[]) (fun _=>[]):=by
  obtain ⟨i0,hi,hz0,hz1,hz2⟩:=info_parts infoPkR;intro w H;refine en_call Tryz.func77 H ?_;refine en1 E0 [.x,.c,.c,.b 0 0] fun Q=>?_
  refine en_ops (ops_one 36 33 36 (.agg (pkV p a c)) (pkV p a c) rfl i0 _ hz1.symm Tryz.underlying36 hi hz0 (by rw [hz1];decide) (by rw [hz1];decide) (by rw [hz1];kernel_rfl) (by rw [hz1];rfl)) [] [] [] (fun b=>?_);have HA:=allWS (wb:=wb) (al:=some ⟨b,0,none⟩) (cl:=1) (T:=[(p,a,c)]) (X:=rowO 33 24 (.slice (some ⟨b,0,none⟩) 1 1) 1 (pkV p a c).toList) (fun w1 h1 h2=>⟨by unfold pkCells;rw [List.flatMap_cons,List.flatMap_nil,List.append_nil];exact own_cells (show w1.ownsRow 0 33 24 _ 1 (pkC (p,a,c)) from h2),fun x hx=>by rw [List.mem_singleton] at hx;subst hx;exact ⟨hp,hX w1 h1⟩⟩) (fun x hx=>by rw [List.mem_singleton] at hx;subst hx;exact hp) (show 1≤300 by decide);rw [(one_S p a c).1,(one_S p a c).2] at HA;refine en_spec0 (HA) [] [0] [] ?_;refine en E0 (eC 4 []) ?_;exact en_rets () [] [] []
theorem write_Encode (p:Pk) (a:Option Addr) (c:Nat) (w:World) (hE:Env w) (hp:PkOk p) (ha:CellsA w a (subCells p.subs)):Calls Tryz.prog 77 #[.agg (pkV p a c)] w fun e w'=>e=.returned (.tuple #[.string (encS p),.int .i64 (encE p)])∧Below w.heap.size w w' :=
  rdc_of hE (encodeS hp (fun _ h=>ha.below h))
theorem encS_good {p:Pk} (h:0≤restP p):encS p=bB (encB p):=by unfold encS;rw [if_neg (by omega)]
theorem encE_good {p:Pk} (h:0≤restP p):encE p=0:=by unfold encE;rw [if_neg (by omega)]
theorem encS_bad {p:Pk} (h:restP p < 0):encS p=⟨#[]⟩:=by unfold encS;rw [if_pos h]
theorem encE_bad {p:Pk} (h:restP p < 0):encE p=4:=by unfold encE;rw [if_pos h]
end Go.Proofs.YtehpihmgjbmoaaaGreatDoor
