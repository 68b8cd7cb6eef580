import Derived.Test.YtehpihmgjbmoaaaGreatDoorJoinRN
import Derived.Test.YtehpihmgjbmoaaaGreatDoorJoinRR
import Derived.Test.YtehpihmgjbmoaaaGreatDoorJoinWR
import Derived.Test.YtehpihmgjbmoaaaGreatDoorJoinPB
import Derived.Test.YtehpihmgjbmoaaaGreatDoorJoinB
namespace Go.Proofs.YtehpihmgjbmoaaaGreatDoor
open Go.RowKit
set_option maxRecDepth 100000 in
set_option maxHeartbeats 4000000 in
theorem ref04_Encode (p:Pk) (a:Option Addr) (c:Nat) (w:World) (hE:Env w) (hp:PkOk p) (ha:CellsA w a (subCells p.subs)):Calls Tryz.prog 92 #[.agg (pkV p a c)] w fun e w'=>e=.returned (.tuple #[.string (encS p),.int .i64 (encE p)])∧Below w.heap.size w w':=by
  have HK:=Lib.hid ((Keep.begin hE [(a,subCells p.subs)] (by intro r hr;simp at hr;subst hr;exact ha)).alloc' (pkV p a c) 33 w.heap.size rfl);have hR:=fun w1 hE ha=>ref03_Right p a c w1 hE hp ha
  obtain ⟨h1,h2⟩:=right_rest p hp;clear hE ha;by_cases h0:0≤restP p
  · rw [h1,decide_eq_true h0] at hR
    have HR:=Lib.hid hR;have HV:=Lib.hid (fun w1 hE ha=>ref04_Rest p a c w1 hE hp ha h0);have hmx:restP p≤268435455:=by unfold restP restOf;split <;> omega
    have hrl:=restB_len p hp h0;obtain ⟨n,hn⟩:∃ n:Nat,restP p=(n:Int):=⟨(restP p).toNat,by omega⟩
    rw [hn] at hrl;have hn2:n≤268435455:=by omega
    have hsz:(bB (restB p)).size=n:=by
      have:(bB (restB p)).size=(restB p).length:=rfl;omega
    have HL:=Lib.hid (fun w1 hE=>ref01_Len n hn2 w1 hE);have hq:p.ty=3→p.qos≤2:=fun h3=>(pub_parts h3 h0).2.1
    have hfl:=flags_lt p hq;have hty:=rest_types h0;have HF:=Lib.hid (fun w1 hE=>ref04_First p a c w1 hE hty hq);have HO:=Lib.hid (fun w1 hE=>ref04_one (16 * p.ty+flagsN p) (by omega) w1 hE);have HX:=Lib.hid (show bB [byteN (16 * p.ty+flagsN p)]++bB (lenB n)++bB (restB p)=encS p by
      rw [encS_good h0];unfold encB;rw [hn,Int.toNat_natCast,← bB_two,← bB_two];simp)
    have hl4:(bB (lenB n)).size≤4:=by
      have:(bB (lenB n)).size=(lenB n).length:=rfl;have h4:=(lenS_le n).2;rw [this,lenB_len n hn2];exact h4
    have ho1:(bB [byteN (16 * p.ty+flagsN p)]).size=1:=rfl;rw [encE_good h0];have FIN:=Lib.hid (show ∀ (s:ByteArray) (w':World),s=encS p→Below w.heap.size w w'→Ending.returned (.tuple #[.string s,.int .i64 0])=.returned (.tuple #[.string (encS p),.int .i64 0])∧Below w.heap.size w w' from by rintro s w' rfl h;exact ⟨rfl,h⟩);generalize bB [byteN (16 * p.ty+flagsN p)]=D1 at *;generalize bB (lenB n)=D2 at *;generalize bB (restB p)=D3 at *;generalize 16 * p.ty+flagsN p=x at *;have e1:¬ 9223372036854775807 < D1.size+D2.size:=by omega
    have e2:¬ 9223372036854775807 < D1.size+D2.size+D3.size:=by omega
    have hsz2:((D3.size:Nat):Int)=(n:Int):=by rw [hsz]
    clear hR hp h1 h2 h0 hmx hrl hn hq hfl hty;go_enter Tryz.func92,Tryz.ntmps92
    go_wp2_with (first
      | ((with_reducible show wpList _ _ _ (⟨_,.load 33 _,_,_,_,_⟩::_) _ _);refine wpList_load_box rfl 33 _ rfl _ rfl 33 _ (by (first | exact HK.out.at 0 rfl)) _ Tryz.underlying33 rfl (pk_size _ _ _) ?_)
      | (go_at_call 105;refine Calls.mono (HR.out _ HK.out.env (HK.out.rowAt 0 rfl)) ?_;rintro e w1 ⟨rfl,hb1⟩;replace HK:=Lib.hid (HK.out.below hb1);clear hb1)
      | (go_at_call 106;refine Calls.mono (HV.out _ HK.out.env (HK.out.rowAt 0 rfl)) ?_;rintro e w1 ⟨rfl,hb1⟩;replace HK:=Lib.hid (HK.out.below hb1);clear hb1)
      | (go_at_call 109;refine Calls.mono (HL.out _ HK.out.env) ?_;rintro e w1 ⟨rfl,hb1⟩;replace HK:=Lib.hid (HK.out.below hb1);clear hb1)
      | (go_at_call 103;refine Calls.mono (HF.out _ HK.out.env) ?_;rintro e w1 ⟨rfl,hb1⟩;replace HK:=Lib.hid (HK.out.below hb1);clear hb1)
      | (go_at_call 110;refine Calls.mono (HO.out _ HK.out.env) ?_;rintro e w1 ⟨rfl,hb1⟩;replace HK:=Lib.hid (HK.out.below hb1);clear hb1))
    go_ret2
    exact FIN.out _ _ HX.out HK.out.low
  · rw [h1,decide_eq_false h0] at hR
    rw [encS_bad (by omega),encE_bad (by omega)];have HR:=Lib.hid hR;clear hR hp h1 h2 h0;go_enter Tryz.func92,Tryz.ntmps92
    go_wp2_with (first
      | ((with_reducible show wpList _ _ _ (⟨_,.load 33 _,_,_,_,_⟩::_) _ _);refine wpList_load_box rfl 33 _ rfl _ rfl 33 _ (by (first | exact HK.out.at 0 rfl)) _ Tryz.underlying33 rfl (pk_size _ _ _) ?_)
      | (go_at_call 105;refine Calls.mono (HR.out _ HK.out.env (HK.out.rowAt 0 rfl)) ?_;rintro e w1 ⟨rfl,hb1⟩;replace HK:=Lib.hid (HK.out.below hb1);clear hb1))
    go_ret2
    exact ⟨rfl,HK.out.low⟩
end Go.Proofs.YtehpihmgjbmoaaaGreatDoor
