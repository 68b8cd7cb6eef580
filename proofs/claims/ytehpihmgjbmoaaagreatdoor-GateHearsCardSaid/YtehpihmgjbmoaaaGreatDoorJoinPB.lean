import Derived.Test.YtehpihmgjbmoaaaGreatDoorJoinZA
import Derived.Test.YtehpihmgjbmoaaaGreatDoorJoinH
import Derived.Test.YtehpihmgjbmoaaaGreatDoorJoinB
import Derived.Test.YtehpihmgjbmoaaaGreatDoorJoinC
namespace Go.Proofs.YtehpihmgjbmoaaaGreatDoor
open Go.RowKit
attribute [local irreducible] Ok
theorem only_ty (p:Pk):(onlyF p).ty=p.ty:=by unfold onlyF;(repeat' split) <;> rfl
def flT (p q:Pk) (ty:TypeId):Sem Next:=opT [.agg (flV p),.agg (flV q)] (.binOp .eql 184 (.tmp 0) (.tmp 1) 184) ty
theorem fl_run {p q:Pk} (hp:PkOk p) (hq:PkOk q) {w:World} (ty:TypeId) {b:Bool} (hb:decide (p.bare=q.bare)=b):(flT p q ty).run Tryz.prog w=.ok (.value (.bool b)) w:=by
  subst hb;have h3:=(flat_eq p q hp hq w).1;have h2:(eqGuard .eql 184 (.tmp 0) (.tmp 1) (.agg (flV p)) (.agg (flV q))).run Tryz.prog w=.ok () w:=by first | kernel_rfl | (go_simp;done)
  have e0:∀ x y:Value,known (numL 0 [x,y]) (.tmp 0)=x:=fun _ _=>rfl
  have e1:∀ x y:Value,known (numL 0 [x,y]) (.tmp 1)=y:=fun _ _=>rfl
  unfold flT opT execOp;simp only [e0,e1,Sem.run_bind,h2,h3,Result.andThen_ok,Sem.run_pure]
theorem bare_onlyF (p:Pk):(onlyF p).bare=onlyF p:=by unfold onlyF Pk.bare;(repeat' split) <;> rfl
set_option maxRecDepth 100000 in
set_option maxHeartbeats 4000000 in
theorem bareS {wb:World} {p:Pk} {a:Option Addr} {c:Nat} (hp:PkOk p):Spec Tryz.prog wb 123 #[.agg (pkV p a c)] [] [] (fun _:Unit=>.bool (bareB p)) (fun _=>[]) (fun _=>[]):=by
  have hpl:=fun q a c w1=>packet_plain q a c w1
  obtain ⟨b,hb⟩:∃ b,bareB p=b:=⟨_,rfl⟩
  rw [hb];have hty:=hp.ty;intro w H;refine en_call Tryz.func123 H ?_;by_cases hs:0 < p.subs.length∧p.ty≠8∧p.ty≠10
  · refine en1 (EF [(.bool (decide ((((p.subs.length:Int)):Int) > 0)),.bool true),(.bool ((((p.ty:Int)):Int) != 8),.bool true),(.bool ((((p.ty:Int)):Int) != 10),.bool true)] ⟨dcT (by omega),neI (by omega),neI (by omega),trivial⟩) (.x::.c::.c::.b 0 22::.c::.f 0::.c::.c::.b 0 0::.f 1::eC 3 [.b 0 0,.f 2,.c,.c]) fun X=>?_
    have e:b=false:=by
      rw [← hb];unfold bareB;cases hq:p.subs with
      | nil=>rw [hq] at hs;exact absurd hs.1 (Nat.lt_irrefl 0)
      | cons x r=>simp [hs.2.1,hs.2.2]
    subst e;exact en_rets () [] [] []
  have hb2:decide (p.bare=onlyF p)=b:=by
    rw [← hb];unfold bareB;cases hq:p.subs with
    | nil=>simp
    | cons x r =>
      rw [hq] at hs;by_cases h8:p.ty=8
      · simp [h8]
      · have h10:p.ty=10:=Decidable.byContradiction fun h=>hs ⟨by simp,h8,h⟩
        simp [h10]
  refine en1 E0 [.x,.c] fun X=>?_
  refine en_meetP (codeOf Tryz.f123) [1,0] [] (α:=Unit) 1 (fun _=>[(1,.pointer (some ⟨X,0,none⟩))]) (fun _=>[⟨X,(pkV p a c).toList,33⟩]) (fun _=>many []) ?_ ?_
  · intro JG HJG
    by_cases hl:¬ 0 < p.subs.length
    · refine en (EF [(.bool (decide ((((p.subs.length:Int)):Int) > 0)),.bool false)] ⟨dcF (by omega),trivial⟩) (.c::.b 0 22::.c::.f 0::eC 10 []) ?_
      exact en_stopI (fun a w F HK=>HJG () a w F HK)
    by_cases h8:p.ty=8
    · refine en (EF [(.bool (decide ((((p.subs.length:Int)):Int) > 0)),.bool true),(.bool ((((p.ty:Int)):Int) != 8),.bool false)] ⟨dcT (by omega),neI' (by omega),trivial⟩) (.c::.b 0 22::.c::.f 0::.c::.c::.b 0 0::.f 1::eC 6 []) ?_
      exact en_stopI (fun a w F HK=>HJG () a w F HK)
    have h10:p.ty=10:=Decidable.byContradiction fun h=>hs ⟨by omega,h8,h⟩
    refine en (EF [(.bool (decide ((((p.subs.length:Int)):Int) > 0)),.bool true),(.bool ((((p.ty:Int)):Int) != 8),.bool true),(.bool ((((p.ty:Int)):Int) != 10),.bool false)] ⟨dcT (by omega),neI (by omega),neI' (by omega),trivial⟩) (.c::.b 0 22::.c::.f 0::.c::.c::.b 0 0::.f 1::eC 3 [.b 0 0,.f 2,.c]) ?_;exact en_stopI (fun a w F HK=>HJG () a w F HK)
  intro _;obtain ⟨r,hr⟩:∃ r,onlyF p=r:=⟨_,rfl⟩
  have hrt:r.ty=p.ty:=by rw [← hr,only_ty]
  have hrk:PkOk r:=by rw [← hr];exact onlyF_ok hp
  have hrb:r.bare=r:=by rw [← hr];exact bare_onlyF p
  rw [hr] at hb2;refine en1 E0 [.n,.c,.b 0 0] fun Y=>?_
  refine en_meetP (codeOf Tryz.f123) [1,1,1,0] [] (α:=Unit) 2 (fun _=>[(1,.pointer (some ⟨X,0,none⟩)),(3,.pointer (some ⟨Y,0,none⟩))]) (fun _=>[⟨X,(pkV p a c).toList,33⟩,⟨Y,[.int .u8 0,.bool r.dup,.int .u8 (r.qos:Int),.bool r.ret,.int .u16 (r.id:Int),.string r.topic,.string r.payload,.int .u8 (r.level:Int),.bool r.clean,.int .u16 (r.keep:Int),.string r.client,.bool r.hasWill,.string r.wtopic,.string r.wpayload,.int .u8 (r.wqos:Int),.bool r.wret,.bool r.hasUser,.bool r.hasPass,.string r.user,.string r.pass,.bool r.present,.int .u8 (r.code:Int),.slice none r.subs.length 0,.string r.codes],33⟩]) (fun _=>many []) ?_ ?_
  · intro JW HJW
    by_cases h1:p.ty=1
    · have e:r={ Pk.zero with ty:=p.ty,level:=p.level,clean:=p.clean,keep:=p.keep,client:=p.client,hasWill:=p.hasWill,wtopic:=p.wtopic,wpayload:=p.wpayload,wqos:=p.wqos,wret:=p.wret,hasUser:=p.hasUser,hasPass:=p.hasPass,user:=p.user,pass:=p.pass }:=by rw [← hr];unfold onlyF;simp [h1]
      subst e;refine en (EF [(.bool ((((p.ty:Int)):Int) == 1),.bool true)] ⟨eqI (by omega),trivial⟩) [.f 0,.c,.c,.b 0 7,.c,.b 0 8,.c,.b 0 9,.c,.b 0 10,.c,.b 0 11,.c,.b 0 12,.c,.b 0 16,.c,.b 0 17,.c,.b 0 18,.c,.b 0 19,.c,.s 1 0] ?_;exact en_stopI (fun a w F HK=>HJW () a w F HK)
    refine en (EF [(.bool ((((p.ty:Int)):Int) == 1),.bool false)] ⟨eqI' (by omega),trivial⟩) [.f 0,.c] ?_;by_cases h2:p.ty=2
    · have e:r={ Pk.zero with ty:=p.ty,present:=p.present,code:=p.code }:=by rw [← hr];unfold onlyF;simp [h2]
      subst e;refine en (EF [(.bool ((((p.ty:Int)):Int) == 2),.bool true)] ⟨eqI (by omega),trivial⟩) [.f 0,.c,.c,.b 0 20,.c,.b 0 21,.c,.s 1 0] ?_;exact en_stopI (fun a w F HK=>HJW () a w F HK)
    refine en (EF [(.bool ((((p.ty:Int)):Int) == 2),.bool false)] ⟨eqI' (by omega),trivial⟩) [.f 0,.c] ?_;by_cases h3:p.ty=3
    · have e:r={ Pk.zero with ty:=p.ty,dup:=p.dup,qos:=p.qos,ret:=p.ret,id:=p.id,topic:=p.topic,payload:=p.payload }:=by rw [← hr];unfold onlyF;simp [h3]
      subst e;refine en (EF [(.bool ((((p.ty:Int)):Int) == 3),.bool true)] ⟨eqI (by omega),trivial⟩) [.f 0,.c,.c,.b 0 1,.c,.b 0 2,.c,.b 0 3,.c,.b 0 4,.c,.b 0 5,.c,.b 0 6,.c,.s 1 0] ?_;exact en_stopI (fun a w F HK=>HJW () a w F HK)
    refine en (EF [(.bool ((((p.ty:Int)):Int) == 3),.bool false)] ⟨eqI' (by omega),trivial⟩) [.f 0,.c] ?_;by_cases h9:p.ty=9
    · have e:r={ Pk.zero with ty:=p.ty,id:=p.id,codes:=p.codes }:=by rw [← hr];unfold onlyF;simp [h9]
      subst e;refine en (EF [(.bool ((((p.ty:Int)):Int) == 9),.bool true)] ⟨eqI (by omega),trivial⟩) [.f 0,.c,.c,.b 0 4,.c,.b 0 23,.c,.s 1 0] ?_;exact en_stopI (fun a w F HK=>HJW () a w F HK)
    refine en (EF [(.bool ((((p.ty:Int)):Int) == 9),.bool false)] ⟨eqI' (by omega),trivial⟩) [.f 0,.c] ?_;by_cases h12:p.ty=12
    · have e:r={ Pk.zero with ty:=p.ty }:=by rw [← hr];unfold onlyF;simp [h12]
      subst e;refine en (EF [(.bool ((((p.ty:Int)):Int) == 12),.bool true)] ⟨eqI (by omega),trivial⟩) [.f 0,.c] ?_;exact en_stopI (fun a w F HK=>HJW () a w F HK)
    refine en (EF [(.bool ((((p.ty:Int)):Int) == 12),.bool false)] ⟨eqI' (by omega),trivial⟩) [.f 0,.c] ?_;by_cases h13:p.ty=13
    · have e:r={ Pk.zero with ty:=p.ty }:=by rw [← hr];unfold onlyF;simp [h13]
      subst e;refine en (EF [(.bool ((((p.ty:Int)):Int) == 13),.bool true)] ⟨eqI (by omega),trivial⟩) [.f 0,.c] ?_;exact en_stopI (fun a w F HK=>HJW () a w F HK)
    refine en (EF [(.bool ((((p.ty:Int)):Int) == 13),.bool false)] ⟨eqI' (by omega),trivial⟩) [.f 0,.c] ?_;by_cases h14:p.ty=14
    · have e:r={ Pk.zero with ty:=p.ty }:=by rw [← hr];unfold onlyF;simp [h14]
      subst e;refine en (EF [(.bool ((((p.ty:Int)):Int) == 14),.bool true)] ⟨eqI (by omega),trivial⟩) [.f 0,.c] ?_;exact en_stopI (fun a w F HK=>HJW () a w F HK)
    have e:r={ Pk.zero with ty:=p.ty,id:=p.id }:=by rw [← hr];unfold onlyF;simp [h1,h2,h3,h9,h12,h13,h14]
    subst e;refine en (EF [(.bool ((((p.ty:Int)):Int) == 14),.bool false)] ⟨eqI' (by omega),trivial⟩) [.f 0,.c,.c,.b 0 4,.c,.s 1 0] ?_;exact en_stopI (fun a w F HK=>HJW () a w F HK)
  intro _;obtain ⟨r,rfl⟩:∃ r0:Pk,r={ r0 with ty:=p.ty }:=⟨r,by rw [← hrt]⟩
  refine en E0 [.c,.b 0 0,.c,.s 1 0] ?_;refine en ⟨⟨[],[(flT p { r with ty:=p.ty } 4,.bool b)]⟩,[],[],[⟨147,#[.agg (pkV p a c)],.agg (flV p),[],[]⟩,⟨147,#[.agg (pkV { r with ty:=p.ty } none 0)],.agg (flV { r with ty:=p.ty }),[],[]⟩],fun _ _ h=>⟨trivial,⟨fl_run hp hrk 4 (by rw [hrb];exact hb2),trivial⟩⟩,trivial,trivial,⟨fun _ w1 _ _=>hpl p a c w1,fun _ w1 _ _=>hpl { r with ty:=p.ty } none 0 w1,trivial⟩⟩ [.g [(0,0,24),(1,0,24)] 1000 true,.d [(0,.l 0 0),(2,.l 1 0)],.k 0,.k 1,.d (eN 4 [.r 0,.c])] ?_;exact en_rets () [] [] []
theorem packet_bare (p:Pk) (a:Option Addr) (c:Nat) (w:World) (hE:Env w) (hp:PkOk p):Calls Tryz.prog 123 #[.agg (pkV p a c)] w fun e w'=>e=.returned (.bool (bareB p))∧Below w.heap.size w w' :=
  rdc_of hE (bareS hp)
end Go.Proofs.YtehpihmgjbmoaaaGreatDoor
namespace Go.Proofs.YtehpihmgjbmoaaaGreatDoor
open Go.RowKit
attribute [local irreducible] Ok
set_option maxRecDepth 100000 in
set_option maxHeartbeats 4000000 in
theorem restS {wb:World} {p:Pk} {a:Option Addr} {c:Nat} (hp:PkOk p) (hX:∀ w,Below wb.heap.size wb w→CellsA w a (subCells p.subs)):Spec Tryz.prog wb 100 #[.agg (pkV p a c)] [] [] (fun _:Unit=>.int .i64 (restP p)) (fun _=>[]) (fun _=>[]):=by
  obtain ⟨z,hz⟩:∃ z,restP p=z:=⟨_,rfl⟩
  rw [hz];obtain ⟨n,hn⟩:∃ n,typeN p=n:=⟨_,rfl⟩
  unfold restP at hz;rw [hn] at hz;obtain ⟨bb,hbb⟩:∃ b,bareB p=b:=⟨_,rfl⟩
  have hB:=fun w1 hE=>packet_bare p a c w1 hE hp
  rw [hbb] at hB hz;have hty:=hp.ty;intro w H;refine en_call Tryz.func100 H ?_;refine en1 E0 (.x::eC 3 [.b 0 0]) fun X=>?_
  refine en_meetP (codeOf Tryz.f100) [1,1,0] [] (α:=Unit) 2 (fun _=>[(1,.pointer (some ⟨X,0,none⟩)),(2,.int .i64 0),(3,.int .i64 n)]) (fun _=>[⟨X,(pkV p a c).toList,33⟩]) (fun _=>many []) ?_ ?_
  · intro JW HJW
    by_cases h1:p.ty=1
    · have e:n=connectN p:=by rw [← hn];unfold typeN;simp [h1]
      subst e;refine en (EK [(.bool ((((p.ty:Int)):Int) == 1),.bool true)] ⟨eqI (by omega),trivial⟩ [⟨118,#[.agg (pkV p a c)],.int .i64 (connectN p),[],[]⟩] ⟨fun _ w1 h _=>packet_connect p a c w1 h.hp.env hp,trivial⟩) [.f 0,.c,.b 0 0,.k 0,.c] ?_;exact en_stopI (fun a w F HK=>HJW () a w F HK)
    refine en (EF [(.bool ((((p.ty:Int)):Int) == 1),.bool false)] ⟨eqI' (by omega),trivial⟩) [.f 0,.c] ?_;by_cases h2:p.ty=2
    · by_cases h5:p.code≤5
      · by_cases h0:p.code=0
        · have e:n=2:=by rw [← hn];unfold typeN connackN;simp [h1,h2,h0]
          subst e;refine en (EF [(.bool ((((p.ty:Int)):Int) == 2),.bool true),(.bool (decide ((((p.code:Int)):Int)≤5)),.bool true),(.bool ((((p.code:Int)):Int) == 0),.bool true)] ⟨eqI (by omega),dcT (by omega),eqI (by omega),trivial⟩) (.f 0::.c::.c::.b 0 21::.f 1::.c::.c::.b 0 21::.f 2::eC 7 []) ?_;exact en_stopI (fun a w F HK=>HJW () a w F HK)
        · by_cases hpr:p.present=true
          · have e:n=-1:=by rw [← hn];unfold typeN connackN;simp [h1,h2,h0,hpr]
            subst e;refine en (EF [(.bool ((((p.ty:Int)):Int) == 2),.bool true),(.bool (decide ((((p.code:Int)):Int)≤5)),.bool true),(.bool ((((p.code:Int)):Int) == 0),.bool false),(.bool (!p.present),.bool false)] ⟨eqI (by omega),dcT (by omega),eqI' (by omega),by rw [hpr];rfl,trivial⟩) [.f 0,.c,.c,.b 0 21,.f 1,.c,.c,.b 0 21,.f 2,.c,.c,.b 0 20,.f 3,.c,.c] ?_;exact en_stopI (fun a w F HK=>HJW () a w F HK)
          · have hpf:p.present=false:=by simpa using hpr
            have e:n=2:=by rw [← hn];unfold typeN connackN;simp [h1,h2,hpf];omega
            subst e;refine en (EF [(.bool ((((p.ty:Int)):Int) == 2),.bool true),(.bool (decide ((((p.code:Int)):Int)≤5)),.bool true),(.bool ((((p.code:Int)):Int) == 0),.bool false),(.bool (!p.present),.bool true)] ⟨eqI (by omega),dcT (by omega),eqI' (by omega),by rw [hpf];rfl,trivial⟩) (.f 0::.c::.c::.b 0 21::.f 1::.c::.c::.b 0 21::.f 2::.c::.c::.b 0 20::.f 3::eC 3 []) ?_;exact en_stopI (fun a w F HK=>HJW () a w F HK)
      · have e:n=-1:=by rw [← hn];unfold typeN connackN;simp [h1,h2,h5]
        subst e;refine en (EF [(.bool ((((p.ty:Int)):Int) == 2),.bool true),(.bool (decide ((((p.code:Int)):Int)≤5)),.bool false)] ⟨eqI (by omega),dcF (by omega),trivial⟩) (.f 0::.c::.c::.b 0 21::.f 1::eC 10 []) ?_;exact en_stopI (fun a w F HK=>HJW () a w F HK)
    refine en (EF [(.bool ((((p.ty:Int)):Int) == 2),.bool false)] ⟨eqI' (by omega),trivial⟩) [.f 0,.c] ?_;by_cases h3:p.ty=3
    · have e:n=publishN p:=by rw [← hn];unfold typeN;simp [h1,h2,h3]
      subst e;refine en (EK [(.bool ((((p.ty:Int)):Int) == 3),.bool true)] ⟨eqI (by omega),trivial⟩ [⟨119,#[.agg (pkV p a c)],.int .i64 (publishN p),[],[]⟩] ⟨fun _ w1 h _=>packet_publish p a c w1 h.hp.env hp,trivial⟩) [.f 0,.c,.b 0 0,.k 0,.c] ?_;exact en_stopI (fun a w F HK=>HJW () a w F HK)
    refine en (EF [(.bool ((((p.ty:Int)):Int) == 3),.bool false)] ⟨eqI' (by omega),trivial⟩) [.f 0,.c] ?_;by_cases h4:p.ty=4
    · have e:n=idN p:=by rw [← hn];unfold typeN;simp [h1,h2,h3,h4]
      subst e;refine en (EK [(.bool ((((p.ty:Int)):Int) == 4),.bool true)] ⟨eqI (by omega),trivial⟩ [⟨120,#[.agg (pkV p a c)],.int .i64 (idN p),[],[]⟩] ⟨fun _ w1 h _=>packet_id p a c w1 ,trivial⟩) [.f 0,.c,.b 0 0,.k 0,.c] ?_;exact en_stopI (fun a w F HK=>HJW () a w F HK)
    refine en (EF [(.bool ((((p.ty:Int)):Int) == 4),.bool false)] ⟨eqI' (by omega),trivial⟩) [.f 0,.c] ?_;by_cases h5:p.ty=5
    · have e:n=idN p:=by rw [← hn];unfold typeN;simp [h1,h2,h3,h4,h5]
      subst e;refine en (EK [(.bool ((((p.ty:Int)):Int) == 5),.bool true)] ⟨eqI (by omega),trivial⟩ [⟨120,#[.agg (pkV p a c)],.int .i64 (idN p),[],[]⟩] ⟨fun _ w1 h _=>packet_id p a c w1 ,trivial⟩) [.f 0,.c,.b 0 0,.k 0,.c] ?_;exact en_stopI (fun a w F HK=>HJW () a w F HK)
    refine en (EF [(.bool ((((p.ty:Int)):Int) == 5),.bool false)] ⟨eqI' (by omega),trivial⟩) [.f 0,.c] ?_;by_cases h6:p.ty=6
    · have e:n=idN p:=by rw [← hn];unfold typeN;simp [h1,h2,h3,h4,h5,h6]
      subst e;refine en (EK [(.bool ((((p.ty:Int)):Int) == 6),.bool true)] ⟨eqI (by omega),trivial⟩ [⟨120,#[.agg (pkV p a c)],.int .i64 (idN p),[],[]⟩] ⟨fun _ w1 h _=>packet_id p a c w1 ,trivial⟩) [.f 0,.c,.b 0 0,.k 0,.c] ?_;exact en_stopI (fun a w F HK=>HJW () a w F HK)
    refine en (EF [(.bool ((((p.ty:Int)):Int) == 6),.bool false)] ⟨eqI' (by omega),trivial⟩) [.f 0,.c] ?_;by_cases h7:p.ty=7
    · have e:n=idN p:=by rw [← hn];unfold typeN;simp [h1,h2,h3,h4,h5,h6,h7]
      subst e;refine en (EK [(.bool ((((p.ty:Int)):Int) == 7),.bool true)] ⟨eqI (by omega),trivial⟩ [⟨120,#[.agg (pkV p a c)],.int .i64 (idN p),[],[]⟩] ⟨fun _ w1 h _=>packet_id p a c w1 ,trivial⟩) [.f 0,.c,.b 0 0,.k 0,.c] ?_;exact en_stopI (fun a w F HK=>HJW () a w F HK)
    refine en (EF [(.bool ((((p.ty:Int)):Int) == 7),.bool false)] ⟨eqI' (by omega),trivial⟩) [.f 0,.c] ?_;by_cases h11:p.ty=11
    · have e:n=idN p:=by rw [← hn];unfold typeN;simp [h1,h2,h3,h4,h5,h6,h7,h11]
      subst e;refine en (EK [(.bool ((((p.ty:Int)):Int) == 11),.bool true)] ⟨eqI (by omega),trivial⟩ [⟨120,#[.agg (pkV p a c)],.int .i64 (idN p),[],[]⟩] ⟨fun _ w1 h _=>packet_id p a c w1 ,trivial⟩) [.f 0,.c,.b 0 0,.k 0,.c] ?_;exact en_stopI (fun a w F HK=>HJW () a w F HK)
    refine en (EF [(.bool ((((p.ty:Int)):Int) == 11),.bool false)] ⟨eqI' (by omega),trivial⟩) [.f 0,.c] ?_;by_cases h8:p.ty=8
    · have e:n=subsN p:=by rw [← hn];unfold typeN;simp [h1,h2,h3,h4,h5,h6,h7,h11,h8]
      subst e;refine en (EK [(.bool ((((p.ty:Int)):Int) == 8),.bool true)] ⟨eqI (by omega),trivial⟩ [⟨121,#[.agg (pkV p a c)],.int .i64 (subsN p),[],[]⟩] ⟨fun _ w1 h _=>packet_subs p a c w1 h.hp.env hp (hX w1 h.hp.low),trivial⟩) [.f 0,.c,.b 0 0,.k 0,.c] ?_;exact en_stopI (fun a w F HK=>HJW () a w F HK)
    refine en (EF [(.bool ((((p.ty:Int)):Int) == 8),.bool false)] ⟨eqI' (by omega),trivial⟩) [.f 0,.c] ?_;by_cases h10:p.ty=10
    · have e:n=subsN p:=by rw [← hn];unfold typeN;simp [h1,h2,h3,h4,h5,h6,h7,h11,h8,h10]
      subst e;refine en (EK [(.bool ((((p.ty:Int)):Int) == 10),.bool true)] ⟨eqI (by omega),trivial⟩ [⟨121,#[.agg (pkV p a c)],.int .i64 (subsN p),[],[]⟩] ⟨fun _ w1 h _=>packet_subs p a c w1 h.hp.env hp (hX w1 h.hp.low),trivial⟩) [.f 0,.c,.b 0 0,.k 0,.c] ?_;exact en_stopI (fun a w F HK=>HJW () a w F HK)
    refine en (EF [(.bool ((((p.ty:Int)):Int) == 10),.bool false)] ⟨eqI' (by omega),trivial⟩) [.f 0,.c] ?_;by_cases h9:p.ty=9
    · have e:n=codesN p:=by rw [← hn];unfold typeN;simp [h1,h2,h3,h4,h5,h6,h7,h11,h8,h10,h9]
      subst e;refine en (EK [(.bool ((((p.ty:Int)):Int) == 9),.bool true)] ⟨eqI (by omega),trivial⟩ [⟨122,#[.agg (pkV p a c)],.int .i64 (codesN p),[],[]⟩] ⟨fun _ w1 h _=>packet_codes p a c w1 hp,trivial⟩) [.f 0,.c,.b 0 0,.k 0,.c] ?_;exact en_stopI (fun a w F HK=>HJW () a w F HK)
    refine en (EF [(.bool ((((p.ty:Int)):Int) == 9),.bool false)] ⟨eqI' (by omega),trivial⟩) [.f 0,.c] ?_;by_cases h12:p.ty=12
    · have e:n=0:=by rw [← hn];unfold typeN;simp [h1,h2,h3,h4,h5,h6,h7,h11,h8,h10,h9,h12]
      subst e;refine en (EF [(.bool ((((p.ty:Int)):Int) == 12),.bool true)] ⟨eqI (by omega),trivial⟩) [.f 0,.c,.c] ?_;exact en_stopI (fun a w F HK=>HJW () a w F HK)
    refine en (EF [(.bool ((((p.ty:Int)):Int) == 12),.bool false)] ⟨eqI' (by omega),trivial⟩) [.f 0,.c] ?_;by_cases h13:p.ty=13
    · have e:n=0:=by rw [← hn];unfold typeN;simp [h1,h2,h3,h4,h5,h6,h7,h11,h8,h10,h9,h12,h13]
      subst e;refine en (EF [(.bool ((((p.ty:Int)):Int) == 13),.bool true)] ⟨eqI (by omega),trivial⟩) [.f 0,.c,.c] ?_;exact en_stopI (fun a w F HK=>HJW () a w F HK)
    refine en (EF [(.bool ((((p.ty:Int)):Int) == 13),.bool false)] ⟨eqI' (by omega),trivial⟩) [.f 0,.c] ?_;by_cases h14:p.ty=14
    · have e:n=0:=by rw [← hn];unfold typeN;simp [h1,h2,h3,h4,h5,h6,h7,h11,h8,h10,h9,h12,h13,h14]
      subst e;refine en (EF [(.bool ((((p.ty:Int)):Int) == 14),.bool true)] ⟨eqI (by omega),trivial⟩) [.f 0,.c,.c] ?_;exact en_stopI (fun a w F HK=>HJW () a w F HK)
    have e:n=-1:=by rw [← hn];unfold typeN;simp [h1,h2,h3,h4,h5,h6,h7,h11,h8,h10,h9,h12,h13,h14]
    subst e;refine en (EF [(.bool ((((p.ty:Int)):Int) == 14),.bool false)] ⟨eqI' (by omega),trivial⟩) [.f 0,.c] ?_;exact en_stopI (fun a w F HK=>HJW () a w F HK)
  intro _;by_cases n0:n < 0
  · refine en (EF [(.bool (decide (((n):Int) < 0)),.bool true)] ⟨dcT (by omega),trivial⟩) (.c::.f 0::eC 10 []) ?_
    have e:z=-1:=by rw [← hz];unfold restOf;simp [n0]
    subst e;exact en_rets () [] [] []
  by_cases n1:n > 268435455
  · refine en (EF [(.bool (decide (((n):Int) < 0)),.bool false),(.bool (decide (((n):Int) > 268435455)),.bool true)] ⟨dcF (by omega),dcT (by omega),trivial⟩) (.c::.f 0::.c::.c::.f 1::eC 7 []) ?_
    have e:z=-1:=by rw [← hz];unfold restOf;rw [if_pos (Or.inr (Or.inl n1))]
    subst e;exact en_rets () [] [] []
  cases bb
  · refine en (EK [(.bool (decide (((n):Int) < 0)),.bool false),(.bool (decide (((n):Int) > 268435455)),.bool false)] ⟨dcF (by omega),dcF (by omega),trivial⟩ [⟨123,#[.agg (pkV p a c)],.bool false,[],[]⟩] ⟨fun _ w1 h _=>hB w1 h.hp.env,trivial⟩) (.c::.f 0::.c::.c::.f 1::.c::.c::.b 0 0::.k 0::eC 3 []) ?_
    have e:z=-1:=by rw [← hz];unfold restOf;simp
    subst e;exact en_rets () [] [] []
  · refine en (EK [(.bool (decide (((n):Int) < 0)),.bool false),(.bool (decide (((n):Int) > 268435455)),.bool false)] ⟨dcF (by omega),dcF (by omega),trivial⟩ [⟨123,#[.agg (pkV p a c)],.bool true,[],[]⟩] ⟨fun _ w1 h _=>hB w1 h.hp.env,trivial⟩) (.c::.f 0::.c::.c::.f 1::.c::.c::.b 0 0::.k 0::eC 4 []) ?_
    have e:z=n:=by rw [← hz];unfold restOf;rw [if_neg (by rintro (h | h | h);exact n0 h;exact n1 h;cases h)]
    subst e;exact en_rets () [] [] []
theorem packet_Rest (p:Pk) (a:Option Addr) (c:Nat) (w:World) (hE:Env w) (hp:PkOk p) (ha:CellsA w a (subCells p.subs)):Calls Tryz.prog 100 #[.agg (pkV p a c)] w fun e w'=>e=.returned (.int .i64 (restP p))∧Below w.heap.size w w' :=
  rdc_of hE (restS hp (fun _ h=>ha.below h))
end Go.Proofs.YtehpihmgjbmoaaaGreatDoor
namespace Go.Proofs.YtehpihmgjbmoaaaGreatDoor
open Go.RowKit
set_option maxRecDepth 100000 in
theorem packet_Right (p:Pk) (a:Option Addr) (c:Nat) (w:World) (hE:Env w) (hp:PkOk p) (ha:CellsA w a (subCells p.subs)):Calls Tryz.prog 81 #[.agg (pkV p a c)] w fun e w'=>e=.returned (.bool (decide (0≤restP p)))∧Below w.heap.size w w':=by
  have HK:=Lib.hid ((Keep.begin hE [(a,subCells p.subs)] (by intro r hr;simp at hr;subst hr;exact ha)).alloc' (pkV p a c) 33 w.heap.size rfl);have HR:=Lib.hid (fun w1 hE ha=>packet_Rest p a c w1 hE hp ha);generalize restP p=n at *;clear hp ha hE;go_enter Tryz.func81,Tryz.ntmps81
  go_wp2_with (first
    | ((with_reducible show wpList _ _ _ (⟨_,.load 33 _,_,_,_,_⟩::_) _ _);refine wpList_load_box rfl 33 _ rfl _ rfl 33 _ (by (first | exact HK.out.at 0 rfl)) _ Tryz.underlying33 rfl (pk_size _ _ _) ?_)
    | (go_at_call 100;refine Calls.mono (HR.out _ HK.out.env (HK.out.rowAt 0 rfl)) ?_;rintro e w1 ⟨rfl,hb1⟩;replace HK:=Lib.hid (HK.out.below hb1);clear hb1))
  go_ret
  exact ⟨rfl,HK.out.low⟩
theorem same_bare (p q:Pk):decide (p=q)=(decide (p.bare=q.bare) && decide (p.subs=q.subs)):=by
  rw [Bool.eq_iff_iff,Bool.and_eq_true,decide_eq_true_eq,decide_eq_true_eq,decide_eq_true_eq];constructor
  · rintro rfl;exact ⟨rfl,rfl⟩
  · rintro ⟨h1,h2⟩
    have e:∀ r:Pk,r={ r.bare with subs:=r.subs }:=fun r=>rfl
    rw [e p,e q,h1,h2]
end Go.Proofs.YtehpihmgjbmoaaaGreatDoor
