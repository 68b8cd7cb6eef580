import Derived.Test.YtehpihmgjbmoaaaGreatDoorJoinZA
import Derived.Test.YtehpihmgjbmoaaaGreatDoorJoinRP
import Derived.Test.YtehpihmgjbmoaaaGreatDoorJoinZI
import Derived.Test.YtehpihmgjbmoaaaGreatDoorJoinRN
namespace Go.Proofs.YtehpihmgjbmoaaaGreatDoor
open Go.RowKit
attribute [local irreducible] Ok
def oNd (p:Pk) (b:Bool):Pk:={ p with dup:=p.dup && b }
def oNr (p:Pk) (b:Bool):Pk:={ p with ret:=p.ret && b }
def oNc (p:Pk) (b:Bool):Pk:={ p with clean:=p.clean && b }
def oNe (p:Pk) (b:Bool):Pk:={ p with present:=p.present && b }
def oNq (p:Pk) (b:Bool):Pk:={ p with qos:=bif b then p.qos else 0 }
def oNi (p:Pk) (b:Bool):Pk:={ p with id:=bif b then p.id else 0 }
def oNt (p:Pk) (b:Bool):Pk:={ p with topic:=bif b then p.topic else e0 }
def oNp (p:Pk) (b:Bool):Pk:={ p with payload:=bif b then p.payload else e0 }
def oNl (p:Pk) (b:Bool):Pk:={ p with level:=bif b then p.level else 0,keep:=bif b then p.keep else 0,client:=bif b then p.client else e0,hasWill:=bif b then p.hasWill else false,wtopic:=bif b then p.wtopic else e0,wpayload:=bif b then p.wpayload else e0,wqos:=bif b then p.wqos else 0,wret:=bif b then p.wret else false,hasUser:=bif b then p.hasUser else false,user:=bif b then p.user else e0,hasPass:=bif b then p.hasPass else false,pass:=bif b then p.pass else e0 }
def oNo (p:Pk) (b:Bool):Pk:={ p with code:=bif b then p.code else 0 }
def oNb (p:Pk) (b:Bool):Pk:={ p with subs:=bif b then p.subs else [] }
def oNm (p:Pk) (b:Bool):Pk:={ p with codes:=bif b then p.codes else e0 }
def onlyN (p:Pk) (zd zr zc ze zq zi zt zp zl zo zb zm:Bool):Pk:=oNm (oNb (oNo (oNl (oNp (oNt (oNi (oNq (oNe (oNc (oNr (oNd p zd) zr) zc) ze) zq) zi) zt) zp) zl) zo) zb) zm
def pkB (q:Pk) (du re cl pr:Bool):Pk:={ q with dup:=du,ret:=re,clean:=cl,present:=pr }
def oLL (X R Y:Nat) (f:ByteArray):List (Nat × Value):=[(1,.pointer (some ⟨X,0,none⟩)),(2,.pointer (some ⟨R,0,none⟩)),(3,.string f),(4,.pointer (some ⟨Y,0,none⟩))]
def oBB (X R Y:Nat) (x y:Array Value):List Bx:=[⟨X,x.toList,33⟩,⟨R,(pkV Pk.zero none 0).toList,33⟩,⟨Y,y.toList,33⟩]
theorem has_is {f:ByteArray} {c:UInt8} {n:Int} (hn:(c.toNat:Int)=n) (hz:f.size≤300000000) {b:Bool} (hb:hasL (bl f) c=b) (w1:World):Calls Tryz.prog 133 #[.string f,.int .u8 n] w1 fun e w'=>e=.returned (.bool b)∧Below w1.heap.size w1 w' :=
  hb ▸ (has_lit f c n hn w1 hz).mono fun _ _ h=>⟨h.1,h.2 ▸ Below.refl _ _⟩
set_option maxRecDepth 100000 in
set_option maxHeartbeats 4000000 in
theorem onlyS_ {wb:World} {p:Pk} {a:Option Addr} {c:Nat} {f:ByteArray} {zd zr zc ze zq zi zt zp zl zo zb zm:Bool} (hF:∀ w1,Calls Tryz.prog 128 #[.int .u8 (p.ty:Int)] w1 fun e w'=>e=.returned (.string f)∧Below w1.heap.size w1 w') (hz:f.size≤300000000) (xd:hasL (bl f) 100=zd) (xr:hasL (bl f) 114=zr) (xc:hasL (bl f) 99=zc) (xe:hasL (bl f) 101=ze) (xq:hasL (bl f) 113=zq) (xi:hasL (bl f) 105=zi) (xt:hasL (bl f) 116=zt) (xp:hasL (bl f) 112=zp) (xl:hasL (bl f) 108=zl) (xo:hasL (bl f) 111=zo) (xb:hasL (bl f) 98=zb) (xm:hasL (bl f) 109=zm):Spec Tryz.prog wb 129 #[.agg (pkV p a c)] [] [] (fun _:Unit=>.agg (pkV (onlyN p zd zr zc ze zq zi zt zp zl zo zb zm) (bif zb then a else none) (bif zb then c else 0))) (fun _=>[]) (fun _=>[]):=by
  obtain ⟨q,du,re,cl,pr,rfl⟩:∃ (q:Pk) (du re cl pr:Bool),p=pkB q du re cl pr:=⟨p,p.dup,p.ret,p.clean,p.present,rfl⟩
  intro w H;refine en_call Tryz.func129 H ?_;refine en2 (EK [] trivial [⟨128,#[.int .u8 (q.ty:Int)],.string f,[],[]⟩] ⟨fun _ w _ _=>hF w,trivial⟩) [.x,.n,.c,.b 0 0,.k 0,.c,.b 0 0] fun X R=>?_
  refine en1 E0 [.n,.s 2 0] fun Y=>?_
  refine en_meetP (codeOf Tryz.f129) [1,1,1,0] [] (α:=Unit) 0 (fun _=>oLL X R Y f) (fun _=>oBB X R Y (pkV (pkB q du re cl pr) a c) (pkV (oNd (pkB q du re cl pr) zd) a c)) (fun _=>many []) ?_ ?_
  · intro JMd HJMd
    cases du
    · refine en E0 (.c::.b 0 1::eC 5 [.s 2 1]) ?_
      exact en_stopI (fun a w F HK=>HJMd () a w F HK)
    · refine en (EK [] trivial [⟨133,#[.string f,.int .u8 100],.bool zd,[],[]⟩] ⟨fun _ w _ _=>has_is rfl hz xd w,trivial⟩) [.c,.b 0 1,.c,.c,.k 0,.c,.c,.s 2 1] ?_
      exact en_stopI (fun a w F HK=>HJMd () a w F HK)
  intro _;refine en_meetP (codeOf Tryz.f129) [1,1,1,1,0] [] (α:=Unit) 0 (fun _=>oLL X R Y f) (fun _=>oBB X R Y (pkV (pkB q du re cl pr) a c) (pkV (oNr (oNd (pkB q du re cl pr) zd) zr) a c)) (fun _=>many []) ?_ ?_
  · intro JMr HJMr
    cases re
    · refine en E0 (.c::.b 0 3::eC 5 [.s 2 3]) ?_
      exact en_stopI (fun a w F HK=>HJMr () a w F HK)
    · refine en (EK [] trivial [⟨133,#[.string f,.int .u8 114],.bool zr,[],[]⟩] ⟨fun _ w _ _=>has_is rfl hz xr w,trivial⟩) [.c,.b 0 3,.c,.c,.k 0,.c,.c,.s 2 3] ?_
      exact en_stopI (fun a w F HK=>HJMr () a w F HK)
  intro _;refine en_meetP (codeOf Tryz.f129) [1,1,1,1,1,0] [] (α:=Unit) 0 (fun _=>oLL X R Y f) (fun _=>oBB X R Y (pkV (pkB q du re cl pr) a c) (pkV (oNc (oNr (oNd (pkB q du re cl pr) zd) zr) zc) a c)) (fun _=>many []) ?_ ?_
  · intro JMc HJMc
    cases cl
    · refine en E0 (.c::.b 0 8::eC 5 [.s 2 8]) ?_
      exact en_stopI (fun a w F HK=>HJMc () a w F HK)
    · refine en (EK [] trivial [⟨133,#[.string f,.int .u8 99],.bool zc,[],[]⟩] ⟨fun _ w _ _=>has_is rfl hz xc w,trivial⟩) [.c,.b 0 8,.c,.c,.k 0,.c,.c,.s 2 8] ?_
      exact en_stopI (fun a w F HK=>HJMc () a w F HK)
  intro _;refine en_meetP (codeOf Tryz.f129) [1,1,1,1,1,1,0] [] (α:=Unit) 0 (fun _=>oLL X R Y f) (fun _=>oBB X R Y (pkV (pkB q du re cl pr) a c) (pkV (oNe (oNc (oNr (oNd (pkB q du re cl pr) zd) zr) zc) ze) a c)) (fun _=>many []) ?_ ?_
  · intro JMe HJMe
    cases pr
    · refine en E0 (.c::.b 0 20::eC 5 [.s 2 20]) ?_
      exact en_stopI (fun a w F HK=>HJMe () a w F HK)
    · refine en (EK [] trivial [⟨133,#[.string f,.int .u8 101],.bool ze,[],[]⟩] ⟨fun _ w _ _=>has_is rfl hz xe w,trivial⟩) [.c,.b 0 20,.c,.c,.k 0,.c,.c,.s 2 20] ?_
      exact en_stopI (fun a w F HK=>HJMe () a w F HK)
  intro _;refine en_meetP (codeOf Tryz.f129) [1,1,1,1,1,1,1,0] [] (α:=Unit) 1 (fun _=>oLL X R Y f) (fun _=>oBB X R Y (pkV (pkB q du re cl pr) a c) (pkV (oNq (oNe (oNc (oNr (oNd (pkB q du re cl pr) zd) zr) zc) ze) zq) a c)) (fun _=>many []) ?_ ?_
  · intro JMq HJMq
    cases zq
    · refine en (EK [] trivial [⟨133,#[.string f,.int .u8 113],.bool false,[],[]⟩] ⟨fun _ w _ _=>has_is rfl hz xq w,trivial⟩) [.c,.k 0,.c,.c,.s 2 2] ?_
      exact en_stopI (fun a w F HK=>HJMq () a w F HK)
    · refine en (EK [] trivial [⟨133,#[.string f,.int .u8 113],.bool true,[],[]⟩] ⟨fun _ w _ _=>has_is rfl hz xq w,trivial⟩) [.c,.k 0,.c] ?_
      exact en_stopI (fun a w F HK=>HJMq () a w F HK)
  intro _;refine en_meetP (codeOf Tryz.f129) [1,1,1,1,1,1,1,1,0] [] (α:=Unit) 1 (fun _=>oLL X R Y f) (fun _=>oBB X R Y (pkV (pkB q du re cl pr) a c) (pkV (oNi (oNq (oNe (oNc (oNr (oNd (pkB q du re cl pr) zd) zr) zc) ze) zq) zi) a c)) (fun _=>many []) ?_ ?_
  · intro JMi HJMi
    cases zi
    · refine en (EK [] trivial [⟨133,#[.string f,.int .u8 105],.bool false,[],[]⟩] ⟨fun _ w _ _=>has_is rfl hz xi w,trivial⟩) [.c,.k 0,.c,.c,.s 2 4] ?_
      exact en_stopI (fun a w F HK=>HJMi () a w F HK)
    · refine en (EK [] trivial [⟨133,#[.string f,.int .u8 105],.bool true,[],[]⟩] ⟨fun _ w _ _=>has_is rfl hz xi w,trivial⟩) [.c,.k 0,.c] ?_
      exact en_stopI (fun a w F HK=>HJMi () a w F HK)
  intro _;refine en_meetP (codeOf Tryz.f129) [1,1,1,1,1,1,1,1,1,0] [] (α:=Unit) 1 (fun _=>oLL X R Y f) (fun _=>oBB X R Y (pkV (pkB q du re cl pr) a c) (pkV (oNt (oNi (oNq (oNe (oNc (oNr (oNd (pkB q du re cl pr) zd) zr) zc) ze) zq) zi) zt) a c)) (fun _=>many []) ?_ ?_
  · intro JMt HJMt
    cases zt
    · refine en (EK [] trivial [⟨133,#[.string f,.int .u8 116],.bool false,[],[]⟩] ⟨fun _ w _ _=>has_is rfl hz xt w,trivial⟩) [.c,.k 0,.c,.c,.s 2 5] ?_
      exact en_stopI (fun a w F HK=>HJMt () a w F HK)
    · refine en (EK [] trivial [⟨133,#[.string f,.int .u8 116],.bool true,[],[]⟩] ⟨fun _ w _ _=>has_is rfl hz xt w,trivial⟩) [.c,.k 0,.c] ?_
      exact en_stopI (fun a w F HK=>HJMt () a w F HK)
  intro _;refine en_meetP (codeOf Tryz.f129) [1,1,1,1,1,1,1,1,1,1,0] [] (α:=Unit) 1 (fun _=>oLL X R Y f) (fun _=>oBB X R Y (pkV (pkB q du re cl pr) a c) (pkV (oNp (oNt (oNi (oNq (oNe (oNc (oNr (oNd (pkB q du re cl pr) zd) zr) zc) ze) zq) zi) zt) zp) a c)) (fun _=>many []) ?_ ?_
  · intro JMp HJMp
    cases zp
    · refine en (EK [] trivial [⟨133,#[.string f,.int .u8 112],.bool false,[],[]⟩] ⟨fun _ w _ _=>has_is rfl hz xp w,trivial⟩) [.c,.k 0,.c,.c,.s 2 6] ?_
      exact en_stopI (fun a w F HK=>HJMp () a w F HK)
    · refine en (EK [] trivial [⟨133,#[.string f,.int .u8 112],.bool true,[],[]⟩] ⟨fun _ w _ _=>has_is rfl hz xp w,trivial⟩) [.c,.k 0,.c] ?_
      exact en_stopI (fun a w F HK=>HJMp () a w F HK)
  intro _;refine en_meetP (codeOf Tryz.f129) [1,1,1,1,1,1,1,1,1,1,1,0] [] (α:=Unit) 1 (fun _=>oLL X R Y f) (fun _=>oBB X R Y (pkV (pkB q du re cl pr) a c) (pkV (oNl (oNp (oNt (oNi (oNq (oNe (oNc (oNr (oNd (pkB q du re cl pr) zd) zr) zc) ze) zq) zi) zt) zp) zl) a c)) (fun _=>many []) ?_ ?_
  · intro JMl HJMl
    cases zl
    · refine en (EK [] trivial [⟨133,#[.string f,.int .u8 108],.bool false,[],[]⟩] ⟨fun _ w _ _=>has_is rfl hz xl w,trivial⟩) [.c,.k 0,.c,.c,.s 2 7,.c,.s 2 9,.c,.s 2 10,.c,.s 2 11,.c,.c,.s 2 12,.c,.s 2 16,.c,.s 2 18,.c,.s 2 17,.c,.s 2 19] ?_
      exact en_stopI (fun a w F HK=>HJMl () a w F HK)
    · refine en (EK [] trivial [⟨133,#[.string f,.int .u8 108],.bool true,[],[]⟩] ⟨fun _ w _ _=>has_is rfl hz xl w,trivial⟩) [.c,.k 0,.c] ?_
      exact en_stopI (fun a w F HK=>HJMl () a w F HK)
  intro _;refine en_meetP (codeOf Tryz.f129) [1,1,1,1,1,1,1,1,1,1,1,1,0] [] (α:=Unit) 1 (fun _=>oLL X R Y f) (fun _=>oBB X R Y (pkV (pkB q du re cl pr) a c) (pkV (oNo (oNl (oNp (oNt (oNi (oNq (oNe (oNc (oNr (oNd (pkB q du re cl pr) zd) zr) zc) ze) zq) zi) zt) zp) zl) zo) a c)) (fun _=>many []) ?_ ?_
  · intro JMo HJMo
    cases zo
    · refine en (EK [] trivial [⟨133,#[.string f,.int .u8 111],.bool false,[],[]⟩] ⟨fun _ w _ _=>has_is rfl hz xo w,trivial⟩) [.c,.k 0,.c,.c,.s 2 21] ?_
      exact en_stopI (fun a w F HK=>HJMo () a w F HK)
    · refine en (EK [] trivial [⟨133,#[.string f,.int .u8 111],.bool true,[],[]⟩] ⟨fun _ w _ _=>has_is rfl hz xo w,trivial⟩) [.c,.k 0,.c] ?_
      exact en_stopI (fun a w F HK=>HJMo () a w F HK)
  intro _;refine en_meetP (codeOf Tryz.f129) [1,1,1,1,1,1,1,1,1,1,1,1,1,0] [] (α:=Unit) 1 (fun _=>oLL X R Y f) (fun _=>oBB X R Y (pkV (pkB q du re cl pr) a c) (pkV (oNb (oNo (oNl (oNp (oNt (oNi (oNq (oNe (oNc (oNr (oNd (pkB q du re cl pr) zd) zr) zc) ze) zq) zi) zt) zp) zl) zo) zb) (bif zb then a else none) (bif zb then c else 0))) (fun _=>many []) ?_ ?_
  · intro JMb HJMb
    cases zb
    · refine en (EK [] trivial [⟨133,#[.string f,.int .u8 98],.bool false,[],[]⟩] ⟨fun _ w _ _=>has_is rfl hz xb w,trivial⟩) [.c,.k 0,.c,.c,.s 2 22] ?_
      exact en_stopI (fun a w F HK=>HJMb () a w F HK)
    · refine en (EK [] trivial [⟨133,#[.string f,.int .u8 98],.bool true,[],[]⟩] ⟨fun _ w _ _=>has_is rfl hz xb w,trivial⟩) [.c,.k 0,.c] ?_
      exact en_stopI (fun a w F HK=>HJMb () a w F HK)
  intro _;refine en_meetP (codeOf Tryz.f129) [1,1,1,1,1,1,1,1,1,1,1,1,1,1,0] [] (α:=Unit) 1 (fun _=>oLL X R Y f) (fun _=>oBB X R Y (pkV (pkB q du re cl pr) a c) (pkV (oNm (oNb (oNo (oNl (oNp (oNt (oNi (oNq (oNe (oNc (oNr (oNd (pkB q du re cl pr) zd) zr) zc) ze) zq) zi) zt) zp) zl) zo) zb) zm) (bif zb then a else none) (bif zb then c else 0))) (fun _=>many []) ?_ ?_
  · intro JMm HJMm
    cases zm
    · refine en (EK [] trivial [⟨133,#[.string f,.int .u8 109],.bool false,[],[]⟩] ⟨fun _ w _ _=>has_is rfl hz xm w,trivial⟩) [.c,.k 0,.c,.c,.s 2 23] ?_
      exact en_stopI (fun a w F HK=>HJMm () a w F HK)
    · refine en (EK [] trivial [⟨133,#[.string f,.int .u8 109],.bool true,[],[]⟩] ⟨fun _ w _ _=>has_is rfl hz xm w,trivial⟩) [.c,.k 0,.c] ?_
      exact en_stopI (fun a w F HK=>HJMm () a w F HK)
  intro _;refine en E0 [.b 2 0,.s 1 0] ?_;exact en_rets () [] [] [1]
end Go.Proofs.YtehpihmgjbmoaaaGreatDoor
namespace Go.Proofs.YtehpihmgjbmoaaaGreatDoor
open Go.RowKit
attribute [local irreducible] Ok
theorem ty_cases {t:Nat} (h:1≤t∧t≤14):t=1∨t=2∨t=3∨t=4∨t=5∨t=6∨t=7∨t=8∨t=9∨t=10∨t=11∨t=12∨t=13∨t=14:=by omega
theorem bits_of {t:Nat} (h:1≤t∧t≤14):(fieldsB t).size≤300000000∧hasL (bl (fieldsB t)) 100=decide (t=3)∧hasL (bl (fieldsB t)) 114=decide (t=3)∧hasL (bl (fieldsB t)) 99=decide (t=1)∧hasL (bl (fieldsB t)) 101=decide (t=2)∧hasL (bl (fieldsB t)) 113=decide (t=3)∧hasL (bl (fieldsB t)) 105=decide (3≤t∧t≤11)∧hasL (bl (fieldsB t)) 116=decide (t=3)∧hasL (bl (fieldsB t)) 112=decide (t=3)∧hasL (bl (fieldsB t)) 108=decide (t=1)∧hasL (bl (fieldsB t)) 111=decide (t=2)∧hasL (bl (fieldsB t)) 98=decide (t=8∨t=10)∧hasL (bl (fieldsB t)) 109=decide (t=9):=by
  rcases ty_cases h with rfl | rfl | rfl | rfl | rfl | rfl | rfl | rfl | rfl | rfl | rfl | rfl | rfl | rfl <;> decide
theorem bits_only (p:Pk) (h:1≤p.ty∧p.ty≤14):onlyN p (decide (p.ty=3)) (decide (p.ty=3)) (decide (p.ty=1)) (decide (p.ty=2)) (decide (p.ty=3)) (decide (3≤p.ty∧p.ty≤11)) (decide (p.ty=3)) (decide (p.ty=3)) (decide (p.ty=1)) (decide (p.ty=2)) (decide (p.ty=8∨p.ty=10)) (decide (p.ty=9))=onlyS p:=by
  obtain ⟨ty,dup,qos,ret,id,topic,payload,level,clean,keep,client,hasWill,wtopic,wpayload,wqos,wret,hasUser,hasPass,user,pass,present,code,subs,codes⟩:=p;simp only at h
  rcases ty_cases h with rfl | rfl | rfl | rfl | rfl | rfl | rfl | rfl | rfl | rfl | rfl | rfl | rfl | rfl
  all_goals simp [onlyN,oNd,oNr,oNc,oNe,oNq,oNi,oNt,oNp,oNl,oNo,oNb,oNm,onlyS,onlyF,Pk.zero]
theorem ref03_Only (p:Pk) (a:Option Addr) (c:Nat) (w:World) (hE:Env w) (hp:PkOk p) (h:1≤p.ty∧p.ty≤14) :
    Calls Tryz.prog 129 #[.agg (pkV p a c)] w fun e w'=>e=.returned (.agg (pkV (onlyS p) (if p.ty=8∨p.ty=10 then a else none) (if p.ty=8∨p.ty=10 then c else 0)))∧Below w.heap.size w w':=by
  obtain ⟨x0,xd,xr,xc,xe,xq,xi,xt,xp,xl,xo,xb,xm⟩:=bits_of h;have k:=rdc_of hE (onlyS_ (a:=a) (c:=c) (f:=fieldsB p.ty) (p:=p) (fun w1=>ref03_Fields p.ty hp.ty w1) x0 xd xr xc xe xq xi xt xp xl xo xb xm);rw [bits_only p h,Bool.cond_decide,Bool.cond_decide] at k;exact k
theorem onlyS_ok {p:Pk} (h:PkOk p):PkOk (onlyS p):=by
  have k:=onlyF_ok h;have hs:(onlyS p).subs=(if p.ty=8∨p.ty=10 then p.subs else []):=rfl;refine ⟨k.ty,k.qos,k.id,k.level,k.keep,k.wqos,k.code,k.topic,k.payload,k.client,k.wtopic,k.wpayload,k.user,k.pass,k.codes,?_,?_⟩
  · rw [hs];split
    · exact h.few
    · simp
  · rw [hs];split
    · exact h.each
    · intro x hx;cases hx
theorem fields_dash (t:Nat) (h:¬ (1≤t∧t≤14)):fieldsB t=b1 [45]:=by
  unfold fieldsB
  (repeat' split) <;> first | rfl | (exfalso;omega)
theorem fields_i {t:Nat} (h:1≤t∧t≤14):hasL (bl (fieldsB t)) 105=hasI t:=by
  rcases ty_cases h with e | e | e | e | e | e | e | e | e | e | e | e | e | e <;> rw [e] <;> decide
theorem bl_b1 {t:Nat} (h:1≤t∧t≤14):fieldsB t≠⟨#[45]⟩:=by
  rcases ty_cases h with e | e | e | e | e | e | e | e | e | e | e | e | e | e <;> rw [e] <;> decide
set_option maxRecDepth 100000 in
set_option maxHeartbeats 4000000 in
theorem rightS {wb:World} {p:Pk} {a:Option Addr} {c:Nat} (hp:PkOk p) (hX:∀ w,Below wb.heap.size wb w→CellsA w a (subCells p.subs)):Spec Tryz.prog wb 105 #[.agg (pkV p a c)] [] [] (fun _:Unit=>.bool (rightR p)) (fun _=>[]) (fun _=>[]):=by
  have hF:=fun w1=>ref03_Fields p.ty hp.ty w1
  obtain ⟨z,hz⟩:∃ z,rightR p=z:=⟨_,rfl⟩
  rw [hz];have hre:decide (restR p≤268435455)=decide (((restR p:Nat):Int)≤268435455):=by rw [Bool.eq_iff_iff];simp;omega
  have hL:=fun w1 hE k=>ref03_lists p a c w1 hE hp k
  have hC:=fun w1=>ref03_connect p a c w1 hp
  have hN:=fun w1=>ref03_Name p.topic w1 hp.topic
  have hR:=fun w1 hE k=>ref03_rest p a c w1 hE hp k
  obtain ⟨l,hl⟩:∃ s,listsR p=s:=⟨_,rfl⟩
  obtain ⟨co,hco⟩:∃ s,connectR p=s:=⟨_,rfl⟩
  obtain ⟨nm,hnm⟩:∃ s,nameL (bl p.topic)=s:=⟨_,rfl⟩
  obtain ⟨rr,hrr⟩:∃ s,restR p=s:=⟨_,rfl⟩
  rw [hl] at hL;rw [hco] at hC;rw [hnm] at hN;rw [hrr] at hR hre;by_cases h:1≤p.ty∧p.ty≤14
  · have hz2:(fieldsB p.ty).size≤300000000:=by
      rcases ty_cases h with e | e | e | e | e | e | e | e | e | e | e | e | e | e <;> rw [e] <;> decide
    have hn:=bl_b1 h;have hhi:=fields_i h;have hO:=fun w1 hE=>ref03_Only p a c w1 hE hp h
    obtain ⟨a2,ha2⟩:∃ x,(if p.ty=8∨p.ty=10 then a else none)=x:=⟨_,rfl⟩
    obtain ⟨c2,hc2⟩:∃ x,(if p.ty=8∨p.ty=10 then c else 0)=x:=⟨_,rfl⟩
    rw [ha2,hc2] at hO;have hrow:∀ w1,CellsA w1 a (subCells p.subs)→CellsA w1 a2 (subCells (onlyS p).subs):=by
      intro w1 k;show CellsA w1 a2 (subCells (if p.ty=8∨p.ty=10 then p.subs else []));rw [← ha2];split
      · exact k
      · exact CellsA.nil _ _
    have hS:=fun w1 hE (k:CellsA w1 a (subCells p.subs))=>ref03_Same p (onlyS p) a a2 c c2 w1 hE hp (onlyS_ok hp) k (hrow w1 k)
    obtain ⟨s,hs⟩:∃ s,decide (p=onlyS p)=s:=⟨_,rfl⟩
    rw [hs] at hS;unfold rightR at hz;rw [decide_eq_true h,hs,hl,hco,hnm,hrr,hre] at hz;simp only [Bool.true_and] at hz;clear hs hl hco hnm hrr hre ha2 hc2 hrow h;obtain ⟨po,hpo⟩:∃ x,onlyS p=x:=⟨_,rfl⟩
    rw [hpo] at hO hS;obtain ⟨f,hf⟩:∃ x,fieldsB p.ty=x:=⟨_,rfl⟩
    rw [hf] at hF hn hhi hz2;obtain ⟨hi,hhi2⟩:∃ x,hasI p.ty=x:=⟨_,rfl⟩
    rw [hhi2] at hhi hz;have hH:=fun w1=>has_lit f 105 105 rfl w1 hz2
    rw [hhi] at hH;clear hf hpo hhi hhi2 hp;obtain ⟨q,pr,du,hpq⟩:∃ (q:Pk) (pr du:Bool),p={ q with present:=pr,dup:=du }:=⟨p,p.present,p.dup,rfl⟩
    subst hpq;simp only at hz hF hN hX hS hL hR hO hC
    intro w H;refine en_call Tryz.func105 H ?_;cases s
    · refine en1 (EK [(.bool ((f:ByteArray).toList == (⟨#[45]⟩:ByteArray).toList),.bool false)] ⟨eqS' (hn),trivial⟩ [⟨128,#[.int .u8 (q.ty:Int)],.string f,[],[]⟩,⟨129,#[.agg (pkV ({ q with present:=pr,dup:=du }:Pk) a c)],.agg (pkV po a2 c2),[],[]⟩,⟨71,#[.agg (pkV ({ q with present:=pr,dup:=du }:Pk) a c),.agg (pkV po a2 c2)],.bool false,[],[]⟩] ⟨fun _ w _ _=>hF w,fun _ w h _=>hO w h.hp.env,fun _ w h _=>hS w h.hp.env (hX w h.hp.low),trivial⟩) [.x,.c,.c,.b 0 0,.k 0,.c,.g [(0,0,24)] 1000 false,.d (eN 0 [.c,.f 0,.c,.l 0 0,.l 0 0]),.k 1,.k 2,.d (eN 7 (eC 12 [])),.c] fun Y=>?_
      have he:z=false:=by rw [← hz];simp
      subst he;exact en_rets () [] [] []
    cases l
    · refine en1 (EK [(.bool ((f:ByteArray).toList == (⟨#[45]⟩:ByteArray).toList),.bool false)] ⟨eqS' (hn),trivial⟩ [⟨128,#[.int .u8 (q.ty:Int)],.string f,[],[]⟩,⟨129,#[.agg (pkV ({ q with present:=pr,dup:=du }:Pk) a c)],.agg (pkV po a2 c2),[],[]⟩,⟨71,#[.agg (pkV ({ q with present:=pr,dup:=du }:Pk) a c),.agg (pkV po a2 c2)],.bool true,[],[]⟩,⟨130,#[.agg (pkV ({ q with present:=pr,dup:=du }:Pk) a c)],.bool false,[],[]⟩] ⟨fun _ w _ _=>hF w,fun _ w h _=>hO w h.hp.env,fun _ w h _=>hS w h.hp.env (hX w h.hp.low),fun _ w h _=>hL w h.hp.env (hX w h.hp.low),trivial⟩) [.x,.c,.c,.b 0 0,.k 0,.c,.g [(0,0,24)] 1000 false,.d (eN 0 [.c,.f 0,.c,.l 0 0,.l 0 0]),.k 1,.k 2,.d (eN 7 (eC 3 [.l 0 0])),.k 3,.d (eN 12 (eC 7 [])),.c] fun Y=>?_
      have he:z=false:=by rw [← hz];simp
      subst he;exact en_rets () [] [] []
    simp only [Bool.true_and] at hz;by_cases hq:2 < q.qos
    · refine en1 (EK [(.bool ((f:ByteArray).toList == (⟨#[45]⟩:ByteArray).toList),.bool false),(.bool (decide ((((q.qos:Int)):Int) > 2)),.bool true)] ⟨eqS' (hn),dcT (by omega),trivial⟩ [⟨128,#[.int .u8 (q.ty:Int)],.string f,[],[]⟩,⟨129,#[.agg (pkV ({ q with present:=pr,dup:=du }:Pk) a c)],.agg (pkV po a2 c2),[],[]⟩,⟨71,#[.agg (pkV ({ q with present:=pr,dup:=du }:Pk) a c),.agg (pkV po a2 c2)],.bool true,[],[]⟩,⟨130,#[.agg (pkV ({ q with present:=pr,dup:=du }:Pk) a c)],.bool true,[],[]⟩] ⟨fun _ w _ _=>hF w,fun _ w h _=>hO w h.hp.env,fun _ w h _=>hS w h.hp.env (hX w h.hp.low),fun _ w h _=>hL w h.hp.env (hX w h.hp.low),trivial⟩) [.x,.c,.c,.b 0 0,.k 0,.c,.g [(0,0,24),(0,2,1)] 1000 false,.d (eN 0 [.c,.f 0,.c,.l 0 0,.l 0 0]),.k 1,.k 2,.d (eN 7 (eC 3 [.l 0 0])),.k 3,.d (eN 12 (eC 4 [.l 0 2,.f 1,.c])),.c] fun Y=>?_
      have he:z=false:=by rw [← hz];rw [decide_eq_false (show ¬ q.qos≤2 by omega)];simp
      subst he;exact en_rets () [] [] []
    rw [decide_eq_true (show q.qos≤2 by omega)] at hz;simp only [Bool.true_and] at hz;refine en1 (EK [(.bool ((f:ByteArray).toList == (⟨#[45]⟩:ByteArray).toList),.bool false),(.bool (decide ((((q.qos:Int)):Int) > 2)),.bool false)] ⟨eqS' (hn),dcF (by omega),trivial⟩ [⟨128,#[.int .u8 (q.ty:Int)],.string f,[],[]⟩,⟨129,#[.agg (pkV ({ q with present:=pr,dup:=du }:Pk) a c)],.agg (pkV po a2 c2),[],[]⟩,⟨71,#[.agg (pkV ({ q with present:=pr,dup:=du }:Pk) a c),.agg (pkV po a2 c2)],.bool true,[],[]⟩,⟨130,#[.agg (pkV ({ q with present:=pr,dup:=du }:Pk) a c)],.bool true,[],[]⟩] ⟨fun _ w _ _=>hF w,fun _ w h _=>hO w h.hp.env,fun _ w h _=>hS w h.hp.env (hX w h.hp.low),fun _ w h _=>hL w h.hp.env (hX w h.hp.low),trivial⟩) [.x,.c,.c,.b 0 0,.k 0,.c,.g [(0,0,24),(0,2,1)] 1000 false,.d (eN 0 [.c,.f 0,.c,.l 0 0,.l 0 0]),.k 1,.k 2,.d (eN 7 (eC 3 [.l 0 0])),.k 3,.d (eN 12 (eC 4 [.l 0 2,.f 1,.c]))] fun Y=>?_
    refine en_norm (runP (codeOf Tryz.f105) [1,1,1,0,0] [] 0) [(1,.pointer (some ⟨Y,0,none⟩)),(2,.bool false),(3,.string f)] [⟨Y,[.int .u8 (q.ty:Int),.bool du,.int .u8 (q.qos:Int),.bool q.ret,.int .u16 (q.id:Int),.string q.topic,.string q.payload,.int .u8 (q.level:Int),.bool q.clean,.int .u16 (q.keep:Int),.string q.client,.bool q.hasWill,.string q.wtopic,.string q.wpayload,.int .u8 (q.wqos:Int),.bool q.wret,.bool q.hasUser,.bool q.hasPass,.string q.user,.string q.pass,.bool pr,.int .u8 (q.code:Int),.slice a q.subs.length c,.string q.codes],33⟩] ?_;by_cases h1:q.ty=1∧co=false
    · obtain ⟨h1,rfl⟩:=h1
      refine en (EK [(.bool ((((q.ty:Int)):Int) == 1),.bool true)] ⟨eqI (by omega),trivial⟩ [⟨131,#[.agg (pkV ({ q with present:=pr,dup:=du }:Pk) a c)],.bool false,[],[]⟩] ⟨fun _ w _ _=>hC w,trivial⟩) (.c::.b 0 0::.f 0::.c::.b 0 0::.k 0::eC 22 []) ?_;have he:z=false:=by rw [← hz];simp [h1]
      subst he;exact en_rets () [] [] []
    by_cases h2:q.ty=2∧5 < q.code
    · obtain ⟨h2,hc⟩:=h2
      refine en (EF [(.bool ((((q.ty:Int)):Int) == 1),.bool false),(.bool ((((q.ty:Int)):Int) == 2),.bool true),(.bool (decide ((((q.code:Int)):Int) > 5)),.bool true)] ⟨eqI' (by omega),eqI (by omega),dcT (by omega),trivial⟩) (.c::.b 0 0::.f 0::eC 7 (.b 0 0::.f 1::.c::.c::.b 0 21::.f 2::eC 12 [])) ?_;have he:z=false:=by rw [← hz];simp [h2];omega
      subst he;exact en_rets () [] [] []
    by_cases h3:q.ty=2∧pr=true∧0 < q.code
    · obtain ⟨h3,rfl,hc⟩:=h3
      refine en (EF [(.bool ((((q.ty:Int)):Int) == 1),.bool false),(.bool ((((q.ty:Int)):Int) == 2),.bool true),(.bool (decide ((((q.code:Int)):Int) > 5)),.bool false),(.bool (decide ((((q.code:Int)):Int) > 0)),.bool true)] ⟨eqI' (by omega),eqI (by omega),dcF (by omega),dcT (by omega),trivial⟩) (.c::.b 0 0::.f 0::eC 7 (.b 0 0::.f 1::.c::.c::.b 0 21::.f 2::.c::.c::.b 0 20::.c::.c::.b 0 21::.f 3::eC 5 [])) ?_;have he:z=false:=by rw [← hz];simp [h3,hc]
      subst he;exact en_rets () [] [] []
    refine en_meetP (codeOf Tryz.f105) [1,1,1,0] [] (α:={_u:Unit // z=((if q.ty=3 then nm && !(decide (q.qos=0) && (du || decide (q.id≠0))) && !(decide (0 < q.qos) && decide (q.id=0)) else !(hi && decide (q.id=0))) && decide ((rr:Int)≤268435455))}) 1 (fun _=>[(1,.pointer (some ⟨Y,0,none⟩)),(2,.bool false),(3,.string f)]) (fun _=>[⟨Y,[.int .u8 (q.ty:Int),.bool du,.int .u8 (q.qos:Int),.bool q.ret,.int .u16 (q.id:Int),.string q.topic,.string q.payload,.int .u8 (q.level:Int),.bool q.clean,.int .u16 (q.keep:Int),.string q.client,.bool q.hasWill,.string q.wtopic,.string q.wpayload,.int .u8 (q.wqos:Int),.bool q.wret,.bool q.hasUser,.bool q.hasPass,.string q.user,.string q.pass,.bool pr,.int .u8 (q.code:Int),.slice a q.subs.length c,.string q.codes],33⟩]) (fun _=>many []) ?_ ?_
    · intro JM HJM
      by_cases t1:q.ty=1
      · have hc:co=true:=by cases co;exact absurd ⟨t1,rfl⟩ h1;rfl
        subst hc;refine en (EK [(.bool ((((q.ty:Int)):Int) == 1),.bool true),(.bool ((((q.ty:Int)):Int) == 2),.bool false)] ⟨eqI (by omega),eqI' (by omega),trivial⟩ [⟨131,#[.agg (pkV ({ q with present:=pr,dup:=du }:Pk) a c)],.bool true,[],[]⟩] ⟨fun _ w _ _=>hC w,trivial⟩) (.c::.b 0 0::.f 0::.c::.b 0 0::.k 0::eC 4 (.b 0 0::.f 1::eC 15 [])) ?_;exact en_stopI (fun a w F HK=>HJM ⟨(),by rw [← hz];simp [t1]⟩ a w F HK)
      by_cases t2:q.ty=2
      · cases pr
        · refine en (EF [(.bool ((((q.ty:Int)):Int) == 1),.bool false),(.bool ((((q.ty:Int)):Int) == 2),.bool true),(.bool (decide ((((q.code:Int)):Int) > 5)),.bool false)] ⟨eqI' (by omega),eqI (by omega),dcF (by omega),trivial⟩) (.c::.b 0 0::.f 0::eC 7 (.b 0 0::.f 1::.c::.c::.b 0 21::.f 2::.c::.c::.b 0 20::eC 8 [])) ?_
          exact en_stopI (fun a w F HK=>HJM ⟨(),by rw [← hz];have h5:q.code≤5:=(by omega);simp [t1,t2,h5]⟩ a w F HK)
        · have h0:¬ 0 < q.code:=fun h=>h3 ⟨t2,rfl,h⟩
          refine en (EF [(.bool ((((q.ty:Int)):Int) == 1),.bool false),(.bool ((((q.ty:Int)):Int) == 2),.bool true),(.bool (decide ((((q.code:Int)):Int) > 5)),.bool false),(.bool (decide ((((q.code:Int)):Int) > 0)),.bool false)] ⟨eqI' (by omega),eqI (by omega),dcF (by omega),dcF (by omega),trivial⟩) (.c::.b 0 0::.f 0::eC 7 (.b 0 0::.f 1::.c::.c::.b 0 21::.f 2::.c::.c::.b 0 20::.c::.c::.b 0 21::.f 3::eC 4 [])) ?_;exact en_stopI (fun a w F HK=>HJM ⟨(),by rw [← hz];have h5:q.code=0:=(by omega);simp [t1,t2,h5]⟩ a w F HK)
      refine en (EF [(.bool ((((q.ty:Int)):Int) == 1),.bool false),(.bool ((((q.ty:Int)):Int) == 2),.bool false)] ⟨eqI' (by omega),eqI' (by omega),trivial⟩) (.c::.b 0 0::.f 0::eC 7 (.b 0 0::.f 1::eC 15 [])) ?_;exact en_stopI (fun a w F HK=>HJM ⟨(),by rw [← hz];simp [t1,t2]⟩ a w F HK)
    rintro ⟨_,hzz⟩;clear hz h1 h2 h3;by_cases t3:q.ty=3
    · rw [if_pos t3] at hzz
      cases nm
      · refine en (EK [(.bool ((((q.ty:Int)):Int) == 3),.bool true)] ⟨eqI (by omega),trivial⟩ [⟨132,#[.string q.topic],.bool false,[],[]⟩] ⟨fun _ w _ _=>hN w,trivial⟩) (.c::.b 0 0::.f 0::.c::.b 0 5::.k 0::eC 26 []) ?_
        have he:z=false:=by rw [hzz];simp
        subst he;exact en_rets () [] [] []
      · by_cases hq0:q.qos=0
        · cases du
          · by_cases hi0:q.id=0
            · refine en (EK [(.bool ((((q.ty:Int)):Int) == 3),.bool true),(.bool ((((q.qos:Int)):Int) == 0),.bool true),(.bool ((((q.id:Int)):Int) != 0),.bool false),(.bool (decide ((((q.qos:Int)):Int) > 0)),.bool false)] ⟨eqI (by omega),eqI (by omega),neI' (by omega),dcF (by omega),trivial⟩ [⟨132,#[.string q.topic],.bool true,[],[]⟩,⟨134,#[.agg (pkV ({ q with present:=pr,dup:=false }:Pk) a c)],.int .i64 (rr:Int),[],[]⟩] ⟨fun _ w _ _=>hN w,fun _ w h _=>hR w h.hp.env (hX w h.hp.low),trivial⟩) (.c::.b 0 0::.f 0::.c::.b 0 5::.k 0::eC 3 (.b 0 2::.f 1::.c::.c::.b 0 1::.c::.c::.b 0 4::.f 2::eC 5 (.b 0 2::.f 3::eC 6 [.b 0 0,.k 1,.c,.c]))) ?_
              have he:z=decide ((rr:Int)≤268435455):=by rw [hzz];simp [hq0,hi0]
              subst he;exact en_rets () [] [] []
            · refine en (EK [(.bool ((((q.ty:Int)):Int) == 3),.bool true),(.bool ((((q.qos:Int)):Int) == 0),.bool true),(.bool ((((q.id:Int)):Int) != 0),.bool true)] ⟨eqI (by omega),eqI (by omega),neI (by omega),trivial⟩ [⟨132,#[.string q.topic],.bool true,[],[]⟩] ⟨fun _ w _ _=>hN w,trivial⟩) (.c::.b 0 0::.f 0::.c::.b 0 5::.k 0::eC 3 (.b 0 2::.f 1::.c::.c::.b 0 1::.c::.c::.b 0 4::.f 2::eC 14 [])) ?_
              have he:z=false:=by rw [hzz];simp [hq0,hi0]
              subst he;exact en_rets () [] [] []
          · refine en (EK [(.bool ((((q.ty:Int)):Int) == 3),.bool true),(.bool ((((q.qos:Int)):Int) == 0),.bool true)] ⟨eqI (by omega),eqI (by omega),trivial⟩ [⟨132,#[.string q.topic],.bool true,[],[]⟩] ⟨fun _ w _ _=>hN w,trivial⟩) (.c::.b 0 0::.f 0::.c::.b 0 5::.k 0::eC 3 (.b 0 2::.f 1::.c::.c::.b 0 1::eC 18 [])) ?_
            have he:z=false:=by rw [hzz];simp [hq0]
            subst he;exact en_rets () [] [] []
        · have hq1:0 < q.qos:=by omega
          by_cases hi0:q.id=0
          · refine en (EK [(.bool ((((q.ty:Int)):Int) == 3),.bool true),(.bool ((((q.qos:Int)):Int) == 0),.bool false),(.bool (decide ((((q.qos:Int)):Int) > 0)),.bool true),(.bool ((((q.id:Int)):Int) == 0),.bool true)] ⟨eqI (by omega),eqI' (by omega),dcT (by omega),eqI (by omega),trivial⟩ [⟨132,#[.string q.topic],.bool true,[],[]⟩] ⟨fun _ w _ _=>hN w,trivial⟩) (.c::.b 0 0::.f 0::.c::.b 0 5::.k 0::eC 3 (.b 0 2::.f 1::eC 12 (.b 0 2::.f 2::.c::.c::.b 0 4::.f 3::eC 3 []))) ?_
            have he:z=false:=by rw [hzz];simp [hq0,hq1,hi0]
            subst he;exact en_rets () [] [] []
          · refine en (EK [(.bool ((((q.ty:Int)):Int) == 3),.bool true),(.bool ((((q.qos:Int)):Int) == 0),.bool false),(.bool (decide ((((q.qos:Int)):Int) > 0)),.bool true),(.bool ((((q.id:Int)):Int) == 0),.bool false)] ⟨eqI (by omega),eqI' (by omega),dcT (by omega),eqI' (by omega),trivial⟩ [⟨132,#[.string q.topic],.bool true,[],[]⟩,⟨134,#[.agg (pkV ({ q with present:=pr,dup:=du }:Pk) a c)],.int .i64 (rr:Int),[],[]⟩] ⟨fun _ w _ _=>hN w,fun _ w h _=>hR w h.hp.env (hX w h.hp.low),trivial⟩) (.c::.b 0 0::.f 0::.c::.b 0 5::.k 0::eC 3 (.b 0 2::.f 1::eC 12 [.b 0 2,.f 2,.c,.c,.b 0 4,.f 3,.c,.c,.b 0 0,.k 1,.c,.c])) ?_
            have he:z=decide ((rr:Int)≤268435455):=by rw [hzz];simp [hq0,hi0]
            subst he;exact en_rets () [] [] []
    rw [if_neg t3] at hzz;cases hi
    · refine en (EK [(.bool ((((q.ty:Int)):Int) == 3),.bool false)] ⟨eqI' (by omega),trivial⟩ [⟨133,#[.string f,.int .u8 105],.bool false,[],[]⟩,⟨134,#[.agg (pkV ({ q with present:=pr,dup:=du }:Pk) a c)],.int .i64 (rr:Int),[],[]⟩] ⟨fun _ w _ _=>(hH w).mono (fun e w' h=>⟨h.1,h.2 ▸ Below.refl _ _⟩),fun _ w h _=>hR w h.hp.env (hX w h.hp.low),trivial⟩) (.c::.b 0 0::.f 0::.c::.k 0::eC 5 [.b 0 0,.k 1,.c,.c]) ?_
      have he:z=decide ((rr:Int)≤268435455):=by rw [hzz];simp
      subst he;exact en_rets () [] [] []
    · by_cases hi0:q.id=0
      · refine en (EK [(.bool ((((q.ty:Int)):Int) == 3),.bool false),(.bool ((((q.id:Int)):Int) == 0),.bool true)] ⟨eqI' (by omega),eqI (by omega),trivial⟩ [⟨133,#[.string f,.int .u8 105],.bool true,[],[]⟩] ⟨fun _ w _ _=>(hH w).mono (fun e w' h=>⟨h.1,h.2 ▸ Below.refl _ _⟩),trivial⟩) [.c,.b 0 0,.f 0,.c,.k 0,.c,.c,.b 0 4,.f 1,.c,.c] ?_
        have he:z=false:=by rw [hzz];simp [hi0]
        subst he;exact en_rets () [] [] []
      · refine en (EK [(.bool ((((q.ty:Int)):Int) == 3),.bool false),(.bool ((((q.id:Int)):Int) == 0),.bool false)] ⟨eqI' (by omega),eqI' (by omega),trivial⟩ [⟨133,#[.string f,.int .u8 105],.bool true,[],[]⟩,⟨134,#[.agg (pkV ({ q with present:=pr,dup:=du }:Pk) a c)],.int .i64 (rr:Int),[],[]⟩] ⟨fun _ w _ _=>(hH w).mono (fun e w' h=>⟨h.1,h.2 ▸ Below.refl _ _⟩),fun _ w h _=>hR w h.hp.env (hX w h.hp.low),trivial⟩) [.c,.b 0 0,.f 0,.c,.k 0,.c,.c,.b 0 4,.f 1,.c,.b 0 0,.k 1,.c,.c] ?_
        have he:z=decide ((rr:Int)≤268435455):=by rw [hzz];simp [hi0]
        subst he;exact en_rets () [] [] []
  · rw [fields_dash _ h] at hF
    have he:z=false:=by rw [← hz];unfold rightR;simp [h]
    subst he;clear hz h hre hL hC hN hR hp;obtain ⟨q,pr,du,hpq⟩:∃ (q:Pk) (pr du:Bool),p={ q with present:=pr,dup:=du }:=⟨p,p.present,p.dup,rfl⟩
    subst hpq;intro w H;refine en_call Tryz.func105 H ?_;refine en1 (EK [(.bool (((b1 [45]):ByteArray).toList == (⟨#[45]⟩:ByteArray).toList),.bool true)] ⟨eqS (rfl),trivial⟩ [⟨128,#[.int .u8 (q.ty:Int)],.string (b1 [45]),[],[]⟩] ⟨fun _ w _ _=>hF w,trivial⟩) [.x,.c,.c,.b 0 0,.k 0,.c,.g [] 1000 false,.d (eN 0 (.c::.f 0::eC 17 [])),.c] fun Y=>?_
    exact en_rets () [] [] []
theorem ref03_Right (p:Pk) (a:Option Addr) (c:Nat) (w:World) (hE:Env w) (hp:PkOk p) (ha:CellsA w a (subCells p.subs)):Calls Tryz.prog 105 #[.agg (pkV p a c)] w fun e w'=>e=.returned (.bool (rightR p))∧Below w.heap.size w w' :=
  rdc_of hE (rightS hp (fun _ h=>ha.below h))
end Go.Proofs.YtehpihmgjbmoaaaGreatDoor
