import Derived.Test.YtehpihmgjbmoaaaGreatDoorJoinPB
import Derived.Test.YtehpihmgjbmoaaaGreatDoorJoinC
import Derived.Test.YtehpihmgjbmoaaaGreatDoorJoinZA
import Derived.Deep.MidRow
import Derived.Test.YtehpihmgjbmoaaaGreatDoorJoinRP
import Derived.Test.YtehpihmgjbmoaaaGreatDoorJoinB
import Derived.Test.YtehpihmgjbmoaaaGreatDoorJoinH
namespace Go.Proofs.YtehpihmgjbmoaaaGreatDoor
open Go.RowKit
section
variable {P:Program} {ops:Array Oper} {rest:List Oper} {a:Act} {w:World} {Q:Exit→Act→World→Prop}
end
def msTQ (p q:Pk) (ty:TypeId):Sem Next:=opT [.agg (msgV p.wtopic p.wpayload p.wqos p.wret),.agg (msgV q.wtopic q.wpayload q.wqos q.wret)] (.binOp .neq 30 (.tmp 0) (.tmp 1) 30) ty
theorem neq_runQ {w:World} {t:TypeId} {x y:Value} {b:Bool} (ty:TypeId) (h2:(eqGuard .neq t (.tmp 0) (.tmp 1) x y).run Tryz.prog w=.ok () w) (h3:(binOp .neq t x y).run Tryz.prog w=.ok (.bool b) w):(opT [x,y] (.binOp .neq t (.tmp 0) (.tmp 1) t) ty).run Tryz.prog w=.ok (.value (.bool b)) w:=by
  have e0:∀ x y:Value,known (numL 0 [x,y]) (.tmp 0)=x:=fun _ _=>rfl
  have e1:∀ x y:Value,known (numL 0 [x,y]) (.tmp 1)=y:=fun _ _=>rfl
  unfold opT execOp;simp only [e0,e1,Sem.run_bind,h2,h3,Result.andThen_ok,Sem.run_pure]
theorem ms_runQ {p q:Pk} (hp:PkOk p) (hq:PkOk q) {w:World} (ty:TypeId) {b:Bool} (hb:(!decide (p.wtopic=q.wtopic∧p.wpayload=q.wpayload∧p.wqos=q.wqos∧p.wret=q.wret))=b):(msTQ p q ty).run Tryz.prog w=.ok (.value (.bool b)) w:=by
  subst hb;exact neq_runQ ty (by first | kernel_rfl | (go_simp;done)) (msg_eq p.wtopic p.wpayload q.wtopic q.wpayload p.wqos q.wqos p.wret q.wret hp.wqos hq.wqos (le_max hp.wtopic) (le_max hp.wpayload) (le_max hq.wtopic) (le_max hq.wpayload) w).2
theorem c_sub:Tryz.prog.cellsOf 112=2:=by kernel_rfl
theorem lit_sub {D:Nat} (t:ByteArray) (q:Nat) (h1:t.size≤maxLen) (h3:q < 256):Tryz.prog.keyLits (D+2) 112 [.string t,.int .u8 (q:Int)]=some [.string t.data.toList,.int .u8 (q:Int)]:=by
  unfold Program.keyLits;rw [Tryz.underlying112];simp [c_sub,c_str,c_u8,List.mapM_cons,lit_str _ h1,lit_u8 _ h3]
def seTQ (x y:Sb) (ty:TypeId):Sem Next:=opT [.agg #[.string x.1,.int .u8 (x.2:Int)],.agg #[.string y.1,.int .u8 (y.2:Int)]] (.binOp .neq 112 (.tmp 0) (.tmp 1) 112) ty
set_option maxRecDepth 100000 in
theorem se_runQ {x y:Sb} (h1:x.1.size≤300000000) (h2:x.2 < 256) (h3:y.1.size≤300000000) (h4:y.2 < 256) {w:World} (ty:TypeId) {b:Bool} (hb:(!decide (x=y))=b):(seTQ x y ty).run Tryz.prog w=.ok (.value (.bool b)) w:=by
  subst hb;refine neq_runQ ty (by first | kernel_rfl | (go_simp;done)) (eq_lits (m:=3) (by decide) (by kernel_rfl) rfl rfl (lit_sub (D:=3) x.1 x.2 (le_max h1) h2) (lit_sub (D:=3) y.1 y.2 (le_max h3) h4) _ ?_ w).2;obtain ⟨x1,x2⟩:=x;obtain ⟨y1,y2⟩:=y;rw [decide_eq_true_eq];simp only [List.cons.injEq,Lit.string.injEq,Lit.int.injEq,ba_inj,true_and,and_true,Int.natCast_inj,Prod.mk.injEq]
theorem sub_atS {w:World} {al:Option Addr} {L:List Sb} (h:CellsA w al (subCells L)) {k:Nat} {x:Sb} (hx:L[k]? = some x):∃ b o,al=some ⟨b,o,none⟩∧w.rangeAt b (o+k * 2) [.string x.1,.int .u8 (x.2:Int)]:=by
  obtain ⟨b,o,e,hj⟩:=CellsA.elem (g:=fun x:Sb=>[Value.string x.1,.int .u8 (x.2:Int)]) (m:=2) (fun _=>rfl) h hx (.string x.1) rfl;exact ⟨b,o,e,fun j v hv=>hj j v hv⟩
attribute [local irreducible] Ok
set_option maxRecDepth 100000 in
set_option maxHeartbeats 4000000 in
theorem sameS {wb:World} {p q:Pk} {a a':Option Addr} {c c':Nat} (hp:PkOk p) (hq:PkOk q) (hX:∀ w,Below wb.heap.size wb w→CellsA w a (subCells p.subs)∧CellsA w a' (subCells q.subs)):Spec Tryz.prog wb 71 #[.agg (pkV p a c),.agg (pkV q a' c')] [] [] (fun _:Unit=>.bool (decide (p=q))) (fun _=>[]) (fun _=>[]):=by
  obtain ⟨z,hz⟩:∃ z,decide (p=q)=z:=⟨_,rfl⟩
  rw [hz];have hF:p≠q→z=false:=fun h=>by rw [← hz];exact decide_eq_false h
  intro w H;refine en_call Tryz.func71 H ?_;refine en2 E0 [.x,.x,.c,.c,.b 0 0,.c,.b 1 0] fun X Y=>?_
  by_cases hn:¬ (p.ty=q.ty)
  · refine en (EF [(.bool ((((p.ty:Int)):Int) != (q.ty:Int)),.bool true)] ⟨neI (by omega),trivial⟩) (.f 0::eC 71 []) ?_
    obtain rfl:=hF fun e=>hn (by rw [e])
    exact en_rets () [] [] []
  have e10:=Decidable.byContradiction hn;clear hn;refine en (EF [(.bool ((((p.ty:Int)):Int) != (q.ty:Int)),.bool false)] ⟨neI' (by omega),trivial⟩) [.f 0,.c,.c,.b 0 1,.c,.b 1 1] ?_;by_cases hn:¬ (p.dup=q.dup)
  · refine en (EF [(.bool (!((p.dup) == (q.dup))),.bool true)] ⟨tT (by simpa using hn),trivial⟩) (.f 0::eC 65 []) ?_
    obtain rfl:=hF fun e=>hn (by rw [e])
    exact en_rets () [] [] []
  have e16:=Decidable.byContradiction hn;clear hn;refine en (EF [(.bool (!((p.dup) == (q.dup))),.bool false)] ⟨tF (by simpa using e16),trivial⟩) (.f 0::eC 3 [.b 0 2,.c,.b 1 2]) ?_;by_cases hn:¬ (p.qos=q.qos)
  · refine en (EF [(.bool ((((p.qos:Int)):Int) != (q.qos:Int)),.bool true)] ⟨neI (by omega),trivial⟩) (.f 0::eC 58 []) ?_
    obtain rfl:=hF fun e=>hn (by rw [e])
    exact en_rets () [] [] []
  have e23:=Decidable.byContradiction hn;clear hn;refine en (EF [(.bool ((((p.qos:Int)):Int) != (q.qos:Int)),.bool false)] ⟨neI' (by omega),trivial⟩) (.f 0::eC 3 [.b 0 3,.c,.b 1 3]) ?_;by_cases hn:¬ (p.ret=q.ret)
  · refine en (EF [(.bool (!((p.ret) == (q.ret))),.bool true)] ⟨tT (by simpa using hn),trivial⟩) (.f 0::eC 51 []) ?_
    obtain rfl:=hF fun e=>hn (by rw [e])
    exact en_rets () [] [] []
  have e30:=Decidable.byContradiction hn;clear hn;refine en (EF [(.bool (!((p.ret) == (q.ret))),.bool false)] ⟨tF (by simpa using e30),trivial⟩) (.f 0::eC 3 [.b 0 4,.c,.b 1 4]) ?_;by_cases hn:¬ (p.id=q.id)
  · refine en (EF [(.bool ((((p.id:Int)):Int) != (q.id:Int)),.bool true)] ⟨neI (by omega),trivial⟩) (.f 0::eC 44 []) ?_
    obtain rfl:=hF fun e=>hn (by rw [e])
    exact en_rets () [] [] []
  have e37:=Decidable.byContradiction hn;clear hn;refine en (EF [(.bool ((((p.id:Int)):Int) != (q.id:Int)),.bool false)] ⟨neI' (by omega),trivial⟩) (.f 0::eC 3 [.b 0 5,.c,.b 1 5]) ?_;by_cases hn:¬ (p.topic=q.topic)
  · refine en (EF [(.bool (!((p.topic:ByteArray).toList == (q.topic:ByteArray).toList)),.bool true)] ⟨neS (hn),trivial⟩) (.f 0::eC 37 []) ?_
    obtain rfl:=hF fun e=>hn (by rw [e])
    exact en_rets () [] [] []
  have e44:=Decidable.byContradiction hn;clear hn;refine en (EF [(.bool (!((p.topic:ByteArray).toList == (q.topic:ByteArray).toList)),.bool false)] ⟨neS' (e44),trivial⟩) (.f 0::eC 3 [.b 0 6,.c,.b 1 6]) ?_;by_cases hn:¬ (p.payload=q.payload)
  · refine en (EF [(.bool (!((p.payload:ByteArray).toList == (q.payload:ByteArray).toList)),.bool true)] ⟨neS (hn),trivial⟩) (.f 0::eC 30 []) ?_
    obtain rfl:=hF fun e=>hn (by rw [e])
    exact en_rets () [] [] []
  have e51:=Decidable.byContradiction hn;clear hn;refine en (EF [(.bool (!((p.payload:ByteArray).toList == (q.payload:ByteArray).toList)),.bool false)] ⟨neS' (e51),trivial⟩) (.f 0::eC 3 [.b 0 7,.c,.b 1 7]) ?_;by_cases hn:¬ (p.level=q.level)
  · refine en (EF [(.bool ((((p.level:Int)):Int) != (q.level:Int)),.bool true)] ⟨neI (by omega),trivial⟩) (.f 0::eC 23 []) ?_
    obtain rfl:=hF fun e=>hn (by rw [e])
    exact en_rets () [] [] []
  have e58:=Decidable.byContradiction hn;clear hn;refine en (EF [(.bool ((((p.level:Int)):Int) != (q.level:Int)),.bool false)] ⟨neI' (by omega),trivial⟩) (.f 0::eC 3 [.b 0 8,.c,.b 1 8]) ?_;by_cases hn:¬ (p.clean=q.clean)
  · refine en (EF [(.bool (!((p.clean) == (q.clean))),.bool true)] ⟨tT (by simpa using hn),trivial⟩) (.f 0::eC 16 []) ?_
    obtain rfl:=hF fun e=>hn (by rw [e])
    exact en_rets () [] [] []
  have e65:=Decidable.byContradiction hn;clear hn;refine en (EF [(.bool (!((p.clean) == (q.clean))),.bool false)] ⟨tF (by simpa using e65),trivial⟩) (.f 0::eC 3 [.b 0 9,.c,.b 1 9]) ?_;by_cases hn:¬ (p.keep=q.keep)
  · refine en (EF [(.bool ((((p.keep:Int)):Int) != (q.keep:Int)),.bool true)] ⟨neI (by omega),trivial⟩) (.f 0::eC 9 []) ?_
    obtain rfl:=hF fun e=>hn (by rw [e])
    exact en_rets () [] [] []
  have e72:=Decidable.byContradiction hn;clear hn;refine en (EF [(.bool ((((p.keep:Int)):Int) != (q.keep:Int)),.bool false)] ⟨neI' (by omega),trivial⟩) (.f 0::eC 3 [.b 0 10,.c,.b 1 10]) ?_;by_cases hn:¬ (p.client=q.client)
  · refine en (EF [(.bool (!((p.client:ByteArray).toList == (q.client:ByteArray).toList)),.bool true)] ⟨neS (hn),trivial⟩) [.f 0,.c,.c] ?_
    obtain rfl:=hF fun e=>hn (by rw [e])
    exact en_rets () [] [] []
  have e79:=Decidable.byContradiction hn;clear hn;refine en (EF [(.bool (!((p.client:ByteArray).toList == (q.client:ByteArray).toList)),.bool false)] ⟨neS' (e79),trivial⟩) [.f 0,.c,.c,.b 0 11,.c,.b 1 11] ?_;by_cases hn:¬ (p.hasWill=q.hasWill)
  · refine en (EF [(.bool (!((p.hasWill) == (q.hasWill))),.bool true)] ⟨tT (by simpa using hn),trivial⟩) (.f 0::eC 66 []) ?_
    obtain rfl:=hF fun e=>hn (by rw [e])
    exact en_rets () [] [] []
  have e85:=Decidable.byContradiction hn;clear hn;refine en (EF [(.bool (!((p.hasWill) == (q.hasWill))),.bool false)] ⟨tF (by simpa using e85),trivial⟩) [.f 0,.c,.c,.b 0 12,.c,.b 1 12] ?_;by_cases hn:¬ (p.wtopic=q.wtopic∧p.wpayload=q.wpayload∧p.wqos=q.wqos∧p.wret=q.wret)
  · refine en ⟨⟨[],[(msTQ p q 4,.bool true)]⟩,[],[],[],fun _ _ h=>⟨trivial,⟨ms_runQ hp hq 4 (by rw [decide_eq_false hn];rfl),trivial⟩⟩,trivial,trivial,trivial⟩ (.r 0::eC 60 []) ?_
    obtain rfl:=hF fun e=>hn (by rw [e];exact ⟨rfl,rfl,rfl,rfl⟩)
    exact en_rets () [] [] []
  have e91:=Decidable.byContradiction hn;clear hn;refine en ⟨⟨[],[(msTQ p q 4,.bool false)]⟩,[],[],[],fun _ _ h=>⟨trivial,⟨ms_runQ hp hq 4 (by rw [decide_eq_true e91];rfl),trivial⟩⟩,trivial,trivial,trivial⟩ (.r 0::eC 3 [.b 0 16,.c,.b 1 16]) ?_;by_cases hn:¬ (p.hasUser=q.hasUser)
  · refine en (EF [(.bool (!((p.hasUser) == (q.hasUser))),.bool true)] ⟨tT (by simpa using hn),trivial⟩) (.f 0::eC 53 []) ?_
    obtain rfl:=hF fun e=>hn (by rw [e])
    exact en_rets () [] [] []
  have e98:=Decidable.byContradiction hn;clear hn;refine en (EF [(.bool (!((p.hasUser) == (q.hasUser))),.bool false)] ⟨tF (by simpa using e98),trivial⟩) (.f 0::eC 3 [.b 0 17,.c,.b 1 17]) ?_;by_cases hn:¬ (p.hasPass=q.hasPass)
  · refine en (EF [(.bool (!((p.hasPass) == (q.hasPass))),.bool true)] ⟨tT (by simpa using hn),trivial⟩) (.f 0::eC 46 []) ?_
    obtain rfl:=hF fun e=>hn (by rw [e])
    exact en_rets () [] [] []
  have e105:=Decidable.byContradiction hn;clear hn;refine en (EF [(.bool (!((p.hasPass) == (q.hasPass))),.bool false)] ⟨tF (by simpa using e105),trivial⟩) (.f 0::eC 3 [.b 0 18,.c,.b 1 18]) ?_;by_cases hn:¬ (p.user=q.user)
  · refine en (EF [(.bool (!((p.user:ByteArray).toList == (q.user:ByteArray).toList)),.bool true)] ⟨neS (hn),trivial⟩) (.f 0::eC 39 []) ?_
    obtain rfl:=hF fun e=>hn (by rw [e])
    exact en_rets () [] [] []
  have e112:=Decidable.byContradiction hn;clear hn;refine en (EF [(.bool (!((p.user:ByteArray).toList == (q.user:ByteArray).toList)),.bool false)] ⟨neS' (e112),trivial⟩) (.f 0::eC 3 [.b 0 19,.c,.b 1 19]) ?_;by_cases hn:¬ (p.pass=q.pass)
  · refine en (EF [(.bool (!((p.pass:ByteArray).toList == (q.pass:ByteArray).toList)),.bool true)] ⟨neS (hn),trivial⟩) (.f 0::eC 32 []) ?_
    obtain rfl:=hF fun e=>hn (by rw [e])
    exact en_rets () [] [] []
  have e119:=Decidable.byContradiction hn;clear hn;refine en (EF [(.bool (!((p.pass:ByteArray).toList == (q.pass:ByteArray).toList)),.bool false)] ⟨neS' (e119),trivial⟩) (.f 0::eC 3 [.b 0 20,.c,.b 1 20]) ?_;by_cases hn:¬ (p.present=q.present)
  · refine en (EF [(.bool (!((p.present) == (q.present))),.bool true)] ⟨tT (by simpa using hn),trivial⟩) (.f 0::eC 25 []) ?_
    obtain rfl:=hF fun e=>hn (by rw [e])
    exact en_rets () [] [] []
  have e126:=Decidable.byContradiction hn;clear hn;refine en (EF [(.bool (!((p.present) == (q.present))),.bool false)] ⟨tF (by simpa using e126),trivial⟩) (.f 0::eC 3 [.b 0 21,.c,.b 1 21]) ?_;by_cases hn:¬ (p.code=q.code)
  · refine en (EF [(.bool ((((p.code:Int)):Int) != (q.code:Int)),.bool true)] ⟨neI (by omega),trivial⟩) (.f 0::eC 18 []) ?_
    obtain rfl:=hF fun e=>hn (by rw [e])
    exact en_rets () [] [] []
  have e133:=Decidable.byContradiction hn;clear hn;refine en (EF [(.bool ((((p.code:Int)):Int) != (q.code:Int)),.bool false)] ⟨neI' (by omega),trivial⟩) (.f 0::eC 3 [.b 0 23,.c,.b 1 23]) ?_;by_cases hn:¬ (p.codes=q.codes)
  · refine en (EF [(.bool (!((p.codes:ByteArray).toList == (q.codes:ByteArray).toList)),.bool true)] ⟨neS (hn),trivial⟩) (.f 0::eC 11 []) ?_
    obtain rfl:=hF fun e=>hn (by rw [e])
    exact en_rets () [] [] []
  have e140:=Decidable.byContradiction hn;clear hn;refine en (EF [(.bool (!((p.codes:ByteArray).toList == (q.codes:ByteArray).toList)),.bool false)] ⟨neS' (e140),trivial⟩) (.f 0::eC 3 [.b 0 22,.c,.c,.b 1 22,.c]) ?_;by_cases hn:¬ (p.subs.length=q.subs.length)
  · refine en (EF [(.bool ((((p.subs.length:Int)):Int) != (q.subs.length:Int)),.bool true)] ⟨neI (by omega),trivial⟩) [.f 0,.c,.c] ?_
    obtain rfl:=hF fun e=>hn (by rw [e])
    exact en_rets () [] [] []
  have e149:=Decidable.byContradiction hn;clear hn;refine en (EF [(.bool ((((p.subs.length:Int)):Int) != (q.subs.length:Int)),.bool false)] ⟨neI' (by omega),trivial⟩) [.f 0,.c] ?_;have hbare:p.bare=q.bare:=by
    obtain ⟨w1,w2,w3,w4⟩:=e91;unfold Pk.bare;rw [e10,e16,e23,e30,e37,e44,e51,e58,e65,e72,e79,e85,e98,e105,e112,e119,e126,e133,e140,w1,w2,w3,w4]
  have hS:p.subs≠q.subs→z=false:=fun h=>hF fun e=>h (by rw [e])
  have hT:p.subs=q.subs→z=true:=fun h=>by rw [← hz,same_bare,hbare,h];simp
  refine en E0 [.c] ?_;refine en_loopP (codeOf Tryz.f71) [1,1,1,0,1,0] [1,1,1,0,1,0,0] [] (α:={k:Nat // k≤p.subs.length∧p.subs.take k=q.subs.take k}) (fun y=>p.subs.length - y.1) (fun y=>[(2,.pointer (some ⟨X,0,none⟩)),(3,.pointer (some ⟨Y,0,none⟩)),(5,.int .i64 (y.1:Int))]) (fun y=>[⟨X,(pkV p a c).toList,33⟩,⟨Y,(pkV q a' c').toList,33⟩]) (fun y=>many []) ⟨0,Nat.zero_le _,rfl⟩ (by kernel_rfl) ?_;intro ⟨k,hk0,hkt⟩ J HJ;simp only at HJ
  by_cases hk:k < p.subs.length
  · have hk2:k < q.subs.length:=by omega
    have hfw:=hp.few;obtain ⟨x,hx⟩:∃ x,p.subs[k]? = some x:=⟨_,List.getElem?_eq_getElem hk⟩
    obtain ⟨y,hy⟩:∃ x,q.subs[k]? = some x:=⟨_,List.getElem?_eq_getElem hk2⟩
    obtain ⟨x1,x2⟩:=hp.each x (List.mem_of_getElem? hx);obtain ⟨y1,y2⟩:=hq.each y (List.mem_of_getElem? hy);refine en_factK (p:=(∃ ga oa,a=some ⟨ga,oa,none⟩)∧∃ gb ob,a'=some ⟨gb,ob,none⟩) (fun w h=>by obtain ⟨b,o,h1,_⟩:=sub_atS (hX w h.hp.low).1 hx;obtain ⟨b2,o2,h2,_⟩:=sub_atS (hX w h.hp.low).2 hy;exact ⟨⟨b,o,h1⟩,b2,o2,h2⟩) ?_;rintro ⟨⟨ga,oa,rfl⟩,gb,ob,rfl⟩;have HRX:∀ w,Below wb.heap.size wb w→w.rangeAt ga (oa+k * 2) [.string x.1,.int .u8 (x.2:Int)]:=fun w h1=>by
      obtain ⟨g',o',h3,h4⟩:=sub_atS (hX w h1).1 hx;injection h3 with h3
      injection h3 with h3 h5
      subst h3 h5;exact h4
    have HRY:∀ w,Below wb.heap.size wb w→w.rangeAt gb (ob+k * 2) [.string y.1,.int .u8 (y.2:Int)]:=fun w h1=>by
      obtain ⟨g',o',h3,h4⟩:=sub_atS (hX w h1).2 hy;injection h3 with h3
      injection h3 with h3 h5
      subst h3 h5;exact h4
    by_cases hne:¬ x=y
    · refine en (EF [(.bool (decide ((((k:Int)):Int) < (p.subs.length:Int))),.bool true)] ⟨dcT (by omega),trivial⟩) [.c,.c,.b 0 22,.c,.f 0] ?_
      refine en ⟨⟨[⟨ga,oa+k * 2,[.string x.1,.int .u8 (x.2:Int)]⟩,⟨gb,ob+k * 2,[.string y.1,.int .u8 (y.2:Int)]⟩],[(seTQ x y 4,.bool true)]⟩,[],[⟨some ⟨ga,oa,none⟩,p.subs.length,c,.i64,k,2,⟨ga,oa+k * 2,none⟩⟩,⟨some ⟨gb,ob,none⟩,q.subs.length,c',.i64,k,2,⟨gb,ob+k * 2,none⟩⟩],[],fun _ _ h=>⟨⟨HRX _ h.hp.low,HRY _ h.hp.low,trivial⟩,⟨se_runQ x1 x2 y1 y2 4 (by rw [decide_eq_false hne];rfl),trivial⟩⟩,trivial,⟨⟨ga,oa,k,rfl,rfl,hk,rfl⟩,⟨gb,ob,k,rfl,rfl,hk2,rfl⟩,trivial⟩,trivial⟩ [.g [(0,22,1),(1,22,1)] 1000 true,.d (eN 0 [.c,.l 0 0,.c,.i 0,.l 2 0,.c,.l 1 0,.c,.i 1,.l 3 0,.r 0]),.c] ?_;obtain rfl:=hS fun e=>hne (by rw [e,hy] at hx;injection hx with hx;exact hx.symm)
      exact en_rets () [] [] []
    have he:=Decidable.byContradiction hne;refine en (EF [(.bool (decide ((((k:Int)):Int) < (p.subs.length:Int))),.bool true)] ⟨dcT (by omega),trivial⟩) [.c,.c,.b 0 22,.c,.f 0] ?_;refine en ⟨⟨[⟨ga,oa+k * 2,[.string x.1,.int .u8 (x.2:Int)]⟩,⟨gb,ob+k * 2,[.string y.1,.int .u8 (y.2:Int)]⟩],[(seTQ x y 4,.bool false)]⟩,[(.int .i64 (IntKind.i64.wrap ((k:Int)+1)),.int .i64 ((k+1:Nat):Int))],[⟨some ⟨ga,oa,none⟩,p.subs.length,c,.i64,k,2,⟨ga,oa+k * 2,none⟩⟩,⟨some ⟨gb,ob,none⟩,q.subs.length,c',.i64,k,2,⟨gb,ob+k * 2,none⟩⟩],[],fun _ _ h=>⟨⟨HRX _ h.hp.low,HRY _ h.hp.low,trivial⟩,⟨se_runQ x1 x2 y1 y2 4 (by rw [decide_eq_true he];rfl),trivial⟩⟩,⟨addI (by omega),trivial⟩,⟨⟨ga,oa,k,rfl,rfl,hk,rfl⟩,⟨gb,ob,k,rfl,rfl,hk2,rfl⟩,trivial⟩,trivial⟩ [.g [(0,22,1),(1,22,1)] 1000 true,.d (eN 0 [.c,.l 0 0,.c,.i 0,.l 2 0,.c,.l 1 0,.c,.i 1,.l 3 0,.r 0]),.c,.f 0,.c] ?_;exact en_stopI (fun a w F HK=>HJ ⟨k+1,by omega,by rw [List.take_add_one,List.take_add_one,hkt,hx,hy,he]⟩ a w (by show _ - (k+1) < _ - k;omega) F HK)
  obtain rfl:=hT (by have h1:p.subs.take k=p.subs:=List.take_of_length_le (by omega);have h2:q.subs.take k=q.subs:=List.take_of_length_le (by omega);rw [← h1,← h2];exact hkt);refine en (EF [(.bool (decide ((((k:Int)):Int) < (p.subs.length:Int))),.bool false)] ⟨dcF (by omega),trivial⟩) [.c,.c,.b 0 22,.c,.f 0,.c] ?_;exact en_rets () [] [] []
theorem ref03_Same (p q:Pk) (a a':Option Addr) (c c':Nat) (w:World) (hE:Env w) (hp:PkOk p) (hq:PkOk q) (ha:CellsA w a (subCells p.subs)) (hb:CellsA w a' (subCells q.subs)):Calls Tryz.prog 71 #[.agg (pkV p a c),.agg (pkV q a' c')] w fun e w'=>e=.returned (.bool (decide (p=q)))∧Below w.heap.size w w' :=
  rdc_of hE (sameS hp hq (fun _ h=>⟨ha.below h,hb.below h⟩))
end Go.Proofs.YtehpihmgjbmoaaaGreatDoor
namespace Go.Proofs.YtehpihmgjbmoaaaGreatDoor
open Go.RowKit
set_option maxRecDepth 100000 in
set_option maxHeartbeats 8000000 in
theorem ref03_connect (p:Pk) (a:Option Addr) (c:Nat) (w:World) (hp:PkOk p):Calls Tryz.prog 131 #[.agg (pkV p a c)] w fun e w'=>e=.returned (.bool (connectR p))∧Below w.heap.size w w':=by
  have s1:=hp.client;have s2:=hp.wtopic;have s3:=hp.wpayload;have s4:=hp.user;have s5:=hp.pass;have HV:=Lib.hid (fun (w1:World)=>ref02_Valid p.client w1 (by omega));have HU:=Lib.hid (fun (w1:World)=>ref02_Valid p.user w1 (by omega));have HN:=Lib.hid (fun (w1:World)=>ref03_Name p.wtopic w1 s2);rw [show p.client.data.toList=bl p.client from rfl] at HV;rw [show p.user.data.toList=bl p.user from rfl] at HU;have FIN:=Lib.hid (show ∀ (n:Bool) (w':World),connectR p=n→Below w.heap.size w w'→Ending.returned (.bool n)=.returned (.bool (connectR p))∧Below w.heap.size w w' from by rintro n w' rfl h;exact ⟨rfl,h⟩);clear hp;obtain ⟨k0,k1,k2,k3,k4,k5,k6,k7,k8,k9,k10,k11,k12,k13,k14,k15,k16,k17,k18,k19,k20,k21,k22,k23⟩:=pk_at p a c;have eu:=empty_toList p.user;have ep:=empty_toList p.pass;have hb:Below w.heap.size w (w.alloc (.cells (pkV p a c) 33)):=(Below.refl _ _).alloc (Nat.le_refl _) _;have HBX:=Lib.hid (BoxAt.new w (pkV p a c) 33);go_enter Tryz.func131,Tryz.ntmps131
  go_wp2_with (first
    | (go_at_call 132;(with_reducible refine Calls.mono (HN.out _) ?_);rintro e w1 ⟨rfl,hb1⟩;replace HBX:=Lib.hid (HBX.out.below hb1);have hX:=HBX.out.cells;replace hb:=Below.then hb hb1;clear hb1)
    | (go_at_call 151;(with_reducible refine Calls.mono (HV.out _) ?_);rintro e w1 ⟨rfl,hb1⟩;replace HBX:=Lib.hid (HBX.out.below hb1);have hX:=HBX.out.cells;replace hb:=Below.then hb hb1;clear hb1)
    | (go_at_call 151;(with_reducible refine Calls.mono (HU.out _) ?_);rintro e w1 ⟨rfl,hb1⟩;replace HBX:=Lib.hid (HBX.out.below hb1);have hX:=HBX.out.cells;replace hb:=Below.then hb hb1;clear hb1))
  all_goals go_ret
  all_goals
    refine FIN.out _ _ ?_ hb;have q1:=nil_e0 p.wtopic;have q2:=nil_e0 p.wpayload;clear FIN HV HU HN HBX hb;clear k0 k1 k2 k3 k4 k5 k6 k7 k8 k9 k10 k11 k12 k13 k14 k15 k16 k17 k18 k19 k20 k21 k22 k23;unfold connectR willOk willZero;simp_all
  all_goals (try omega)
  all_goals (rw [Bool.eq_iff_iff];simp only [Bool.and_eq_true,decide_eq_true_eq];omega)
end Go.Proofs.YtehpihmgjbmoaaaGreatDoor
namespace Go.Proofs.YtehpihmgjbmoaaaGreatDoor
open Go.RowKit
theorem subR_val (p:Pk) (x:Sb) {f b2 b10 b0:Bool} (hf:filterL (bl x.1)=f) (h2:decide ((2:Int) < (x.2:Int))=b2) (h10:((p.ty:Int) == 10)=b10) (h0:decide (0 < x.2)=b0):subR p x=(f && !b2 && !(b10 && b0)):=by
  unfold subR fB;rw [hf];have e2:decide (x.2≤2)=!b2:=by
    rw [← h2,Bool.eq_iff_iff];simp;omega
  have e10:decide (p.ty=10)=b10:=by
    rw [← h10,Bool.eq_iff_iff];simp;omega
  rw [e2,e10,h0]
theorem code_val (b:UInt8) {c2 c128:Bool} (h2:decide ((2:Int) < (b.toNat:Int))=c2) (h128:((b.toNat:Int) != 128)=c128):codeOk b=!(c2 && c128):=by
  unfold codeOk;have e2:decide (b.toNat≤2)=!c2:=by
    rw [← h2,Bool.eq_iff_iff];simp;omega
  have e3:decide (b.toNat=128)=!c128:=by
    rw [← h128,Bool.eq_iff_iff];simp;omega
  rw [e2,e3];cases c2 <;> cases c128 <;> rfl
theorem all_step {α:Type} (f:α→Bool) (L:List α) (k:Nat) (x:α) (hx:L[k]? = some x) (h:(L.take k).all f=true):(L.take (k+1)).all f=f x:=by
  rw [List.take_add_one,hx,List.all_append,h];simp
theorem all_no {α:Type} (f:α→Bool) (L:List α) (k:Nat) (x:α) (hx:L[k]? = some x) (h:f x=false):L.all f=false:=by
  rw [List.all_eq_false];exact ⟨x,List.mem_of_getElem? hx,by rw [h];decide⟩
set_option maxRecDepth 100000 in
set_option maxHeartbeats 8000000 in
theorem ref03_lists (p:Pk) (a:Option Addr) (c:Nat) (w:World) (hE:Env w) (hp:PkOk p) (ha:CellsA w a (subCells p.subs)):Calls Tryz.prog 130 #[.agg (pkV p a c)] w fun e w'=>e=.returned (.bool (listsR p))∧Below w.heap.size w w':=by
  have s7:=hp.codes;have hfew:=hp.few;have HEA:=Lib.hid hp.each;have FIN:=Lib.hid (show ∀ (n:Bool) (w':World),listsR p=n→Below w.heap.size w w'→Ending.returned (.bool n)=.returned (.bool (listsR p))∧Below w.heap.size w w' from by rintro n w' rfl h;exact ⟨rfl,h⟩);have HK:=Lib.hid ((Keep.begin hE [(a,subCells p.subs)] (by intro r hr;simp at hr;subst hr;exact ha)).alloc' (pkV p a c) 33 w.heap.size rfl);obtain ⟨k0,k1,k2,k3,k4,k5,k6,k7,k8,k9,k10,k11,k12,k13,k14,k15,k16,k17,k18,k19,k20,k21,k22,k23⟩:=pk_at p a c;clear hp hE ha;obtain ⟨b10,h10⟩:∃ b,((p.ty:Int) == 10)=b:=⟨_,rfl⟩
  go_enter Tryz.func130,Tryz.ntmps130
  go_upto_region 1 with fail
  show Code.wp _ _ _ _ (w.alloc (.cells (pkV p a c) 33));generalize World.alloc w _=w2 at HK ⊢;go_wp2_with fail
  go_loopw [3] (fun i wr=>∃ k:Nat,k≤p.subs.length∧i=.int .i64 k∧Hid ((p.subs.take k).all (subR p)=true)∧Hid (Keep w [(w.heap.size,pkV p a c,33)] [(a,subCells p.subs)] wr)) (fun i _=>p.subs.length - (intOf i).toNat)
  case atStart=>exact ⟨0,by omega,rfl,rfl,HK⟩
  case round =>
    clear HK;obtain ⟨k,hk,rfl,HP,HK⟩:=hrel;have hX:=(HK.out.at 0 rfl).cells;by_cases hlt:k < p.subs.length
    · obtain ⟨x,hx⟩:∃ x,p.subs[k]? = some x:=⟨_,List.getElem?_eq_getElem hlt⟩
      obtain ⟨b,o,ha1,hc1,hc2⟩:=(HK.out.rowAt 0 rfl).sub hx;subst ha1;have hbl:=World.block_lt_of_cell? _ _ hc2;dsimp only at hbl
      have hxs:=(HEA.out x (List.mem_of_getElem? hx)).1;have hF:=fun w1=>ref03_Filter x.1 w1 hxs
      obtain ⟨f,hf⟩:∃ f,filterL (bl x.1)=f:=⟨_,rfl⟩
      obtain ⟨b2,h2⟩:∃ b2,decide ((2:Int) < (x.2:Int))=b2:=⟨_,rfl⟩
      obtain ⟨b0,h0⟩:∃ b2,decide (0 < x.2)=b2:=⟨_,rfl⟩
      have hv:=subR_val p x hf h2 h10 h0;have HST:=Lib.hid ((all_step (subR p) p.subs k x hx HP.out).trans hv);have HNO:=Lib.hid (fun h=>all_no (subR p) p.subs k x hx (hv.trans h));rw [hf] at hF;have HF:=Lib.hid hF;clear hv hx hf hF;cases f
      · have HX:=Lib.hid (show listsR p=false by unfold listsR;rw [HNO.out rfl];rfl)
        clear h2 h0;go_wp2_with (go_at_call 150;(with_reducible refine Calls.mono (HF.out _) ?_);rintro e w1 ⟨rfl,hb1⟩;replace HK:=Lib.hid (HK.out.below hb1);have hX:=(HK.out.at 0 rfl).cells;clear hb1)
        go_ret
        exact FIN.out _ _ HX.out HK.out.low
      · cases b2
        · cases b10 <;> cases b0
          rotate_right
          · have HX:=Lib.hid (show listsR p=false by unfold listsR;rw [HNO.out rfl];rfl)
            go_wp2_with (go_at_call 150;(with_reducible refine Calls.mono (HF.out _) ?_);rintro e w1 ⟨rfl,hb1⟩;have HCL:=Lib.hid (hb1.cell (p:=⟨b,o+k * 2+1,none⟩) hbl);replace HK:=Lib.hid (HK.out.below hb1);have hX:=(HK.out.at 0 rfl).cells;have hc3:=HCL.out.trans hc2;clear hb1)
            go_ret
            exact FIN.out _ _ HX.out HK.out.low
          · go_wp2_with (go_at_call 150;(with_reducible refine Calls.mono (HF.out _) ?_);rintro e w1 ⟨rfl,hb1⟩;have HCL:=Lib.hid (hb1.cell (p:=⟨b,o+k * 2+1,none⟩) hbl);replace HK:=Lib.hid (HK.out.below hb1);have hX:=(HK.out.at 0 rfl).cells;have hc3:=HCL.out.trans hc2;clear hb1)
            go_roundw
            case rel=>exact ⟨k+1,by omega,by first | rfl | go_num,HST,HK⟩
            case measure=>simp [intOf];omega
          · go_wp2_with (go_at_call 150;(with_reducible refine Calls.mono (HF.out _) ?_);rintro e w1 ⟨rfl,hb1⟩;have HCL:=Lib.hid (hb1.cell (p:=⟨b,o+k * 2+1,none⟩) hbl);replace HK:=Lib.hid (HK.out.below hb1);have hX:=(HK.out.at 0 rfl).cells;have hc3:=HCL.out.trans hc2;clear hb1)
            go_roundw
            case rel=>exact ⟨k+1,by omega,by first | rfl | go_num,HST,HK⟩
            case measure=>simp [intOf];omega
          · go_wp2_with (go_at_call 150;(with_reducible refine Calls.mono (HF.out _) ?_);rintro e w1 ⟨rfl,hb1⟩;have HCL:=Lib.hid (hb1.cell (p:=⟨b,o+k * 2+1,none⟩) hbl);replace HK:=Lib.hid (HK.out.below hb1);have hX:=(HK.out.at 0 rfl).cells;have hc3:=HCL.out.trans hc2;clear hb1)
            go_roundw
            case rel=>exact ⟨k+1,by omega,by first | rfl | go_num,HST,HK⟩
            case measure=>simp [intOf];omega
        · have HX:=Lib.hid (show listsR p=false by unfold listsR;rw [HNO.out rfl];rfl)
          clear h0;go_wp2_with (go_at_call 150;(with_reducible refine Calls.mono (HF.out _) ?_);rintro e w1 ⟨rfl,hb1⟩;have HCL:=Lib.hid (hb1.cell (p:=⟨b,o+k * 2+1,none⟩) hbl);replace HK:=Lib.hid (HK.out.below hb1);have hX:=(HK.out.at 0 rfl).cells;have hc3:=HCL.out.trans hc2;clear hb1)
          go_ret
          exact FIN.out _ _ HX.out HK.out.low
    · have hk2:k=p.subs.length:=by omega
      subst hk2;have ha:=HP.out;rw [List.take_length] at ha;have HA:=Lib.hid ha;clear ha HP hlt hk;go_wp2_with fail
      clear hX;go_loopw [4] (fun i wr=>∃ k:Nat,k≤p.codes.size∧i=.int .i64 k∧Hid (((bl p.codes).take k).all codeOk=true)∧Hid (Keep w [(w.heap.size,pkV p a c,33)] [(a,subCells p.subs)] wr)) (fun i _=>p.codes.size - (intOf i).toNat)
      case atStart=>exact ⟨0,by omega,rfl,rfl,HK⟩
      case round =>
        clear HK;obtain ⟨k,hk,rfl,HP,HK⟩:=hrel;have hX:=(HK.out.at 0 rfl).cells;by_cases hlt:k < p.codes.size
        · have hx:=get_bl p.codes k hlt
          obtain ⟨c2,h2⟩:∃ c2,decide ((2:Int) < ((p.codes[k]'hlt).toNat:Int))=c2:=⟨_,rfl⟩
          obtain ⟨c3,h3⟩:∃ c2,(((p.codes[k]'hlt).toNat:Int) != 128)=c2:=⟨_,rfl⟩
          have hv:=code_val _ h2 h3;have HST:=Lib.hid ((all_step codeOk (bl p.codes) k _ hx HP.out).trans hv);have HNO:=Lib.hid (fun h=>all_no codeOk (bl p.codes) k _ hx (hv.trans h));clear hv hx;cases c2 <;> cases c3
          rotate_right
          · have HX:=Lib.hid (show listsR p=false by unfold listsR;rw [HNO.out rfl,Bool.and_false];rfl)
            go_wp2_with fail
            go_ret
            exact FIN.out _ _ HX.out HK.out.low
          · go_wp2_with fail
            go_roundw
            case rel=>exact ⟨k+1,by omega,by first | rfl | go_num,HST,HK⟩
            case measure=>simp [intOf];omega
          · go_wp2_with fail
            go_roundw
            case rel=>exact ⟨k+1,by omega,by first | rfl | go_num,HST,HK⟩
            case measure=>simp [intOf];omega
          · go_wp2_with fail
            go_roundw
            case rel=>exact ⟨k+1,by omega,by first | rfl | go_num,HST,HK⟩
            case measure=>simp [intOf];omega
        · have hk2:k=p.codes.size:=by omega
          subst hk2;have ha:=HP.out;rw [← bl_len,List.take_length] at ha;obtain ⟨l,hl⟩:∃ l,decide (0 < p.subs.length)=l:=⟨_,rfl⟩
          obtain ⟨b8,h8⟩:∃ b,((p.ty:Int) == 8)=b:=⟨_,rfl⟩
          obtain ⟨b9,h9⟩:∃ b,((p.ty:Int) == 9)=b:=⟨_,rfl⟩
          have HX:=Lib.hid (show listsR p=(((b8 || b10) == l) && (b9 == decide (0 < p.codes.size))) by
            unfold listsR;rw [HA.out,ha];have e1:decide (p.ty=8∨p.ty=10)=(b8 || b10):=by rw [← h8,← h10,Bool.eq_iff_iff];simp;omega
            have e2:(!p.subs.isEmpty)=l:=by
              rw [← hl];cases p.subs with
              | nil=>rfl
              | cons x r=>simp
            have e3:decide (p.ty=9)=b9:=by rw [← h9,Bool.eq_iff_iff];simp;omega
            have e4:(!(bl p.codes).isEmpty)=decide (0 < p.codes.size):=by
              rw [empty_size];by_cases h:p.codes.size=0
              · rw [decide_eq_true h,h];rfl
              · rw [decide_eq_false h,decide_eq_true (by omega)];rfl
            rw [e1,e2,e3,e4];rfl)
          clear ha HP;cases b8 <;> cases b10 <;> cases b9 <;> cases l
          all_goals
            go_wp2_with fail
            go_ret
            exact FIN.out _ _ (HX.out.trans (by first | rfl | simp)) HK.out.low
end Go.Proofs.YtehpihmgjbmoaaaGreatDoor
namespace Go.Proofs.YtehpihmgjbmoaaaGreatDoor
open Go.RowKit
attribute [local irreducible] Ok
theorem wrJ {x:Int} {k:Nat} (h:x=(k:Int)) (hk:k≤9000000000000000000):Value.int .i64 (IntKind.i64.wrap x)=.int .i64 (k:Int):=by
  congr 1;rw [IntKind.wrap_i64];omega
def pkW (q:Pk) (wi us pw:Bool):Pk:={ q with hasWill:=wi,hasUser:=us,hasPass:=pw }
set_option maxRecDepth 100000 in
set_option maxHeartbeats 4000000 in
theorem rrestS {wb:World} {p:Pk} {a:Option Addr} {c:Nat} (hp:PkOk p) (hX:∀ w,Below wb.heap.size wb w→CellsA w a (subCells p.subs)):Spec Tryz.prog wb 134 #[.agg (pkV p a c)] [] [] (fun _:Unit=>.int .i64 (restR p:Nat)) (fun _=>[]) (fun _=>[]):=by
  obtain ⟨q,wi,us,pw,rfl⟩:∃ (q:Pk) (wi us pw:Bool),p=pkW q wi us pw:=⟨p,p.hasWill,p.hasUser,p.hasPass,rfl⟩
  obtain ⟨z,hz⟩:∃ z,restR (pkW q wi us pw)=z:=⟨_,rfl⟩
  rw [hz];have f1:q.payload.size≤300000000:=hp.payload;have f2:q.codes.size≤300000000:=hp.codes;have f3:q.client.size≤300000000:=hp.client;have f4:q.wtopic.size≤300000000:=hp.wtopic;have f5:q.wpayload.size≤300000000:=hp.wpayload;have f6:q.user.size≤300000000:=hp.user;have f7:q.pass.size≤300000000:=hp.pass;have f8:q.topic.size≤300000000:=hp.topic;have f9:q.subs.length≤100000000:=hp.few;have f10:∀ x ∈ q.subs,x.1.size≤300000000∧x.2 < 256:=hp.each;have f11:q.ty < 256:=hp.ty;have f12:q.id < 65536:=hp.id;replace hX:∀ w,Below wb.heap.size wb w→CellsA w a (subCells q.subs):=hX;clear hp;obtain ⟨d,hd⟩:∃ d,(if q.ty=8 then 1 else 0)=d:=⟨_,rfl⟩
  have hd1:d≤1:=by rw [← hd];split <;> omega
  have hsum:∀ k,subsLen d (q.subs.take k)≤30000000300000000:=fun k=>by
    have h1:=subsLen_le d hd1 (q.subs.take k) fun x hx=>(f10 x (List.mem_of_mem_take hx)).1
    have h2:(q.subs.take k).length≤100000000:=by rw [List.length_take];omega
    omega
  have hz2:q.payload.size+q.codes.size+(if q.id=0 then 0 else 2)+subsLen d (q.subs.take q.subs.length)+(if q.ty=1 then connectLen (pkW q wi us pw) else if q.ty=2 then 2 else if q.ty=3 then 2+q.topic.size else 0)=z:=by
    rw [List.take_length,← hz,← hd];rfl
  clear hz;intro w H;refine en_call Tryz.func134 H ?_;refine en1 (EF [(.int .i64 (IntKind.i64.wrap ((q.payload.size:Int)+(q.codes.size:Int))),.int .i64 ((q.payload.size+q.codes.size:Nat):Int))] ⟨wrJ (by omega) (by omega),trivial⟩) [.x,.c,.c,.b 0 6,.c,.c,.b 0 23,.c,.f 0,.c] fun X=>?_
  refine en_meetP (codeOf Tryz.f134) [1,1,0] [] (α:={m:Nat // m=q.payload.size+q.codes.size+(if q.id=0 then 0 else 2)}) 1 (fun y=>[(1,.pointer (some ⟨X,0,none⟩)),(2,.int .i64 0),(3,.int .i64 (y.1:Int))]) (fun y=>[⟨X,(pkV (pkW q wi us pw) a c).toList,33⟩]) (fun y=>many []) ?_ ?_
  · intro JW HJW
    by_cases hi:q.id=0
    · refine en (EF [(.bool (decide ((((q.id:Int)):Int) > 0)),.bool false)] ⟨dcF (by omega),trivial⟩) [.c,.b 0 4,.f 0] ?_
      exact en_stopI (fun a w F HK=>HJW ⟨q.payload.size+q.codes.size,by rw [if_pos hi];rfl⟩ a w F HK)
    · refine en (EF [(.bool (decide ((((q.id:Int)):Int) > 0)),.bool true),(.int .i64 (IntKind.i64.wrap ((((q.payload.size+q.codes.size:Nat):Int):Int)+(2:Int))),.int .i64 ((q.payload.size+q.codes.size+2:Nat):Int))] ⟨dcT (by omega),wrJ (by omega) (by omega),trivial⟩) [.c,.b 0 4,.f 0,.c,.f 1,.c] ?_
      exact en_stopI (fun a w F HK=>HJW ⟨q.payload.size+q.codes.size+2,by rw [if_neg hi]⟩ a w F HK)
  rintro ⟨m,hm⟩;have hmb:m≤600000002:=by split at hm <;> omega
  rw [← hm] at hz2;refine en E0 [.c] ?_;refine en_loopP (codeOf Tryz.f134) [1,1,1,0,1,0] [1,1,1,0,1,0,0] [] (α:={y:Nat × Nat // y.1≤q.subs.length∧y.2=m+subsLen d (q.subs.take y.1)}) (fun y=>q.subs.length - y.1.1) (fun y=>[(1,.pointer (some ⟨X,0,none⟩)),(2,.int .i64 0),(3,.int .i64 (y.1.2:Int)),(4,.int .i64 (y.1.1:Int))]) (fun y=>[⟨X,(pkV (pkW q wi us pw) a c).toList,33⟩]) (fun y=>many []) ⟨(0,m),Nat.zero_le _,rfl⟩ (by kernel_rfl) ?_;intro ⟨⟨k,n⟩,hk0,hn⟩ J HJ;simp only at hk0 hn
  have hnb:=hsum k;by_cases hk:k < q.subs.length
  · obtain ⟨x,hx⟩:∃ x,q.subs[k]? = some x:=⟨_,List.getElem?_eq_getElem hk⟩
    obtain ⟨x1,x2⟩:=f10 x (List.mem_of_getElem? hx);have hst:subsLen d (q.subs.take (k+1))=subsLen d (q.subs.take k)+(2+x.1.size+d):=by rw [List.take_add_one,hx];exact subLen_more d _ x
    refine en_factK (p:=∃ ga oa,a=some ⟨ga,oa,none⟩) (fun w h=>by obtain ⟨b,o,h1,_⟩:=sub_atS (hX w h.hp.low) hx;exact ⟨b,o,h1⟩) ?_;rintro ⟨ga,oa,rfl⟩;have HRX:∀ w,Below wb.heap.size wb w→w.rangeAt ga (oa+k * 2) [.string x.1,.int .u8 (x.2:Int)]:=fun w h1=>by
      obtain ⟨g',o',h3,h4⟩:=sub_atS (hX w h1) hx;injection h3 with h3
      injection h3 with h3 h5
      subst h3 h5;exact h4
    by_cases h8:q.ty=8
    · refine en ⟨⟨[⟨ga,oa+k * 2,[.string x.1,.int .u8 (x.2:Int)]⟩],[]⟩,[(.bool (decide ((((k:Int)):Int) < (q.subs.length:Int))),.bool true),(.int .i64 (IntKind.i64.wrap ((n:Int)+(2:Int))),.int .i64 ((n+2:Nat):Int)),(.int .i64 (IntKind.i64.wrap ((((n+2:Nat):Int):Int)+(x.1.size:Int))),.int .i64 ((n+2+x.1.size:Nat):Int)),(.bool ((((q.ty:Int)):Int) == 8),.bool true),(.int .i64 (IntKind.i64.wrap ((((n+2+x.1.size:Nat):Int):Int)+(1:Int))),.int .i64 ((n+2+x.1.size+1:Nat):Int)),(.int .i64 (IntKind.i64.wrap ((k:Int)+1)),.int .i64 ((k+1:Nat):Int))],[⟨some ⟨ga,oa,none⟩,q.subs.length,c,.i64,k,2,⟨ga,oa+k * 2,none⟩⟩],[],fun _ _ h=>⟨⟨HRX _ h.hp.low,trivial⟩,trivial⟩,⟨dcT (by omega),wrJ (by omega) (by omega),wrJ (by omega) (by omega),eqI (by omega),wrJ (by omega) (by omega),addI (by omega),trivial⟩,⟨⟨ga,oa,k,rfl,rfl,hk,rfl⟩,trivial⟩,trivial⟩ [.c,.c,.b 0 22,.c,.f 0,.c,.f 1,.c,.b 0 22,.c,.i 0,.c,.l 0 0,.c,.f 2,.c,.c,.b 0 0,.f 3,.c,.f 4,.c,.c,.f 5,.c] ?_
      have hd8:d=1:=by rw [← hd,if_pos h8]
      have hn2:n+2+x.1.size+1=m+subsLen d (q.subs.take (k+1)):=by omega
      exact en_stopI (fun a w F HK=>HJ ⟨(k+1,n+2+x.1.size+1),hk,hn2⟩ a w (by show _ - (k+1) < _ - k;omega) F HK)
    · refine en ⟨⟨[⟨ga,oa+k * 2,[.string x.1,.int .u8 (x.2:Int)]⟩],[]⟩,[(.bool (decide ((((k:Int)):Int) < (q.subs.length:Int))),.bool true),(.int .i64 (IntKind.i64.wrap ((n:Int)+(2:Int))),.int .i64 ((n+2:Nat):Int)),(.int .i64 (IntKind.i64.wrap ((((n+2:Nat):Int):Int)+(x.1.size:Int))),.int .i64 ((n+2+x.1.size:Nat):Int)),(.bool ((((q.ty:Int)):Int) == 8),.bool false),(.int .i64 (IntKind.i64.wrap ((k:Int)+1)),.int .i64 ((k+1:Nat):Int))],[⟨some ⟨ga,oa,none⟩,q.subs.length,c,.i64,k,2,⟨ga,oa+k * 2,none⟩⟩],[],fun _ _ h=>⟨⟨HRX _ h.hp.low,trivial⟩,trivial⟩,⟨dcT (by omega),wrJ (by omega) (by omega),wrJ (by omega) (by omega),eqI' (by omega),addI (by omega),trivial⟩,⟨⟨ga,oa,k,rfl,rfl,hk,rfl⟩,trivial⟩,trivial⟩ [.c,.c,.b 0 22,.c,.f 0,.c,.f 1,.c,.b 0 22,.c,.i 0,.c,.l 0 0,.c,.f 2,.c,.c,.b 0 0,.f 3,.c,.f 4,.c] ?_
      have hd8:d=0:=by rw [← hd,if_neg h8]
      have hn2:n+2+x.1.size=m+subsLen d (q.subs.take (k+1)):=by omega
      exact en_stopI (fun a w F HK=>HJ ⟨(k+1,n+2+x.1.size),hk,hn2⟩ a w (by show _ - (k+1) < _ - k;omega) F HK)
  have hk3:k=q.subs.length:=by omega
  rw [hk3] at hn;rw [← hn] at hz2;have hnb2:n≤40000000000000000:=by omega
  by_cases h1:q.ty=1
  · rw [if_pos h1] at hz2
    unfold connectLen pkW at hz2;simp only at hz2
    refine en (EF [(.bool (decide ((((k:Int)):Int) < (q.subs.length:Int))),.bool false),(.bool ((((q.ty:Int)):Int) == 1),.bool true),(.int .i64 (IntKind.i64.wrap ((n:Int)+(12:Int))),.int .i64 ((n+12:Nat):Int)),(.int .i64 (IntKind.i64.wrap ((((n+12:Nat):Int):Int)+(q.client.size:Int))),.int .i64 ((n+12+q.client.size:Nat):Int))] ⟨dcF (by omega),eqI (by omega),wrJ (by omega) (by omega),wrJ (by omega) (by omega),trivial⟩) [.c,.c,.b 0 22,.c,.f 0,.c,.b 0 0,.f 1,.c,.c,.f 2,.c,.b 0 10,.c,.f 3,.c] ?_;refine en_meetP (codeOf Tryz.f134) [1,1,1,1,0,1,0,1,0,1,0] [] (α:={m:Nat // m=bif wi then n+12+q.client.size+4+q.wtopic.size+q.wpayload.size else n+12+q.client.size}) 1 (fun y=>[(1,.pointer (some ⟨X,0,none⟩)),(2,.int .i64 0),(3,.int .i64 (y.1:Int))]) (fun y=>[⟨X,(pkV (pkW q wi us pw) a c).toList,33⟩]) (fun y=>many []) ?_ ?_
    · intro JV0 HJV0
      cases wi
      · refine en E0 [.c,.b 0 11] ?_
        exact en_stopI (fun a w F HK=>HJV0 ⟨n+12+q.client.size,rfl⟩ a w F HK)
      · refine en (EF [(.int .i64 (IntKind.i64.wrap ((((n+12+q.client.size:Nat):Int):Int)+(4:Int))),.int .i64 ((n+12+q.client.size+4:Nat):Int)),(.int .i64 (IntKind.i64.wrap ((((n+12+q.client.size+4:Nat):Int):Int)+(q.wtopic.size:Int))),.int .i64 ((n+12+q.client.size+4+q.wtopic.size:Nat):Int)),(.int .i64 (IntKind.i64.wrap ((((n+12+q.client.size+4+q.wtopic.size:Nat):Int):Int)+(q.wpayload.size:Int))),.int .i64 ((n+12+q.client.size+4+q.wtopic.size+q.wpayload.size:Nat):Int))] ⟨wrJ (by omega) (by omega),wrJ (by omega) (by omega),wrJ (by omega) (by omega),trivial⟩) [.c,.b 0 11,.c,.f 0,.c,.c,.b 0 12,.c,.f 1,.c,.c,.b 0 13,.c,.f 2,.c] ?_
        exact en_stopI (fun a w F HK=>HJV0 ⟨n+12+q.client.size+4+q.wtopic.size+q.wpayload.size,rfl⟩ a w F HK)
    rintro ⟨y0,hy0⟩;have hb0:y0≤50000000000000000:=by cases wi <;> (simp only [cond_true,cond_false] at hy0;omega)
    refine en_meetP (codeOf Tryz.f134) [1,1,1,1,0,1,0,1,0,1,1,0] [] (α:={m:Nat // m=bif us then y0+2+q.user.size else y0}) 1 (fun y=>[(1,.pointer (some ⟨X,0,none⟩)),(2,.int .i64 0),(3,.int .i64 (y.1:Int))]) (fun y=>[⟨X,(pkV (pkW q wi us pw) a c).toList,33⟩]) (fun y=>many []) ?_ ?_
    · intro JV1 HJV1
      cases us
      · refine en E0 [.c,.b 0 16] ?_
        exact en_stopI (fun a w F HK=>HJV1 ⟨y0,rfl⟩ a w F HK)
      · refine en (EF [(.int .i64 (IntKind.i64.wrap ((((y0:Nat):Int):Int)+(2:Int))),.int .i64 ((y0+2:Nat):Int)),(.int .i64 (IntKind.i64.wrap ((((y0+2:Nat):Int):Int)+(q.user.size:Int))),.int .i64 ((y0+2+q.user.size:Nat):Int))] ⟨wrJ (by omega) (by omega),wrJ (by omega) (by omega),trivial⟩) [.c,.b 0 16,.c,.f 0,.c,.b 0 18,.c,.f 1,.c] ?_
        exact en_stopI (fun a w F HK=>HJV1 ⟨y0+2+q.user.size,rfl⟩ a w F HK)
    rintro ⟨y1,hy1⟩;have hb1:y1≤100000000000000000:=by cases us <;> (simp only [cond_true,cond_false] at hy1;omega)
    cases pw
    · refine en E0 [.c,.b 0 17,.c,.c] ?_
      obtain rfl:z=y1:=by rw [← hz2];cases wi <;> cases us <;> simp only [cond_true,cond_false,if_true,if_false,Bool.false_eq_true] at hy0 hy1 ⊢ <;> omega
      exact en_rets () [] [] []
    · refine en (EF [(.int .i64 (IntKind.i64.wrap ((((y1:Nat):Int):Int)+(2:Int))),.int .i64 ((y1+2:Nat):Int)),(.int .i64 (IntKind.i64.wrap ((((y1+2:Nat):Int):Int)+(q.pass.size:Int))),.int .i64 ((y1+2+q.pass.size:Nat):Int))] ⟨wrJ (by omega) (by omega),wrJ (by omega) (by omega),trivial⟩) (.c::.b 0 17::.c::.f 0::.c::.b 0 19::.c::.f 1::eC 3 []) ?_
      obtain rfl:z=y1+2+q.pass.size:=by rw [← hz2];cases wi <;> cases us <;> simp only [cond_true,cond_false,if_true,if_false,Bool.false_eq_true] at hy0 hy1 ⊢ <;> omega
      exact en_rets () [] [] []
  rw [if_neg h1] at hz2;by_cases h2:q.ty=2
  · rw [if_pos h2] at hz2
    refine en (EF [(.bool (decide ((((k:Int)):Int) < (q.subs.length:Int))),.bool false),(.bool ((((q.ty:Int)):Int) == 1),.bool false),(.bool ((((q.ty:Int)):Int) == 2),.bool true),(.int .i64 (IntKind.i64.wrap ((n:Int)+(2:Int))),.int .i64 ((n+2:Nat):Int))] ⟨dcF (by omega),eqI' (by omega),eqI (by omega),wrJ (by omega) (by omega),trivial⟩) (.c::.c::.b 0 22::.c::.f 0::.c::.b 0 0::.f 1::.c::.f 2::.c::.c::.f 3::eC 3 []) ?_;obtain rfl:z=n+2:=by rw [← hz2]
    exact en_rets () [] [] []
  rw [if_neg h2] at hz2;by_cases h3:q.ty=3
  · rw [if_pos h3] at hz2
    refine en (EF [(.bool (decide ((((k:Int)):Int) < (q.subs.length:Int))),.bool false),(.bool ((((q.ty:Int)):Int) == 1),.bool false),(.bool ((((q.ty:Int)):Int) == 2),.bool false),(.bool ((((q.ty:Int)):Int) == 3),.bool true),(.int .i64 (IntKind.i64.wrap ((n:Int)+(2:Int))),.int .i64 ((n+2:Nat):Int)),(.int .i64 (IntKind.i64.wrap ((((n+2:Nat):Int):Int)+(q.topic.size:Int))),.int .i64 ((n+2+q.topic.size:Nat):Int))] ⟨dcF (by omega),eqI' (by omega),eqI' (by omega),eqI (by omega),wrJ (by omega) (by omega),wrJ (by omega) (by omega),trivial⟩) (.c::.c::.b 0 22::.c::.f 0::.c::.b 0 0::.f 1::.c::.f 2::.c::.f 3::.c::.c::.f 4::.c::.b 0 5::.c::.f 5::eC 3 []) ?_;obtain rfl:z=n+2+q.topic.size:=by rw [← hz2];omega
    exact en_rets () [] [] []
  rw [if_neg h3] at hz2;refine en (EF [(.bool (decide ((((k:Int)):Int) < (q.subs.length:Int))),.bool false),(.bool ((((q.ty:Int)):Int) == 1),.bool false),(.bool ((((q.ty:Int)):Int) == 2),.bool false),(.bool ((((q.ty:Int)):Int) == 3),.bool false)] ⟨dcF (by omega),eqI' (by omega),eqI' (by omega),eqI' (by omega),trivial⟩) (.c::.c::.b 0 22::.c::.f 0::.c::.b 0 0::.f 1::.c::.f 2::.c::.f 3::eC 3 []) ?_;obtain rfl:z=n:=by rw [← hz2];rfl
  exact en_rets () [] [] []
theorem ref03_rest (p:Pk) (a:Option Addr) (c:Nat) (w:World) (hE:Env w) (hp:PkOk p) (ha:CellsA w a (subCells p.subs)):Calls Tryz.prog 134 #[.agg (pkV p a c)] w fun e w'=>e=.returned (.int .i64 (restR p:Nat))∧Below w.heap.size w w' :=
  rdc_of hE (rrestS hp fun _ h=>ha.below h)
end Go.Proofs.YtehpihmgjbmoaaaGreatDoor
