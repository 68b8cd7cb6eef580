import Derived.Test.YtehpihmgjbmoaaaGreatDoorJoinZA
import Derived.Test.YtehpihmgjbmoaaaGreatDoorJoinM
import Derived.Test.YtehpihmgjbmoaaaGreatDoorJoinC
import Derived.Test.YtehpihmgjbmoaaaGreatDoorJoinB
import Derived.Laws.MakeOwn
namespace Go.Proofs.YtehpihmgjbmoaaaGreatDoor
open Go.RowKit
attribute [local irreducible] Ok
abbrev PkG:=Pk × Option Addr × Nat
abbrev NtG:=Nt × Option Addr × Nat
def ntCG (x:NtG):List Value:=(ntV x.1 x.2.1 x.2.2).toList
def ntCsG (T:List NtG):List Value:=T.flatMap ntCG
theorem ntCG_one (x:NtG):∀ u ∈ ntCG x,u.oneCell'=true:=by
  intro u hu;have h:(ntCG x).all (·.oneCell')=true:=rfl;exact List.all_eq_true.1 h u hu
def sbC (x:PkG):Chk:=rowO 112 2 (.slice x.2.1 x.1.subs.length x.2.2) x.1.subs.length (subCells x.1.subs)
def lgV (v:Value) (ops:Int):List Value:=[v,.int .i64 ops]
def lgC (g:Nat) (v:Value) (T:List NtG) (ops:Int):Chk:=many [boxC ⟨g,lgV v ops,87⟩,rowO 85 35 v T.length (ntCsG T),many (T.map fun x=>sbC (x.1.p,x.2))]
theorem addInt {x:Int} (h:0≤x) (h2:x≤1000000000000):Value.int .i64 (IntKind.i64.wrap (x+1))=.int .i64 (x+1):=by
  congr 1;rw [IntKind.wrap_i64];omega
theorem subInt {k:Nat} (h:k≤1000000000000):Value.int .i64 (IntKind.i64.wrap (((k+1:Nat):Int) - 1))=.int .i64 (k:Int):=by
  congr 1;rw [IntKind.wrap_i64];omega
set_option maxRecDepth 100000 in
set_option maxHeartbeats 4000000 in
theorem record_New {wb:World}  : Spec Tryz.prog wb 12 #[] [] [] (fun g:Nat=>.pointer (some ⟨g,0,none⟩)) (fun _=>[]) (fun g=>[lgC g (.slice none 0 0) [] 0]):=by
  intro w H;refine en_call Tryz.func12 H ?_;refine en1 E0 [.c,.c,.x,.c] fun X1=>?_
  refine en_row0 85 35 ?_;refine en_new0 (many []) ?_ (fun _=>⟨fun c hc=>(by cases hc),List.Pairwise.nil⟩) (fun j ⟨c,hc,_⟩=>(by cases hc));refine en_shut 0 ⟨X1,lgV (.slice none 0 0) 0,87⟩ ?_;refine en_pack [0,1,0] (lgC X1 (.slice none 0 0) [] 0) _ ?_;exact en_rets X1 [] [0] []
set_option maxRecDepth 100000 in
set_option maxHeartbeats 4000000 in
theorem record_Op {wb:World} {g:Nat} {v:Value} {T:List NtG} {ops:Int} (h0:0≤ops) (h1:ops≤1000000000):Spec Tryz.prog wb 82 #[.pointer (some ⟨g,0,none⟩)] [] [lgC g v T ops] (fun _:Unit=>.int .i64 (ops+1)) (fun _=>[]) (fun _=>[lgC g v T (ops+1)]):=by
  intro w H;refine en_call Tryz.func82 H ?_;refine en_unpack 0 (lgC g v T ops) _ ?_;refine en_open 0 ⟨g,lgV v ops,87⟩ ?_;refine en (EF [(.int .i64 (IntKind.i64.wrap (ops+1)),.int .i64 (ops+1))] ⟨addInt h0 (by omega),trivial⟩) (eC 6 (.b 0 1::.f 0::.c::.c::.s 0 1::eC 3 [.b 0 1,.c])) ?_;refine en_shut 0 ⟨g,lgV v (ops+1),87⟩ ?_;refine en_pack [0,0,0] (lgC g v T (ops+1)) _ ?_;exact en_rets () [] [0] []
set_option maxRecDepth 100000 in
set_option maxHeartbeats 4000000 in
theorem record_Len {wb:World} {g:Nat} {v:Value} {T:List NtG} {ops:Int}:Spec Tryz.prog wb 19 #[.pointer (some ⟨g,0,none⟩)] [] [lgC g v T ops] (fun _:Unit=>.int .i64 (T.length:Int)) (fun _=>[]) (fun _=>[lgC g v T ops]):=by
  intro w H;refine en_call Tryz.func19 H ?_;refine en_unpack 0 (lgC g v T ops) _ ?_;refine en_open 0 ⟨g,lgV v ops,87⟩ ?_;refine en_fact (p:=∃ a c,v=.slice a T.length c) (fun w h=>by obtain ⟨a,c,h1,_⟩:=own_form (is_at h 0 (c:=rowO 85 35 v T.length (ntCsG T)) rfl);exact ⟨a,c,h1⟩) ?_;rintro ⟨a,c,rfl⟩;refine en E0 (eC 6 [.b 0 0,.c,.c]) ?_;refine en_shut 0 ⟨g,lgV (.slice a T.length c) ops,87⟩ ?_;refine en_pack [0,0,0] (lgC g (.slice a T.length c) T ops) _ ?_;exact en_rets () [] [0] []
set_option maxRecDepth 100000 in
set_option maxHeartbeats 4000000 in
theorem clone_Subs {wb:World} (p:Pk) (a:Option Addr) (c:Nat) (hp:p.subs.length≤100000000):Spec Tryz.prog wb 76 #[.slice a p.subs.length c] [] [sbC (p,a,c)] (fun y:Option Addr × Nat=>.slice y.1 p.subs.length y.2) (fun _=>[]) (fun y=>[sbC (p,y),sbC (p,a,c)]):=by
  intro w H;refine en_call Tryz.func76 H ?_;cases a with
  | none =>
    refine en_fact (p:=c=0∧p.subs=[]) (fun w h=>by
      have h1:=is_at h 0 (c:=sbC (p,none,c)) rfl;rcases h1.2 with ⟨h,h2⟩ | ⟨g,cap,cur,h,_⟩
      · injection h with _ _ h;exact ⟨h,List.eq_nil_of_length_eq_zero h2⟩
      · injection h with h;cases h) ?_
    rintro ⟨rfl,hs⟩;have hl:p.subs.length=0:=by rw [hs];rfl
    refine en (EF [(.bool true,.bool true)] ⟨rfl,trivial⟩) [.c,.c,.f 0,.c] ?_;refine en_new0 (sbC (p,none,0)) ?_ (fun w=>by unfold sbC;rw [hs];exact World.ownsRow_nil w 0 _ _) (fun j h=>by cases h);have e:Value.slice none 0 0=.slice none p.subs.length 0:=by rw [hl]
    exact en_rets (none,0) [] [0,0] [] (h:=by rw [← e];kernel_rfl)
  | some ad =>
    obtain ⟨i0,hi,hz0,hz1,hz2⟩:=info_parts infoSub;refine en E0 (eC 3 []) ?_;refine en_ops (ops_emp 31 112 31 i0 Tryz.underlying31 hi 2) [] [] [] (fun b=>?_);refine en E0 [.c] ?_;refine en_ops (ops_app 31 31 112 i0 _ Tryz.underlying31 hi hz0 (hz1 ▸ rfl) (by rw [hz1];decide) (hz1.symm) (v:=.slice (some ⟨b,0,none⟩) 0 0) (x:=.slice (some ad) p.subs.length c) (n:=0) (m:=p.subs.length) (xs:=[]) (news:=subCells p.subs) (subCells_one p.subs) (by unfold maxLen;omega) (by rw [hz2];omega)) [] [0,0] [] (fun v'=>?_);refine en E0 [.c] ?_;rw [List.nil_append,Nat.zero_add];refine en_fact (p:=∃ a' c',v'=.slice a' p.subs.length c') (fun w h=>by obtain ⟨a,c,h1,_⟩:=own_form (is_at h 0 (c:=rowO 112 2 v' p.subs.length (subCells p.subs)) rfl);exact ⟨a,c,h1⟩) ?_;rintro ⟨a',c',rfl⟩;exact en_rets (a',c') [] [0,0] []
theorem gt_infoNt:(Tryz.prog.info? 85).map (fun i=>(i.zero,i.size,i.bytes))=some (some (.agg (ntV Nt.zero none 0)),35,304):=by kernel_rfl
set_option maxRecDepth 100000 in
set_option maxHeartbeats 4000000 in
theorem record_own {wb:World} (n:Nt) (a:Option Addr) (c:Nat) (hp:n.p.subs.length≤100000000):Spec Tryz.prog wb 54 #[.agg (ntV n a c)] [] [sbC (n.p,a,c)] (fun y:Option Addr × Nat=>.agg (ntV n y.1 y.2)) (fun _=>[]) (fun y=>[sbC (n.p,y),sbC (n.p,a,c)]):=by
  intro w H;refine en_call Tryz.func54 H ?_;refine en2 E0 [.x,.n,.c,.c,.b 0 26] fun X Y=>?_
  refine en_spec (clone_Subs n.p a c hp) [] [0] [] (fun y=>?_);obtain ⟨a',c'⟩:=y;refine en E0 [.c,.c,.s 0 26,.b 0 0,.s 1 0] ?_;exact en_rets (a',c') [] [0,0] [1]
set_option maxRecDepth 100000 in
set_option maxHeartbeats 4000000 in
theorem record_Add {wb:World} {g:Nat} {v:Value} {T:List NtG} {ops:Int} (n:Nt) (a:Option Addr) (c:Nat) (hp:n.p.subs.length≤100000000) (hT:T.length≤100000):Spec Tryz.prog wb 83 #[.pointer (some ⟨g,0,none⟩),.agg (ntV n a c)] [] [lgC g v T ops,sbC (n.p,a,c)] (fun _:Value × Option Addr × Nat=>.int .i64 (T.length:Int)) (fun _=>[]) (fun y=>[lgC g y.1 (T++[(n,y.2)]) ops,sbC (n.p,a,c)]):=by
  intro w H;refine en_call Tryz.func83 H ?_;obtain ⟨i0,hi,hz0,hz1,hz2⟩:=info_parts gt_infoNt;refine en_unpack 0 (lgC g v T ops) _ ?_;refine en_open 0 ⟨g,lgV v ops,87⟩ ?_;refine en1 E0 (.x::eC 3 [.g [(0,0,1),(1,0,35)] 11 false,.d (eN 0 (eC 4 [.l 0 0,.l 1 0]))]) fun X=>?_
  refine en_spec (record_own n a c hp) [] [2] [(0,0,1),(1,0,35)] (fun y=>?_);obtain ⟨a',c'⟩:=y;refine en_ops (ops_one 61 85 61 (.agg (ntV n a' c')) (ntV n a' c') rfl i0 _ hz1.symm Tryz.underlying61 hi hz0 (by rw [hz1];decide) (by rw [hz1];decide) (by rw [hz1];kernel_rfl) (by rw [hz1];rfl)) [] [] [(0,0,1),(1,0,35)] (fun b=>?_);refine en_ops (ops_app 61 61 85 i0 _ Tryz.underlying61 hi hz0 (hz1 ▸ rfl) (by rw [hz1];decide) (hz1.symm) (v:=v) (x:=.slice (some ⟨b,0,none⟩) 1 1) (n:=T.length) (m:=1) (xs:=ntCsG T) (news:=ntCG (n,a',c')) (ntCG_one _) (by unfold maxLen;omega) (by rw [hz2];omega)) [] [3,0] [(0,0,1),(1,0,35)] (fun v'=>?_);obtain ⟨T',hT'⟩:∃ T',T'=T++[(n,a',c')]:=⟨_,rfl⟩
  have e1:ntCsG T++ntCG (n,a',c')=ntCsG T':=by rw [hT'];unfold ntCsG;simp
  have e2:T.length+1=T'.length:=by rw [hT'];simp
  rw [e1,e2];refine en_fact (p:=∃ a2 c2,v'=.slice a2 T'.length c2) (fun w h=>by obtain ⟨a,c,h1,_⟩:=own_form (is_at h 0 (c:=rowO 85 35 v' T'.length (ntCsG T')) rfl);exact ⟨a,c,h1⟩) ?_;rintro ⟨a2,c2,rfl⟩;refine en (EF [(.int .i64 (IntKind.i64.wrap ((T'.length:Int) - 1)),.int .i64 (T.length:Int))] ⟨by rw [← e2];exact subInt (by omega),trivial⟩) (.d (eN 9 [.c,.c])::.s 0 0::eC 3 [.b 0 0,.c,.f 0,.c]) ?_;refine en_shut 0 ⟨g,lgV (.slice a2 T'.length c2) ops,87⟩ ?_;refine en_in [3,4] (many (T'.map fun x=>sbC (x.1.p,x.2))) (sbC (n.p,a',c')) (T'.map fun x=>sbC (x.1.p,x.2)) (T.map fun x=>sbC (x.1.p,x.2)) (by rw [hT',List.map_append];exact (List.perm_append_singleton _ _).symm) ?_;refine en_pack [1,1,0] (lgC g (.slice a2 T'.length c2) T' ops) _ ?_;subst hT';exact en_rets (.slice a2 (T++[(n,a',c')]).length c2,a',c') [] [0,1] []
end Go.Proofs.YtehpihmgjbmoaaaGreatDoor
namespace Go.Proofs.YtehpihmgjbmoaaaGreatDoor
open Go.RowKit
theorem wrK {x:Int} {k:Nat} (h:x=(k:Int)) (hk:k≤4000000000):Value.int .i64 (IntKind.i64.wrap x)=.int .i64 (k:Int):=by
  congr 1;rw [IntKind.wrap_i64];omega
theorem bB_ext (L:Bs) (i j:Nat):(bB L).extract i j=bB ((L.drop i).take (j - i)):=by
  apply ByteArray.ext
  rw [ByteArray.data_extract];unfold bB;simp [List.extract]
theorem bB_app (L M:Bs):bB L++bB M=bB (L++M):=by
  apply ByteArray.ext
  rw [ByteArray.data_append];unfold bB;simp
def ixT (v i:Value) (ty:TypeId):Sem Next:=opT [v,i] (.index 9 (.tmp 0) (.tmp 1)) ty
def tlT (v lo:Value) (ty:TypeId):Sem Next:=opT [v,lo] (.slice 9 (.tmp 0) (some (.tmp 1)) none none) ty
def mdT (v lo hi:Value) (ty:TypeId):Sem Next:=opT [v,lo,hi] (.slice 9 (.tmp 0) (some (.tmp 1)) (some (.tmp 2)) none) ty
def hdT' (v hi:Value) (ty:TypeId):Sem Next:=opT [v,hi] (.slice 9 (.tmp 0) none (some (.tmp 1)) none) ty
theorem ix_run {w:World} {L:Bs} {i:Nat} {b:UInt8} (h:L[i]? = some b) (ty:TypeId):(ixT (.string (bB L)) (.int .i64 (i:Int)) ty).run Tryz.prog w=.ok (.value (.int .u8 (b.toNat:Int))) w:=by
  have hl:=(List.getElem?_eq_some_iff.1 h).1;unfold ixT opT;unfold execOp;have e0:∀ y l,known (numL 0 (y::l)) (.tmp 0)=y:=fun _ _=>rfl
  have e1:∀ x y l,known (numL 0 (x::y::l)) (.tmp 1)=y:=fun _ _ _=>rfl
  have e2:(bB L).data[i]? = some b:=by unfold bB;simpa using h
  have e3:(bB L).size=L.length:=rfl;go_simp;have hb:=(List.getElem?_eq_some_iff.1 h).2;show ((L[i].toNat:Nat):Int)=_;rw [hb]
theorem tl_run {w:World} {L:Bs} {i:Nat} (h:i≤L.length) (ty:TypeId):(tlT (.string (bB L)) (.int .i64 (i:Int)) ty).run Tryz.prog w=.ok (.value (.string (bB (L.drop i)))) w:=by
  unfold tlT opT;unfold execOp;have e0:∀ y l,known (numL 0 (y::l)) (.tmp 0)=y:=fun _ _=>rfl
  have e1:∀ x y l,known (numL 0 (x::y::l)) (.tmp 1)=y:=fun _ _ _=>rfl
  have e3:(bB L).size=L.length:=rfl;have e4:(bB L).extract i (bB L).size=bB (L.drop i):=by rw [bB_ext,e3,List.take_of_length_le (by rw [List.length_drop];exact Nat.le_refl _)]
  go_simp;exact e4
theorem md_run {w:World} {L:Bs} {i j:Nat} (h1:i≤j) (h2:j≤L.length) (h3:L.length≤4000000000) (ty:TypeId):(mdT (.string (bB L)) (.int .i64 (i:Int)) (.int .i64 (j:Int)) ty).run Tryz.prog w=.ok (.value (.string (bB ((L.drop i).take (j - i))))) w:=by
  have e3:(bB L).size=L.length:=rfl;unfold mdT opT;unfold execOp;have e0:∀ y l,known (numL 0 (y::l)) (.tmp 0)=y:=fun _ _=>rfl
  have e1:∀ x y l,known (numL 0 (x::y::l)) (.tmp 1)=y:=fun _ _ _=>rfl
  have e2:∀ x y z l,known (numL 0 (x::y::z::l)) (.tmp 2)=z:=fun _ _ _ _=>rfl
  go_simp;first | done | rw [bB_ext]
theorem md_run' {w:World} {L M:Bs} {i j:Nat} (h1:i≤j) (h2:j≤L.length) (h3:L.length≤4000000000) (hM:(L.drop i).take (j - i)=M) (ty:TypeId):(mdT (.string (bB L)) (.int .i64 (i:Int)) (.int .i64 (j:Int)) ty).run Tryz.prog w=.ok (.value (.string (bB M))) w:=hM ▸ md_run h1 h2 h3 ty
theorem tl_run' {w:World} {L M:Bs} {i:Nat} (h:i≤L.length) (hM:L.drop i=M) (ty:TypeId):(tlT (.string (bB L)) (.int .i64 (i:Int)) ty).run Tryz.prog w=.ok (.value (.string (bB M))) w:=hM ▸ tl_run h ty
theorem hd_run {w:World} {L:Bs} {j:Nat} (h2:j≤L.length) (h3:L.length≤4000000000) (ty:TypeId):(hdT' (.string (bB L)) (.int .i64 (j:Int)) ty).run Tryz.prog w=.ok (.value (.string (bB (L.take j)))) w:=by
  have e3:(bB L).size=L.length:=rfl;unfold hdT' opT;unfold execOp;have e0:∀ y l,known (numL 0 (y::l)) (.tmp 0)=y:=fun _ _=>rfl
  have e1:∀ x y l,known (numL 0 (x::y::l)) (.tmp 1)=y:=fun _ _ _=>rfl
  go_simp;first | done | rw [bB_ext]
  simp
theorem qI {x d:Nat} (h:x≤4000000000):Value.int .i64 (IntKind.i64.wrap (Int.tdiv (x:Int) (d:Int)))=.int .i64 ((x / d:Nat):Int):=by
  have e:Int.tdiv (x:Int) (d:Int)=((x / d:Nat):Int):=by rw [Int.tdiv_eq_ediv_of_nonneg (by omega)];rfl
  have h2:=Nat.div_le_self x d;congr 1;rw [e,IntKind.wrap_i64];generalize x / d=y at h2;omega
theorem rM {K:IntKind} {x d:Nat}:Value.int K (Int.tmod (x:Int) (d:Int))=.int K ((x % d:Nat):Int):=by rw [Int.tmod_eq_emod_of_nonneg (by omega)];rfl
theorem qU {x d:Nat} (h:x < 256):Value.int .u8 (IntKind.u8.wrap (Int.tdiv (x:Int) (d:Int)))=.int .u8 ((x / d:Nat):Int):=by
  have e:Int.tdiv (x:Int) (d:Int)=((x / d:Nat):Int):=by rw [Int.tdiv_eq_ediv_of_nonneg (by omega)];rfl
  have h2:=Nat.div_le_self x d;congr 1;rw [e,IntKind.wrap_u8];generalize x / d=y at h2;omega
theorem cI {x:Nat} (h:x≤4000000000):Value.int .i64 (IntKind.i64.wrap (x:Int))=.int .i64 (x:Int):=wrK rfl h
theorem cU {x:Nat} (h:x < 256):Value.int .u8 (IntKind.u8.wrap (x:Int))=.int .u8 (x:Int):=by
  congr 1;rw [IntKind.wrap_u8];omega
theorem cW {x:Nat} (h:x < 65536):Value.int .u16 (IntKind.u16.wrap (x:Int))=.int .u16 (x:Int):=by
  congr 1;rw [IntKind.wrap_u16];omega
def adT (a b:Value) (ty:TypeId):Sem Next:=opT [a,b] (.binOp .add 9 (.tmp 0) (.tmp 1) 9) ty
theorem ad_run {L M:Bs} (h:L.length+M.length≤9223372036854775807) {w:World} (ty:TypeId):(adT (.string (bB L)) (.string (bB M)) ty).run Tryz.prog w=.ok (.value (.string (bB (L++M)))) w:=by
  have e3:(bB L).size=L.length:=rfl;have e5:(bB M).size=M.length:=rfl;unfold adT opT;unfold execOp;have e0:∀ y l,known (numL 0 (y::l)) (.tmp 0)=y:=fun _ _=>rfl
  have e1:∀ x y l,known (numL 0 (x::y::l)) (.tmp 1)=y:=fun _ _ _=>rfl
  go_simp;first | done | rw [bB_app] | simp [bB_app]
  first | done | rw [if_neg (by omega)]
theorem wrR {x y:Int} (h:x=y) (h1:-1000000000000000000≤x) (h2:x≤1000000000000000000):Value.int .i64 (IntKind.i64.wrap x)=.int .i64 y:=by
  congr 1;rw [IntKind.wrap_i64];omega
end Go.Proofs.YtehpihmgjbmoaaaGreatDoor
namespace Go.Proofs.YtehpihmgjbmoaaaGreatDoor
open Go.RowKit
def cvT (v:Value) (ty:TypeId):Sem Next:=opT [v] (.convert 22 9 (.tmp 0)) ty
theorem cv_run {w:World} {A:Option Addr} {n c:Nat} {L:Bs} (hn:n=L.length) (h:CellsA w A (u8V L)) (ty:TypeId):(cvT (.slice A n c) ty).run Tryz.prog w=.ok (.value (.string (bB L))) w:=by
  rw [u8V_nat] at h;have hr:=conv_nats (P:=Tryz.prog) w 22 5 Tryz.underlying22 Tryz.underlying5 A c (L.map UInt8.toNat) n (by rw [hn,List.length_map]) h 9 Tryz.underlying9;rw [strN_u8] at hr;unfold cvT opT;exact run_conv 22 9 (.tmp 0) rfl _ _ rfl hr
theorem ops_one1 {P:Program} (t e ty:TypeId) (x:Value) (cells:Array Value) (ie:TypeInfo) (zz:Value) {size:Nat} (hsz:size=ie.size) (hu:P.underlying t=some (.slice e)) (hie:P.info? e=some ie) (hz:ie.zero=some zz) (hsmall:¬ 1 * ie.size > 2 ^ 24) (hpos:¬ 1 * ie.size=0)
    (h:Instr.fill (fun i=>some (i * ie.size,ie.size)) ((Array.range (1 * ie.size)).map (zz.cells[· % zz.cells.size]!)) [(0,x)]=some cells) (hs:cells.size=1 * ie.size) :
    OpS P (bsT t x ty) [] [] (fun b=>.slice (some ⟨b,0,none⟩) 1 1) (fun _=>[]) (fun b=>[rowO e size (.slice (some ⟨b,0,none⟩) 1 1) 1 cells.toList]):=by
  intro wb w H;subst hsz;have hb:Below w.heap.size w (w.alloc (.cells cells e)):=(Below.refl _ _).alloc (Nat.le_refl _) _;refine ⟨w.heap.size,w.alloc (.cells cells e),_,?_,Or.inl rfl,(Kp.begin H).newC hb _ ?_ ?_⟩
  · have hr:=run_buildSlice (P:=P) w t e 1 #[(0,x)] cells ie zz hu hie hz hsmall hpos h
    unfold bsT opT execOp;have e0:∀ y l,known (numL 0 (y::l)) (.tmp 0)=y:=fun _ _=>rfl
    simp only [List.map_toArray,List.map_cons,List.map_nil,e0,Sem.run_bind,hr,Result.andThen_ok,Sem.run_pure]
  · refine own_mk (xs:=cells.toList) ?_ (by simpa using hs) (by decide) (Nat.zero_le _)
    simpa using heap_alloc_new w (.cells cells e)
  · intro j hj
    have hj:(Value.slice (some ⟨w.heap.size,0,none⟩) 1 1).ownBlock=some j:=hj;simp [Value.ownBlock] at hj
    omega
def bs2T (t:TypeId) (x y:Value) (ty:TypeId):Sem Next:=opT [x,y] (.buildSlice t 2 #[(0,.tmp 0),(1,.tmp 1)]) ty
theorem ops_two1 {P:Program} (t e ty:TypeId) (x y:Value) (cells:Array Value) (ie:TypeInfo) (zz:Value) {size:Nat} (hsz:size=ie.size) (hu:P.underlying t=some (.slice e)) (hie:P.info? e=some ie) (hz:ie.zero=some zz) (hsmall:¬ 2 * ie.size > 2 ^ 24) (hpos:¬ 2 * ie.size=0)
    (h:Instr.fill (fun i=>some (i * ie.size,ie.size)) ((Array.range (2 * ie.size)).map (zz.cells[· % zz.cells.size]!)) [(0,x),(1,y)]=some cells) (hs:cells.size=2 * ie.size) :
    OpS P (bs2T t x y ty) [] [] (fun b=>.slice (some ⟨b,0,none⟩) 2 2) (fun _=>[]) (fun b=>[rowO e size (.slice (some ⟨b,0,none⟩) 2 2) 2 cells.toList]):=by
  intro wb w H;subst hsz;have hb:Below w.heap.size w (w.alloc (.cells cells e)):=(Below.refl _ _).alloc (Nat.le_refl _) _;refine ⟨w.heap.size,w.alloc (.cells cells e),_,?_,Or.inl rfl,(Kp.begin H).newC hb _ ?_ ?_⟩
  · have hr:=run_buildSlice (P:=P) w t e 2 #[(0,x),(1,y)] cells ie zz hu hie hz hsmall hpos h
    unfold bs2T opT execOp;have e0:∀ y l,known (numL 0 (y::l)) (.tmp 0)=y:=fun _ _=>rfl
    have e1:∀ x y l,known (numL 0 (x::y::l)) (.tmp 1)=y:=fun _ _ _=>rfl
    simp only [List.map_toArray,List.map_cons,List.map_nil,e0,e1,Sem.run_bind,hr,Result.andThen_ok,Sem.run_pure]
  · refine own_mk (xs:=cells.toList) ?_ (by simpa using hs) (by decide) (Nat.zero_le _)
    simpa using heap_alloc_new w (.cells cells e)
  · intro j hj
    have hj:(Value.slice (some ⟨w.heap.size,0,none⟩) 2 2).ownBlock=some j:=hj;simp [Value.ownBlock] at hj
    omega
def mk8T (c:Value) (ty:TypeId):Sem Next:=opT [c] (.makeSlice 22 (.const (.int .i64 0)) (.tmp 0)) ty
theorem ops_mk8 (ty:TypeId) (c:Nat) (hc:c≤140737488355328):OpS Tryz.prog (mk8T (.int .i64 (c:Int)) ty) [] [] (fun b=>.slice (some ⟨b,0,none⟩) 0 c) (fun _=>[]) (fun b=>[rowO 5 1 (.slice (some ⟨b,0,none⟩) 0 c) 0 []]):=by
  intro wb w H;obtain ⟨i0,hi,hz0,hz1,hz2⟩:=info_parts infoU8;obtain ⟨w',hr,ho,hg⟩:=run_make_own (P:=Tryz.prog) w w.heap.size 22 5 i0 (.int .u8 0) 1 Tryz.underlying22 hi hz0 hz1 .i64 .i64 c (by rw [hz2];omega) (by unfold maxLen;omega) (Nat.le_refl _);refine ⟨w.heap.size,w',_,?_,Or.inl rfl,(Kp.begin H).newC (below_none hg) _ (own_base ho (Nat.zero_le _)) (fun j hj=>(own_lt ho hj).2)⟩;unfold mk8T opT execOp;have e0:∀ y l,known (numL 0 (y::l)) (.tmp 0)=y:=fun _ _=>rfl
  have e1:known (numL 0 [Value.int .i64 (c:Int)]) (.const (.int .i64 0))=.int .i64 0:=rfl;simp only [e0,e1,Sem.run_bind,hr,Result.andThen_ok,Sem.run_pure]
theorem fill1 (x:Nat):Instr.fill (fun i=>some (i * 1,1)) ((Array.range (1 * 1)).map ((Value.int .u8 0).cells[· % (Value.int .u8 0).cells.size]!)) [(0,Value.int .u8 (x:Int))]=some #[.int .u8 (x:Int)]:=by kernel_rfl
theorem fill2 (x y:Nat):Instr.fill (fun i=>some (i * 1,1)) ((Array.range (2 * 1)).map ((Value.int .u8 0).cells[· % (Value.int .u8 0).cells.size]!)) [(0,Value.int .u8 (x:Int)),(1,Value.int .u8 (y:Int))]=some #[.int .u8 (x:Int),.int .u8 (y:Int)]:=by kernel_rfl
def OW (v:Value) (L:Bs):Chk:=rowO 5 1 v L.length (u8V L)
theorem ow_app {v:Value} {L N:Bs}:rowO 5 1 v (L.length+N.length) (u8V L++u8V N)=OW v (L++N):=by
  unfold OW;rw [List.length_append,u8V_append]
theorem ops_imp {P:Program} {T:Sem Next} {B:List Bx} {l:List Chk} {α:Type} {v:α→Value} {B':α→List Bx} {l' l2:α→List Chk} (h:OpS P T B l v B' l') (e:∀ x,l' x=l2 x):OpS P T B l v B' l2:=by
  rw [show l2=l' from funext fun x=>(e x).symm];exact h
theorem ops_ow (ty:TypeId) {v:Value} {L:Bs} (s:ByteArray) (h:L.length+s.size≤100000000000000):OpS Tryz.prog (apsT 22 9 ty v (.string s)) [] [OW v L] (fun v'=>v') (fun _=>[]) (fun v'=>[OW v' (L++bl s)]):=by
  obtain ⟨i0,hi,hz0,hz1,hz2⟩:=info_parts infoU8;exact ops_imp (ops_aps 22 9 ty 5 i0 Tryz.underlying22 Tryz.underlying9 hi hz0 hz1 hz2 (v:=v) (n:=L.length) (xs:=u8V L) s (by unfold maxLen;omega) (by omega)) fun v'=>congrArg (fun c=>[c]) (ow_app (v:=v') (L:=L) (N:=bl s))
def rw1 (b x:Nat):Chk:=rowO 5 1 (.slice (some ⟨b,0,none⟩) 1 1) 1 [.int .u8 (x:Int)]
theorem ops_mk1 (ty:TypeId) (x:Nat):OpS Tryz.prog (bsT 22 (.int .u8 (x:Int)) ty) [] [] (fun b=>.slice (some ⟨b,0,none⟩) 1 1) (fun _=>[]) (fun b=>[rw1 b x]):=by
  obtain ⟨i0,hi,hz0,hz1,hz2⟩:=info_parts infoU8;exact ops_one1 22 5 ty (.int .u8 (x:Int)) #[.int .u8 (x:Int)] i0 _ hz1.symm Tryz.underlying22 hi hz0 (by rw [hz1];decide) (by rw [hz1];decide) (by rw [hz1];exact fill1 x) (by rw [hz1];rfl)
theorem ops_ow1 (ty:TypeId) {v:Value} {L:Bs} {b:Nat} (x:Nat) (hx:x < 256) (h:L.length≤10000000000000):OpS Tryz.prog (apT 22 ty v (.slice (some ⟨b,0,none⟩) 1 1)) [] [OW v L,rw1 b x] (fun v'=>v') (fun _=>[]) (fun v'=>[OW v' (L++[byteN x]),rw1 b x]):=by
  obtain ⟨i0,hi,hz0,hz1,hz2⟩:=info_parts infoU8;have e:[Value.int .u8 (x:Int)]=u8V [byteN x]:=by
    show _=[Value.int .u8 (((byteN x).toNat:Nat):Int)]
    rw [byteN_nat x hx]
  unfold rw1;rw [e];exact ops_imp (ops_app 22 ty 5 i0 _ Tryz.underlying22 hi hz0 (hz1 ▸ rfl) (by rw [hz1];decide) (hz1.symm) (v:=v) (x:=.slice (some ⟨b,0,none⟩) 1 1) (n:=L.length) (m:=1) (xs:=u8V L) (news:=u8V [byteN x]) (u8V_one _) (by unfold maxLen;omega) (by rw [hz2];omega)) fun v'=>congrArg (fun c=>[c,_]) (ow_app (v:=v') (L:=L) (N:=[byteN x]))
def rw2 (b x y:Nat):Chk:=rowO 5 1 (.slice (some ⟨b,0,none⟩) 2 2) 2 [.int .u8 (x:Int),.int .u8 (y:Int)]
theorem ops_mk2 (ty:TypeId) (x y:Nat):OpS Tryz.prog (bs2T 22 (.int .u8 (x:Int)) (.int .u8 (y:Int)) ty) [] [] (fun b=>.slice (some ⟨b,0,none⟩) 2 2) (fun _=>[]) (fun b=>[rw2 b x y]):=by
  obtain ⟨i0,hi,hz0,hz1,hz2⟩:=info_parts infoU8;exact ops_two1 22 5 ty (.int .u8 (x:Int)) (.int .u8 (y:Int)) #[.int .u8 (x:Int),.int .u8 (y:Int)] i0 _ hz1.symm Tryz.underlying22 hi hz0 (by rw [hz1];decide) (by rw [hz1];decide) (by rw [hz1];exact fill2 x y) (by rw [hz1];rfl)
theorem ops_ow2 (ty:TypeId) {v:Value} {L:Bs} {b:Nat} (x y:Nat) (hx:x < 256) (hy:y < 256) (h:L.length≤10000000000000):OpS Tryz.prog (apT 22 ty v (.slice (some ⟨b,0,none⟩) 2 2)) [] [OW v L,rw2 b x y] (fun v'=>v') (fun _=>[]) (fun v'=>[OW v' (L++[byteN x,byteN y]),rw2 b x y]):=by
  obtain ⟨i0,hi,hz0,hz1,hz2⟩:=info_parts infoU8;have e:[Value.int .u8 (x:Int),Value.int .u8 (y:Int)]=u8V [byteN x,byteN y]:=by
    show _=[Value.int .u8 (((byteN x).toNat:Nat):Int),Value.int .u8 (((byteN y).toNat:Nat):Int)]
    rw [byteN_nat x hx,byteN_nat y hy]
  unfold rw2;rw [e];exact ops_imp (ops_app 22 ty 5 i0 _ Tryz.underlying22 hi hz0 (hz1 ▸ rfl) (by rw [hz1];decide) (hz1.symm) (v:=v) (x:=.slice (some ⟨b,0,none⟩) 2 2) (n:=L.length) (m:=2) (xs:=u8V L) (news:=u8V [byteN x,byteN y]) (u8V_one _) (by unfold maxLen;omega) (by rw [hz2];omega)) fun v'=>congrArg (fun c=>[c,_]) (ow_app (v:=v') (L:=L) (N:=[byteN x,byteN y]))
end Go.Proofs.YtehpihmgjbmoaaaGreatDoor
