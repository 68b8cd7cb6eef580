import Derived.Test.YtehpihmgjbmoaaaGreatDoorJoinA
import Derived.Deep.Slices
import Derived.Deep.Fields
import Derived.ChangeSame
import Derived.ProofKit
import Derived.OpenShut
import Derived.Test.YtehpihmgjbmoaaaGreatDoorJoinH
import Derived.Test.YtehpihmgjbmoaaaGreatDoorJoinB
namespace Go.Proofs.YtehpihmgjbmoaaaGreatDoor
open Go.RowKit Go.ChangeShapes Go.WideShapes Go.Deep
theorem exists_list {α:Type} {R:Nat→α→Prop}:∀ n:Nat,(∀ i,i < n→∃ x,R i x)→∃ L:List α,L.length=n∧∀ i x,L[i]? = some x→R i x
  | 0,_=>⟨[],rfl,fun i x h=>by simp at h⟩
  | n+1,h=>by
    obtain ⟨L,hl,hL⟩:=exists_list n (fun i hi=>h i (by omega));obtain ⟨x,hx⟩:=h n (by omega);refine ⟨L++[x],by simp [hl],fun i y hy=>?_⟩;rcases Nat.lt_trichotomy i n with h1 | h1 | h1
    · rw [List.getElem?_append_left (by omega)] at hy
      exact hL i y hy
    · subst h1
      rw [List.getElem?_append_right (by omega),hl,Nat.sub_self] at hy;simp at hy
      subst hy;exact hx
    · rw [List.getElem?_eq_none (by simp;omega)] at hy
      cases hy
theorem rowV_inv {α:Type} {g:α→List Value} {m:Nat} (hg:∀ x,(g x).length=m):∀ (L:List α) (j:Nat) (u:Value),(L.flatMap g)[j]? = some u→∃ i x r,L[i]? = some x∧(g x)[r]? = some u∧j=i * m+r
  | [],j,u,h=>by simp at h
  | y::t,j,u,h=>by
    rw [List.flatMap_cons] at h;rcases Nat.lt_or_ge j m with hj | hj
    · rw [List.getElem?_append_left (by rw [hg];exact hj)] at h
      exact ⟨0,y,j,rfl,h,by omega⟩
    · rw [List.getElem?_append_right (by rw [hg];exact hj),hg] at h
      obtain ⟨i,x,r,h1,h2,h3⟩:=rowV_inv hg t (j - m) u h;exact ⟨i+1,x,r,by simpa using h1,h2,by rw [Nat.succ_mul];omega⟩
theorem cellsA_elems {α:Type} {g:α→List Value} {m:Nat} (hg:∀ x,(g x).length=m) {L:List α} {W:World} {a:Addr} (h:∀ i x,L[i]? = some x→∀ r u,(g x)[r]? = some u→W.cell? ((a.add (i * m)).add r)=some u):CellsA W (some a) (L.flatMap g):=by
  intro j u hu;obtain ⟨i,x,r,h1,h2,h3⟩:=rowV_inv hg L j u hu;have hc:=h i x h1 r u h2;obtain ⟨xb,xo,spot⟩:=a;have hm:0 < m:=by
    have:=(List.getElem?_eq_some_iff.1 h2).1;rw [hg] at this;omega
  have hL:0 < L.length:=by have:=(List.getElem?_eq_some_iff.1 h1).1;omega
  obtain ⟨y,hy⟩:∃ y,L[0]? = some y:=⟨_,List.getElem?_eq_getElem hL⟩
  obtain ⟨u0,hu0⟩:∃ u0,(g y)[0]? = some u0:=⟨_,List.getElem?_eq_getElem (by rw [hg];exact hm)⟩
  have hspot:spot=none:=by
    have:=World.cell?_spot (h 0 y hy 0 u0 hu0);simpa [Addr.add] using this
  subst hspot;refine ⟨xb,xo,rfl,?_⟩;rw [Addr.add_lit,Addr.add_lit] at hc;rw [h3,← Nat.add_assoc];exact hc
section
variable {H:Type} {enc:TypeId × Value→H} {P:Program} {W:World} {base:Nat} {spare:Nat→Bool} {held:Bool}
theorem open_rows {α:Type} {g:α→List Value} {m:Nat} (hg:∀ x,(g x).length=m) (R:α→Prop) {t e:TypeId} (ht:P.underlying t=some (.slice e)) (hm:P.cellsOf e=m)
    (hR:∀ (fuel:Nat) (cs:List Value) (y:DataW H × List MemPlace),DataW.trod enc P W base spare held fuel e cs=some y→∃ x,cs=g x∧R x)
    {fuel:Nat} {cs:List Value} {x:DataW H × List MemPlace} (h:DataW.trod enc P W base spare held fuel t cs=some x) :
    ∃ (a:Option Addr) (c:Nat) (L:List α),cs=[.slice a L.length c]∧(a=none→c=0)∧L.length≤c∧c≤maxLen∧CellsA W a (L.flatMap g)∧∀ x ∈ L,R x:=by
  rcases open_slice ht h with ⟨rfl,_⟩ | ⟨a,len,cap,k,n,D,Pl,rfl,hb,hl,hmx,hk,hx,hi⟩
  · exact ⟨none,0,[],rfl,fun _=>rfl,Nat.le_refl _,by unfold maxLen;omega,CellsA.nil _ _,fun x h=>by cases h⟩
  · have hlk:len≤k:=by rw [hk];split <;> omega
    obtain ⟨L,hL,hall⟩:=exists_list (R:=fun i (x:α)=>R x∧∀ r u,(g x)[r]? = some u→W.cell? ((a.add (i * m)).add r)=some u) len (fun i hil=>by
      obtain ⟨cs',h1,h2⟩:=hi i (by omega);rw [hm] at h1;obtain ⟨_,h3,h4⟩:=World.cells?_some h1;obtain ⟨x,rfl,hx⟩:=hR _ _ _ h2;exact ⟨x,hx,fun r u hu=>(h4 r (by have:=(List.getElem?_eq_some_iff.1 hu).1;rw [hg] at this;exact this)).trans hu⟩)
    subst hL;refine ⟨some a,cap,L,rfl,fun h=>(by cases h),hl,hmx,cellsA_elems hg (fun i x hx=>(hall i x hx).2),fun x hx=>?_⟩;obtain ⟨i,hi'⟩:=List.getElem?_of_mem hx;exact (hall i x hi').1
theorem nat_of_u8 {n:Int} (h:(Lit.int .u8 n).wf=true):∃ m:Nat,n=(m:Int)∧m < 256:=by
  simp [Lit.wf] at h
  rw [show IntKind.u8.min=0 from rfl,show IntKind.u8.max=255 from rfl] at h;exact ⟨n.toNat,by omega,by omega⟩
theorem nat_of_u16 {n:Int} (h:(Lit.int .u16 n).wf=true):∃ m:Nat,n=(m:Int)∧m < 65536:=by
  simp [Lit.wf] at h
  rw [show IntKind.u16.min=0 from rfl,show IntKind.u16.max=65535 from rfl] at h;exact ⟨n.toNat,by omega,by omega⟩
end
end Go.Proofs.YtehpihmgjbmoaaaGreatDoor
namespace Go.Proofs.YtehpihmgjbmoaaaGreatDoor
open Go.RowKit Go.ChangeShapes Go.WideShapes Go.Deep
section
variable {H:Type} {enc:TypeId × Value→H} {W:World} {base:Nat} {spare:Nat→Bool} {held:Bool}
def sbV (x:Sb):List Value:=[.string x.1,.int .u8 (x.2:Int)]
set_option maxRecDepth 100000 in
theorem sub_cells {fuel:Nat} {cs:List Value} {y:DataW H × List MemPlace} (h:DataW.trod enc Tryz.prog W base spare held fuel 112 cs=some y):∃ x:Sb,cs=sbV x∧x.2 < 256∧x.1.size≤maxLen:=by
  obtain ⟨xs,n,_,_,hlen,hxl,hf⟩:=DataW.trod_struct Tryz.underlying112 h;have hl:cs.length=2:=hlen.trans (by kernel_rfl);have hx2:xs.length=2:=hxl.trans (by kernel_rfl);match cs,hl,xs,hx2 with
  | [c0,c1],_,[y0,y1],_ =>
    have f0:DataW.trod enc Tryz.prog W base spare held n 9 (([c0,c1].drop 0).take (Tryz.prog.cellsOf 9))=some y0:=hf 0 _ rfl;have f1:DataW.trod enc Tryz.prog W base spare held n 5 (([c0,c1].drop 1).take (Tryz.prog.cellsOf 5))=some y1:=hf 1 _ rfl;rw [show Tryz.prog.cellsOf 9=1 by kernel_rfl] at f0;rw [show Tryz.prog.cellsOf 5=1 by kernel_rfl] at f1;obtain ⟨s,h1,_,h2⟩:=DataW.trod_string Tryz.underlying9 f0;obtain ⟨k,h3,_,h4⟩:=DataW.trod_int Tryz.underlying5 f1;obtain ⟨q,rfl,h5⟩:=nat_of_u8 h4;simp at h1 h3
    exact ⟨(s,q),by rw [h1,h3];rfl,h5,h2⟩
set_option maxRecDepth 100000 in
theorem msg_cells {fuel:Nat} {cs:List Value} {y:DataW H × List MemPlace} (h:DataW.trod enc Tryz.prog W base spare held fuel 30 cs=some y):∃ (t p:ByteArray) (q:Nat) (r:Bool),cs=[.string t,.string p,.int .u8 (q:Int),.bool r]∧q < 256:=by
  obtain ⟨xs,n,_,_,hlen,hxl,hf⟩:=DataW.trod_struct Tryz.underlying30 h;have hl:cs.length=4:=hlen.trans (by kernel_rfl);have hx2:xs.length=4:=hxl.trans (by kernel_rfl);match cs,hl,xs,hx2 with
  | [c0,c1,c2,c3],_,[y0,y1,y2,y3],_ =>
    have f0:DataW.trod enc Tryz.prog W base spare held n 9 (([c0,c1,c2,c3].drop 0).take (Tryz.prog.cellsOf 9))=some y0:=hf 0 _ rfl;have f1:DataW.trod enc Tryz.prog W base spare held n 9 (([c0,c1,c2,c3].drop 1).take (Tryz.prog.cellsOf 9))=some y1:=hf 1 _ rfl;have f2:DataW.trod enc Tryz.prog W base spare held n 5 (([c0,c1,c2,c3].drop 2).take (Tryz.prog.cellsOf 5))=some y2:=hf 2 _ rfl;have f3:DataW.trod enc Tryz.prog W base spare held n 4 (([c0,c1,c2,c3].drop 3).take (Tryz.prog.cellsOf 4))=some y3:=hf 3 _ rfl;rw [show Tryz.prog.cellsOf 9=1 by kernel_rfl] at f0 f1;rw [show Tryz.prog.cellsOf 5=1 by kernel_rfl] at f2;rw [show Tryz.prog.cellsOf 4=1 by kernel_rfl] at f3;obtain ⟨s,h1,_,_⟩:=DataW.trod_string Tryz.underlying9 f0;obtain ⟨t,h2,_,_⟩:=DataW.trod_string Tryz.underlying9 f1;obtain ⟨k,h3,_,h4⟩:=DataW.trod_int Tryz.underlying5 f2;obtain ⟨r,h5,_⟩:=DataW.trod_bool Tryz.underlying4 f3;obtain ⟨q,rfl,h6⟩:=nat_of_u8 h4;simp at h1 h2 h3 h5
    exact ⟨s,t,q,r,by rw [h1,h2,h3,h5],h6⟩
structure PkArg (W:World) (p:Pk) (a:Option Addr) (c:Nat):Prop where
  ty:PkTy p
  nil:a=none→c=0
  cap:p.subs.length≤c
  max:c≤maxLen
  row:CellsA W a (subCells p.subs)
set_option maxRecDepth 100000 in
set_option maxHeartbeats 1000000 in
theorem pk_cells {fuel:Nat} {cs:List Value} {y:DataW H × List MemPlace} (h:DataW.trod enc Tryz.prog W base spare held fuel 33 cs=some y):∃ (p:Pk) (a:Option Addr) (c:Nat),cs=(pkV p a c).toList∧PkArg W p a c:=by
  obtain ⟨xs,n,_,_,hlen,hxl,hf⟩:=DataW.trod_struct Tryz.underlying33 h;have hl:cs.length=24:=hlen.trans (by kernel_rfl);have hx2:xs.length=21:=hxl.trans (by kernel_rfl);match cs,hl,xs,hx2 with
  | [c0,c1,c2,c3,c4,c5,c6,c7,c8,c9,c10,c11,c12,c13,c14,c15,c16,c17,c18,c19,c20,c21,c22,c23],_,[y0,y1,y2,y3,y4,y5,y6,y7,y8,y9,y10,y11,y12,y13,y14,y15,y16,y17,y18,y19,y20],_ =>
    have f0:DataW.trod enc Tryz.prog W base spare held n 5 (([c0,c1,c2,c3,c4,c5,c6,c7,c8,c9,c10,c11,c12,c13,c14,c15,c16,c17,c18,c19,c20,c21,c22,c23].drop 0).take (Tryz.prog.cellsOf 5))=some y0:=hf 0 _ rfl;have f1:DataW.trod enc Tryz.prog W base spare held n 4 (([c0,c1,c2,c3,c4,c5,c6,c7,c8,c9,c10,c11,c12,c13,c14,c15,c16,c17,c18,c19,c20,c21,c22,c23].drop 1).take (Tryz.prog.cellsOf 4))=some y1:=hf 1 _ rfl;have f2:DataW.trod enc Tryz.prog W base spare held n 5 (([c0,c1,c2,c3,c4,c5,c6,c7,c8,c9,c10,c11,c12,c13,c14,c15,c16,c17,c18,c19,c20,c21,c22,c23].drop 2).take (Tryz.prog.cellsOf 5))=some y2:=hf 2 _ rfl;have f3:DataW.trod enc Tryz.prog W base spare held n 4 (([c0,c1,c2,c3,c4,c5,c6,c7,c8,c9,c10,c11,c12,c13,c14,c15,c16,c17,c18,c19,c20,c21,c22,c23].drop 3).take (Tryz.prog.cellsOf 4))=some y3:=hf 3 _ rfl;have f4:DataW.trod enc Tryz.prog W base spare held n 28 (([c0,c1,c2,c3,c4,c5,c6,c7,c8,c9,c10,c11,c12,c13,c14,c15,c16,c17,c18,c19,c20,c21,c22,c23].drop 4).take (Tryz.prog.cellsOf 28))=some y4:=hf 4 _ rfl;have f5:DataW.trod enc Tryz.prog W base spare held n 9 (([c0,c1,c2,c3,c4,c5,c6,c7,c8,c9,c10,c11,c12,c13,c14,c15,c16,c17,c18,c19,c20,c21,c22,c23].drop 5).take (Tryz.prog.cellsOf 9))=some y5:=hf 5 _ rfl;have f6:DataW.trod enc Tryz.prog W base spare held n 9 (([c0,c1,c2,c3,c4,c5,c6,c7,c8,c9,c10,c11,c12,c13,c14,c15,c16,c17,c18,c19,c20,c21,c22,c23].drop 6).take (Tryz.prog.cellsOf 9))=some y6:=hf 6 _ rfl;have f7:DataW.trod enc Tryz.prog W base spare held n 5 (([c0,c1,c2,c3,c4,c5,c6,c7,c8,c9,c10,c11,c12,c13,c14,c15,c16,c17,c18,c19,c20,c21,c22,c23].drop 7).take (Tryz.prog.cellsOf 5))=some y7:=hf 7 _ rfl;have f8:DataW.trod enc Tryz.prog W base spare held n 4 (([c0,c1,c2,c3,c4,c5,c6,c7,c8,c9,c10,c11,c12,c13,c14,c15,c16,c17,c18,c19,c20,c21,c22,c23].drop 8).take (Tryz.prog.cellsOf 4))=some y8:=hf 8 _ rfl;have f9:DataW.trod enc Tryz.prog W base spare held n 28 (([c0,c1,c2,c3,c4,c5,c6,c7,c8,c9,c10,c11,c12,c13,c14,c15,c16,c17,c18,c19,c20,c21,c22,c23].drop 9).take (Tryz.prog.cellsOf 28))=some y9:=hf 9 _ rfl;have f10:DataW.trod enc Tryz.prog W base spare held n 9 (([c0,c1,c2,c3,c4,c5,c6,c7,c8,c9,c10,c11,c12,c13,c14,c15,c16,c17,c18,c19,c20,c21,c22,c23].drop 10).take (Tryz.prog.cellsOf 9))=some y10:=hf 10 _ rfl;have f11:DataW.trod enc Tryz.prog W base spare held n 4 (([c0,c1,c2,c3,c4,c5,c6,c7,c8,c9,c10,c11,c12,c13,c14,c15,c16,c17,c18,c19,c20,c21,c22,c23].drop 11).take (Tryz.prog.cellsOf 4))=some y11:=hf 11 _ rfl;have f12:DataW.trod enc Tryz.prog W base spare held n 30 (([c0,c1,c2,c3,c4,c5,c6,c7,c8,c9,c10,c11,c12,c13,c14,c15,c16,c17,c18,c19,c20,c21,c22,c23].drop 12).take (Tryz.prog.cellsOf 30))=some y12:=hf 12 _ rfl;have f13:DataW.trod enc Tryz.prog W base spare held n 4 (([c0,c1,c2,c3,c4,c5,c6,c7,c8,c9,c10,c11,c12,c13,c14,c15,c16,c17,c18,c19,c20,c21,c22,c23].drop 16).take (Tryz.prog.cellsOf 4))=some y13:=hf 13 _ rfl;have f14:DataW.trod enc Tryz.prog W base spare held n 4 (([c0,c1,c2,c3,c4,c5,c6,c7,c8,c9,c10,c11,c12,c13,c14,c15,c16,c17,c18,c19,c20,c21,c22,c23].drop 17).take (Tryz.prog.cellsOf 4))=some y14:=hf 14 _ rfl;have f15:DataW.trod enc Tryz.prog W base spare held n 9 (([c0,c1,c2,c3,c4,c5,c6,c7,c8,c9,c10,c11,c12,c13,c14,c15,c16,c17,c18,c19,c20,c21,c22,c23].drop 18).take (Tryz.prog.cellsOf 9))=some y15:=hf 15 _ rfl;have f16:DataW.trod enc Tryz.prog W base spare held n 9 (([c0,c1,c2,c3,c4,c5,c6,c7,c8,c9,c10,c11,c12,c13,c14,c15,c16,c17,c18,c19,c20,c21,c22,c23].drop 19).take (Tryz.prog.cellsOf 9))=some y16:=hf 16 _ rfl;have f17:DataW.trod enc Tryz.prog W base spare held n 4 (([c0,c1,c2,c3,c4,c5,c6,c7,c8,c9,c10,c11,c12,c13,c14,c15,c16,c17,c18,c19,c20,c21,c22,c23].drop 20).take (Tryz.prog.cellsOf 4))=some y17:=hf 17 _ rfl;have f18:DataW.trod enc Tryz.prog W base spare held n 5 (([c0,c1,c2,c3,c4,c5,c6,c7,c8,c9,c10,c11,c12,c13,c14,c15,c16,c17,c18,c19,c20,c21,c22,c23].drop 21).take (Tryz.prog.cellsOf 5))=some y18:=hf 18 _ rfl;have f19:DataW.trod enc Tryz.prog W base spare held n 31 (([c0,c1,c2,c3,c4,c5,c6,c7,c8,c9,c10,c11,c12,c13,c14,c15,c16,c17,c18,c19,c20,c21,c22,c23].drop 22).take (Tryz.prog.cellsOf 31))=some y19:=hf 19 _ rfl;have f20:DataW.trod enc Tryz.prog W base spare held n 9 (([c0,c1,c2,c3,c4,c5,c6,c7,c8,c9,c10,c11,c12,c13,c14,c15,c16,c17,c18,c19,c20,c21,c22,c23].drop 23).take (Tryz.prog.cellsOf 9))=some y20:=hf 20 _ rfl;rw [show Tryz.prog.cellsOf 5=1 by kernel_rfl] at f0 f2 f7 f18;rw [show Tryz.prog.cellsOf 4=1 by kernel_rfl] at f1 f3 f8 f11 f13 f14 f17;rw [show Tryz.prog.cellsOf 28=1 by kernel_rfl] at f4 f9;rw [show Tryz.prog.cellsOf 9=1 by kernel_rfl] at f5 f6 f10 f15 f16 f20;rw [show Tryz.prog.cellsOf 30=4 by kernel_rfl] at f12;rw [show Tryz.prog.cellsOf 31=1 by kernel_rfl] at f19;obtain ⟨i0,e0,_,g0⟩:=DataW.trod_int Tryz.underlying5 f0;obtain ⟨s0,rfl,b0⟩:=nat_of_u8 g0;obtain ⟨s1,e1,_⟩:=DataW.trod_bool Tryz.underlying4 f1;obtain ⟨i2,e2,_,g2⟩:=DataW.trod_int Tryz.underlying5 f2;obtain ⟨s2,rfl,b2⟩:=nat_of_u8 g2;obtain ⟨s3,e3,_⟩:=DataW.trod_bool Tryz.underlying4 f3;obtain ⟨i4,e4,_,g4⟩:=DataW.trod_int Tryz.underlying28 f4;obtain ⟨s4,rfl,b4⟩:=nat_of_u16 g4;obtain ⟨s5,e5,_,_⟩:=DataW.trod_string Tryz.underlying9 f5;obtain ⟨s6,e6,_,_⟩:=DataW.trod_string Tryz.underlying9 f6;obtain ⟨i7,e7,_,g7⟩:=DataW.trod_int Tryz.underlying5 f7;obtain ⟨s7,rfl,b7⟩:=nat_of_u8 g7;obtain ⟨s8,e8,_⟩:=DataW.trod_bool Tryz.underlying4 f8;obtain ⟨i9,e9,_,g9⟩:=DataW.trod_int Tryz.underlying28 f9;obtain ⟨s9,rfl,b9⟩:=nat_of_u16 g9;obtain ⟨s10,e10,_,_⟩:=DataW.trod_string Tryz.underlying9 f10;obtain ⟨s11,e11,_⟩:=DataW.trod_bool Tryz.underlying4 f11;obtain ⟨wt,wp,wq,wr,e12,b12⟩:=msg_cells f12;obtain ⟨s13,e13,_⟩:=DataW.trod_bool Tryz.underlying4 f13;obtain ⟨s14,e14,_⟩:=DataW.trod_bool Tryz.underlying4 f14;obtain ⟨s15,e15,_,_⟩:=DataW.trod_string Tryz.underlying9 f15;obtain ⟨s16,e16,_,_⟩:=DataW.trod_string Tryz.underlying9 f16;obtain ⟨s17,e17,_⟩:=DataW.trod_bool Tryz.underlying4 f17;obtain ⟨i18,e18,_,g18⟩:=DataW.trod_int Tryz.underlying5 f18;obtain ⟨s18,rfl,b18⟩:=nat_of_u8 g18;obtain ⟨a,c,S,e19,hz,hc,hm,ha,hq⟩:=open_rows (g:=sbV) (m:=2) (fun _=>rfl) (fun x=>x.2 < 256) Tryz.underlying31 (by kernel_rfl) (fun fuel cs y hy=>by obtain ⟨x,h1,h2,_⟩:=sub_cells hy;exact ⟨x,h1,h2⟩) f19;obtain ⟨s20,e20,_,_⟩:=DataW.trod_string Tryz.underlying9 f20;simp only [List.drop_zero,List.drop_succ_cons,List.take_succ_cons,List.take_zero,List.cons.injEq,and_true] at e0 e1 e2 e3 e4 e5 e6 e7 e8 e9 e10 e11 e12 e13 e14 e15 e16 e17 e18 e19 e20;obtain ⟨w0,w1,w2,w3⟩:=e12;refine ⟨⟨s0,s1,s2,s3,s4,s5,s6,s7,s8,s9,s10,s11,wt,wp,wq,wr,s13,s14,s15,s16,s17,s18,S,s20⟩,a,c,?_,⟨⟨b0,b2,b4,b7,b9,b12,b18,hq⟩,hz,hc,hm,ha⟩⟩;rw [e0,e1,e2,e3,e4,e5,e6,e7,e8,e9,e10,e11,w0,w1,w2,w3,e13,e14,e15,e16,e17,e18,e19,e20];rfl
variable {v:Value} {d:DataW H} {p:List MemPlace}
end
end Go.Proofs.YtehpihmgjbmoaaaGreatDoor
