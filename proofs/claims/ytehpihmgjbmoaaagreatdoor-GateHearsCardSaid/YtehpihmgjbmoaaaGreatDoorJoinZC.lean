import Derived.Test.YtehpihmgjbmoaaaGreatDoorJoinGG
import Derived.Test.YtehpihmgjbmoaaaGreatDoorJoinZA
namespace Go.Proofs.YtehpihmgjbmoaaaGreatDoor
open Go.RowKit
attribute [local irreducible] Ok
def actS (W u m:Nat) (G:List Cn) (ops:Int) (a:Ac):List Cn × List Ml × List Nt :=
  if a.d=0 then (if mayO W u G a.cn=true then G++[newC a.cn] else G,[],[])
  else if a.d=1 then (modG (fedC a.bs) G a.cn,[],[])
  else if a.d=2 then (modG (fun c=>{ c with hung:=true }) G a.cn,[],[])
  else if a.d=3 then (modG (fun c=>(readC m W c a.now ops).1) G a.cn,(readX m W G a.cn a.now ops).1,(readX m W G a.cn a.now ops).2.1)
  else if a.d=4 then (hearG G [a.it],hearM W G [a.it],[])
  else (G,[],[])
def Im.zero:Im:=⟨0,0,0,⟨#[]⟩,⟨#[]⟩,Pk.zero,none,0,⟨⟨#[]⟩,⟨#[]⟩,0,false⟩,none,0,0,none,0,0,none,[],0,0,0⟩
theorem gt_infoIm:(Tryz.prog.info? 38).map (fun i=>(i.zero,i.size,i.bytes))=some (some (.agg (itR Im.zero).toArray),38,384):=by kernel_rfl
theorem one_item {wb:World} {d:Nat} {i:Im} {X:Chk} (hX:∀ w,Below wb.heap.size wb w→X.is w→ItIn w i):∀ w,Below wb.heap.size wb w→(many [rowO 38 38 (.slice (some ⟨d,0,none⟩) 1 1) 1 (itR i).toArray.toList,X]).is w→CellsA w (some ⟨d,0,none⟩) (itCs [i])∧∀ q ∈ [i],ItIn w q:=fun w h1 h2=>by
  refine ⟨?_,fun q hq=>?_⟩
  · have h3:=own_cells (show w.ownsRow 0 38 38 _ 1 (itR i) from is_at h2 0 (c:=rowO 38 38 (.slice (some ⟨d,0,none⟩) 1 1) 1 (itR i).toArray.toList) rfl)
    unfold itCs;rw [List.flatMap_cons,List.flatMap_nil,List.append_nil];exact h3
  · rw [List.mem_singleton] at hq
    subst hq;exact hX w h1 (is_at h2 1 (c:=X) rfl)
end Go.Proofs.YtehpihmgjbmoaaaGreatDoor
namespace Go.Proofs.YtehpihmgjbmoaaaGreatDoor
theorem mem_modG {f:Cn→Cn}:∀ {G:List Cn} {n:Int} {c:Cn},c ∈ modG f G n→c ∈ G∨∃ d ∈ G,getG G n=some d∧c=f d
  | [],_,_,h=>by cases h
  | d::G,n,c,h=>by
    unfold modG at h;split at h
    · rename_i e
      rcases List.mem_cons.1 h with rfl | h
      · exact Or.inr ⟨d,List.mem_cons_self,by unfold getG;rw [if_pos e],rfl⟩
      · exact Or.inl (List.mem_cons_of_mem _ h)
    · rename_i e
      rcases List.mem_cons.1 h with rfl | h
      · exact Or.inl List.mem_cons_self
      · rcases mem_modG h with h | ⟨x,hx,h1,h2⟩
        · exact Or.inl (List.mem_cons_of_mem _ h)
        · exact Or.inr ⟨x,List.mem_cons_of_mem _ hx,by unfold getG;rw [if_neg e];exact h1,h2⟩
theorem getG_mem:∀ {G:List Cn} {n:Int} {c:Cn},getG G n=some c→c ∈ G∧c.num=n
  | d::G,n,c,h=>by
    unfold getG at h;split at h
    · rename_i e
      injection h with h
      subst h;exact ⟨List.mem_cons_self,e.symm⟩
    · exact ⟨List.mem_cons_of_mem _ (getG_mem h).1,(getG_mem h).2⟩
theorem getG_modG {f:Cn→Cn} (hf:∀ c,(f c).num=c.num):∀ (G:List Cn) (n k:Int),getG (modG f G n) k=if k=n then (getG G n).map f else getG G k
  | [],n,k=>by show none=if k=n then none else none;split <;> rfl
  | d::G,n,k=>by
    unfold modG;by_cases e:n=d.num
    · rw [if_pos e]
      unfold getG;rw [hf d,if_pos e];by_cases h:k=n
      · rw [if_pos h,if_pos (h.trans e)];rfl
      · rw [if_neg h,if_neg (fun h2=>h (h2.trans e.symm)),if_neg (fun h2=>h (h2.trans e.symm))]
    · rw [if_neg e]
      unfold getG;rw [if_neg e];by_cases h:k=d.num
      · rw [if_pos h,if_pos h,if_neg (fun h2=>e (h2.symm.trans h))]
      · rw [if_neg h,if_neg h,getG_modG hf G n k]
structure CnGood (B D:Nat) (c:Cn):Prop where
  len:c.L.length≤B
  drain:c.drain.size≤D
  sent:c.sent.size≤D
  cl:c.cl.size≤64
  last0:0≤c.last
  last1:c.last≤1099511627776
  keep:c.keep≤65535
def GtGood (B D:Nat) (G:List Cn):Prop:=∀ c ∈ G,CnGood B D c
theorem CnGood.up {B D B' D':Nat} {c:Cn} (h:CnGood B D c) (h1:B≤B') (h2:D≤D'):CnGood B' D' c:=⟨Nat.le_trans h.len h1,Nat.le_trans h.drain h2,Nat.le_trans h.sent h2,h.cl,h.last0,h.last1,h.keep⟩
theorem GtGood.mod {B D B' D':Nat} {G:List Cn} (h:GtGood B D G) (h1:B≤B') (h2:D≤D') {f:Cn→Cn} {n:Int} (hf:∀ c,CnGood B D c→CnGood B' D' (f c)):GtGood B' D' (modG f G n):=fun c hc=>by
  rcases mem_modG hc with hc | ⟨d,hd,_,rfl⟩
  · exact (h c hc).up h1 h2
  · exact hf d (h d hd)
theorem nx_ok (m:Nat) (L:Bs) (e:Nat) (hL:L.length≤90000000):PkOk (nxT m L e).1:=by
  unfold nxT;split
  · exact pz_ok
  · rcases h:nextR m L with ⟨_ | p,t,e2⟩
    · exact pz_ok
    · obtain ⟨_,_,_,_,h1,h2⟩:=next_some h
      rcases hd:decR (L.take (wholeR m L).1) with ⟨p',n,e3⟩
      rw [hd] at h1 h2;simp only at h1 h2
      subst h1 h2;obtain ⟨_,_,_,_,_,_,_,_,_,_,h3,_⟩:=dec_again _ _ _ hd (by rw [List.length_take];omega);exact h3
theorem nx_len (m:Nat) (L:Bs) (e:Nat):(nxT m L e).2.2.2.1.length≤L.length:=by
  unfold nxT;split
  · exact Nat.le_refl _
  · rcases h:nextR m L with ⟨_ | p,t,e2⟩
    · unfold nextR at h
      split at h
      · injection h with _ h;injection h with h _;subst h;exact Nat.zero_le _
      split at h
      · injection h with _ h;injection h with h _;subst h;exact Nat.le_refl _
      split at h
      · injection h with _ h;injection h with h _;subst h;exact Nat.zero_le _
      · injection h with h _;cases h
    · obtain ⟨_,_,_,h2,_,_⟩:=next_some h
      subst h2;show (L.drop _).length≤_;rw [List.length_drop];omega
theorem CnGood.ok {B D m:Nat} {c:Cn} (h:CnGood B D c) (hB:B≤90000000) (hD:D≤1000000000000000):CnOk m c:=by
  have h1:=h.len;have h2:=h.drain;have h3:=h.sent;have h4:=h.cl;have h5:=h.keep;have hp:=nx_ok m c.L c.e (by omega);exact ⟨by omega,by omega,by omega,by omega,h.last0,h.last1,by omega,hp,hp.few⟩
theorem snd_good {B D:Nat} {c:Cn} (h:CnGood B D c) (ps:List Pk) (hp:∀ p ∈ ps,PkOk p) (hn:ps.length≤10):CnGood B (D+4000000000) (sndC c ps):=by
  have hs:∀ (ps:List Pk) (d:ByteArray),(∀ p ∈ ps,PkOk p)→(sndS d ps).size≤d.size+ps.length * 300000000:=by
    intro ps;induction ps with
    | nil=>intro d _;simp [sndS]
    | cons p ps ih =>
      intro d hp;have h1:=ih (snd1 d p) (fun q hq=>hp q (List.mem_cons_of_mem _ hq));have h2:=enc_size (hp p List.mem_cons_self);have h3:(snd1 d p).size≤d.size+300000000:=by
        unfold snd1;split
        · rw [ByteArray.size_append];omega
        · omega
      show (sndS (snd1 d p) ps).size≤_;rw [List.length_cons];omega
  have h1:=hs ps c.drain hp;have h2:=hs ps c.sent hp;have h3:=h.drain;have h4:=h.sent;exact ⟨h.len,by show (sndS c.drain ps).size≤_;omega,by show (sndS c.sent ps).size≤_;omega,h.cl,h.last0,h.last1,h.keep⟩
theorem st_good {B D:Nat} {c:Cn} (h:CnGood B D c) (s:Nat):CnGood B D { c with st:=s }:=⟨h.len,h.drain,h.sent,h.cl,h.last0,h.last1,h.keep⟩
theorem hear_good {B D:Nat} {c:Cn} (h:CnGood B D c) (k:Nat) (ps:List Pk) (hp:∀ p ∈ ps,PkOk p) (hn:ps.length≤10):CnGood B (D+4000000000) (hearC k ps c):=by
  have h2:=h.up (Nat.le_refl B) (show D≤D+4000000000 by omega);unfold hearC;split
  · exact snd_good h ps hp hn
  split
  · exact st_good h2 3
  split
  · exact st_good h2 6
  · exact h2
theorem read_good {B D m W:Nat} {c:Cn} {now ops:Int} (h:CnGood B D c) (hB:B≤90000000):CnGood B (D+4000000000) (readC m W c now ops).1:=by
  have h2:=h.up (Nat.le_refl B) (show D≤D+4000000000 by omega);have hl:=h.len;have hp:=nx_ok m c.L c.e (by omega);have h3:CnGood B D (nextC m c):=⟨Nat.le_trans (nx_len m c.L c.e) h.len,h.drain,h.sent,h.cl,h.last0,h.last1,h.keep⟩
  have h4:=h3.up (Nat.le_refl B) (show D≤D+4000000000 by omega);have hcut:CnGood B (D+4000000000) (cutR W (nextC m c) ops).1:=by
    unfold cutR;split
    · exact st_good h4 6
    · exact st_good h4 6
  unfold readC;split
  · exact h2
  rename_i hm
  have h5:CnGood B D { nextC m c with last:=now }:=by
    have hm2:mayR c now=true:=by simpa using hm
    simp only [mayR,Bool.and_eq_true,decide_eq_true_eq] at hm2;exact ⟨h3.len,h3.drain,h3.sent,h3.cl,hm2.1,hm2.2.1,h3.keep⟩
  have h6:=h5.up (Nat.le_refl B) (show D≤D+4000000000 by omega);split
  · exact hcut
  split
  · split
    · unfold liveR
      split
      · exact snd_good h5 [pingP] (fun p hp=>by rw [List.mem_singleton] at hp;subst hp;exact ping_ok) (by decide)
      split
      · exact ⟨h6.len,h6.drain,h6.sent,h6.cl,h6.last0,h6.last1,h6.keep⟩
      split
      · exact st_good h6 4
      split
      · exact st_good h6 4
      · exact st_good h6 6
    · unfold freshR
      split
      · rename_i hf
        unfold freshA at hf;simp only [Bool.and_eq_true,decide_eq_true_eq] at hf;have hk:=hp.keep;exact ⟨h6.len,h6.drain,h6.sent,hf.2.2.2,h6.last0,h6.last1,by show ((nxT m c.L c.e).1.keep:Int)≤65535;omega⟩
      · unfold freshN
        split
        · exact st_good h6 6
        split
        · exact st_good (snd_good h5 [ackP 1] (fun p hp=>by rw [List.mem_singleton] at hp;subst hp;exact ack_ok (by decide)) (by decide)) 6
        · exact st_good (snd_good h5 [ackP 2] (fun p hp=>by rw [List.mem_singleton] at hp;subst hp;exact ack_ok (by decide)) (by decide)) 6
  split
  · exact hcut
  · exact h4
structure AcGood (q:Ac):Prop where
  few:q.it.ps.length≤10
  ok:∀ p ∈ q.it.ps,PkOk p.1
theorem pks_ok {q:Ac} (h:AcGood q):∀ p ∈ pksI q.it,PkOk p:=fun p hp=>by
  obtain ⟨x,hx,rfl⟩:=List.mem_map.1 hp;exact h.ok x hx
theorem pks_len (i:Im):(pksI i).length=i.ps.length:=List.length_map _
theorem hear1_good {B D:Nat} {G:List Cn} (h:GtGood B D G) {q:Ac} (hq:AcGood q):GtGood B (D+4000000000) (hear1 G q.it):=by
  unfold hear1;split
  · exact h.mod (Nat.le_refl _) (by omega) (fun c hc=>st_good (hc.up (Nat.le_refl _) (by omega)) 6)
  · exact h.mod (Nat.le_refl _) (by omega) (fun c hc=>hear_good hc _ _ (pks_ok hq) (by rw [pks_len];exact hq.few))
theorem act_good {B D W u m:Nat} {G:List Cn} {ops:Int} {q:Ac} (h:GtGood B D G) (hB:B≤80000000) (hq:AcGood q):GtGood (B+q.bs.size) (D+4000000000) (actS W u m G ops q).1:=by
  have h2:GtGood (B+q.bs.size) (D+4000000000) G:=fun c hc=>(h c hc).up (by omega) (by omega)
  unfold actS;split
  · show GtGood _ _ (if _ then _ else _)
    split
    · intro c hc
      rcases List.mem_append.1 hc with hc | hc
      · exact h2 c hc
      · rw [List.mem_singleton] at hc
        subst hc;exact ⟨Nat.zero_le _,Nat.zero_le _,Nat.zero_le _,Nat.zero_le _,Int.le_refl _,(by show (0:Int)≤1099511627776;omega),(by show (0:Int)≤65535;omega)⟩
    · exact h2
  split
  · refine h.mod (by omega) (by omega) (fun c hc=>?_)
    unfold fedC;split
    · exact hc.up (by omega) (by omega)
    · have h3:=hc.up (Nat.le_refl B) (show D≤D+4000000000 by omega)
      have h4:=hc.len;exact ⟨by show (c.L++bl q.bs).length≤_;rw [List.length_append];have h5:(bl q.bs).length=q.bs.size:=rfl;omega,h3.drain,h3.sent,h3.cl,h3.last0,h3.last1,h3.keep⟩
  split
  · exact h.mod (by omega) (by omega) (fun c hc=>have h3:=hc.up (show B≤B+q.bs.size by omega) (show D≤D+4000000000 by omega);⟨h3.len,h3.drain,h3.sent,h3.cl,h3.last0,h3.last1,h3.keep⟩)
  split
  · exact h.mod (by omega) (by omega) (fun c hc=>(read_good hc (by omega)).up (by omega) (by omega))
  split
  · exact fun c hc=>(hear1_good h hq c hc).up (by omega) (by omega)
  · exact h2
end Go.Proofs.YtehpihmgjbmoaaaGreatDoor
namespace Go.Proofs.YtehpihmgjbmoaaaGreatDoor
open Go.RowKit
def Ext (c c':Cn):Prop:=∃ x,c'.drain=c.drain++x∧c'.sent=c.sent++x
theorem Ext.same {c c':Cn} (h1:c'.drain=c.drain) (h2:c'.sent=c.sent):Ext c c':=⟨⟨#[]⟩,by rw [h1];exact ByteArray.append_empty.symm,by rw [h2];exact ByteArray.append_empty.symm⟩
theorem cut_num (W:Nat) (c:Cn) (ops:Int):(cutR W c ops).1.num=c.num:=by unfold cutR;split <;> rfl
theorem read_num (m W:Nat) (c:Cn) (now ops:Int):(readC m W c now ops).1.num=c.num:=by
  unfold readC;split
  · rfl
  split
  · exact cut_num W _ ops
  split
  · split
    · unfold liveR
      repeat (split <;> try rfl)
    · unfold freshR
      split
      · rfl
      · rw [freshN_num];rfl
  split
  · exact cut_num W _ ops
  · rfl
theorem fed_num (s:ByteArray) (c:Cn):(fedC s c).num=c.num:=by unfold fedC;split <;> rfl
def ExtG (k:Int) (G G':List Cn):Prop:=∃ x,drainG G' k=drainG G k++x∧sentG G' k=sentG G k++x
theorem ExtG.same (k:Int) (G:List Cn):ExtG k G G:=⟨⟨#[]⟩,ByteArray.append_empty.symm,ByteArray.append_empty.symm⟩
theorem ExtG.mod {f:Cn→Cn} (hf:∀ c,(f c).num=c.num) (he:∀ c,Ext c (f c)) (k n:Int) (G:List Cn):ExtG k G (modG f G n):=by
  unfold ExtG drainG sentG;rw [getG_modG hf];by_cases h:k=n
  · subst h
    rw [if_pos rfl];cases hg:getG G k with
    | none=>exact ⟨⟨#[]⟩,rfl,rfl⟩
    | some c=>exact he c
  · rw [if_neg h]
    exact ExtG.same k G
theorem drop_good {B D:Nat} {G:List Cn} (h:GtGood B D G) (n:Int):GtGood B D (modG dropD G n):=h.mod (Nat.le_refl _) (Nat.le_refl _) (fun c hc=>⟨hc.len,Nat.zero_le _,hc.sent,hc.cl,hc.last0,hc.last1,hc.keep⟩)
end Go.Proofs.YtehpihmgjbmoaaaGreatDoor
namespace Go.Proofs.YtehpihmgjbmoaaaGreatDoor
open Go.RowKit
attribute [local irreducible] Ok
structure AcWf (q:Ac):Prop where
  cn:q.cn < 9223372036854775808
  ok:∀ p ∈ q.it.ps,p.1.ty < 256∧p.1.qos < 256∧p.1.id < 65536∧p.1.level < 256∧p.1.keep < 65536∧p.1.wqos < 256∧p.1.code < 256∧∀ x ∈ p.1.subs,x.2 < 256
theorem bigN_ok {p:Pk} (hw:p.ty < 256∧p.qos < 256∧p.id < 65536∧p.level < 256∧p.keep < 65536∧p.wqos < 256∧p.code < 256∧∀ x ∈ p.subs,x.2 < 256) (hb:bigN (notP p)=false):PkOk p:=by
  unfold bigN at hb;rw [Bool.or_eq_false_iff,Bool.or_eq_false_iff] at hb;obtain ⟨h1,h2,h3⟩:=hb;have ht:∀ t ∈ txN (notP p),t.size≤300:=fun t ht=>by
    have h:=List.any_eq_false.1 h1 t ht;simp only [decide_eq_true_eq] at h;omega
  have hs:∀ x ∈ p.subs,x.1.size≤300:=fun x hx=>by
    have h:=List.any_eq_false.1 h2 x hx;simp only [decide_eq_true_eq] at h;omega
  have h4:p.subs.length≤20:=by
    have h:=of_decide_eq_false h3;have e:(notP p).p.subs.length=p.subs.length:=rfl;omega
  have p1:p.topic.size≤300:=ht p.topic (by simp [txN,notP]);have p2:p.payload.size≤300:=ht p.payload (by simp [txN,notP]);have p3:p.client.size≤300:=ht p.client (by simp [txN,notP]);have p4:p.wtopic.size≤300:=ht p.wtopic (by simp [txN,notP]);have p5:p.wpayload.size≤300:=ht p.wpayload (by simp [txN,notP]);have p6:p.user.size≤300:=ht p.user (by simp [txN,notP]);have p7:p.pass.size≤300:=ht p.pass (by simp [txN,notP]);have p8:p.codes.size≤300:=ht p.codes (by simp [txN,notP]);obtain ⟨w1,w2,w3,w4,w5,w6,w7,w8⟩:=hw;exact ⟨w1,w2,w3,w4,w5,w6,w7,by omega,by omega,by omega,by omega,by omega,by omega,by omega,by omega,by omega,fun x hx=>⟨by have:=hs x hx;omega,w8 x hx⟩⟩
theorem small_acts {xs:List Ac} (h:big20 xs=false) (hw:∀ q ∈ xs,AcWf q):xs.length≤100∧sumL xs≤5000∧∀ q ∈ xs,AcGood q∧q.it.cl.size≤300∧q.bs.size≤2000:=by
  unfold big20 at h;obtain ⟨h1,h2⟩:=Bool.or_eq_false_iff.1 h;have h3:=of_decide_eq_false h2;have h4:=badL_sum xs 0 (by decide) h1;have h5:∀ (l:List Ac) (n:Nat),badL n l=false→∀ q ∈ l,∃ n,badA n q=false:=by
    intro l;induction l with
    | nil=>intro n _ q hq;cases hq
    | cons x l ih =>
      intro n hb q hq;obtain ⟨b1,b2⟩:=Bool.or_eq_false_iff.1 (show (badA n x || badL (n+x.bs.size) l)=false from hb);rcases List.mem_cons.1 hq with rfl | hq
      · exact ⟨n,b1⟩
      · exact ih _ b2 q hq
  refine ⟨by omega,by omega,fun q hq=>?_⟩;obtain ⟨n,hb⟩:=h5 xs 0 h1 q hq;unfold badA badP at hb;simp only [Bool.or_eq_false_iff,decide_eq_false_iff_not] at hb;obtain ⟨b1,_,b3,b4,b5⟩:=hb;refine ⟨⟨by omega,fun p hp=>?_⟩,by omega,by omega⟩;have h6:=List.any_eq_false.1 b5 p hp;exact bigN_ok ((hw q hq).ok p hp) (by simpa using h6)
theorem may_nat {W u m:Int} (h:mayN W u m=true):∃ W' u' m':Nat,W=W'∧u=u'∧m=m'∧1≤W'∧W'≤64∧u' < W'∧16≤m'∧m'≤65536:=by
  simp only [mayN,Bool.and_eq_true,decide_eq_true_eq] at h;exact ⟨W.toNat,u.toNat,m.toNat,by omega,by omega,by omega,by omega,by omega,by omega,by omega,by omega⟩
theorem read_notes (m W:Nat) (c:Cn) (now ops:Int):(readC m W c now ops).2.2.1.length≤1:=by
  have h1:∀ c,(cutR W c ops).2.2.1.length≤1:=fun c=>by
    unfold cutR;split
    · exact Nat.le_refl _
    · exact Nat.zero_le _
  have h2:∀ c p,(liveR W c p ops).2.2.1.length≤1:=fun c p=>by
    unfold liveR;split
    · exact Nat.zero_le _
    split
    · exact Nat.le_refl _
    split
    · exact Nat.le_refl _
    split
    · exact Nat.zero_le _
    · exact Nat.le_refl _
  have h3:∀ c p,(freshR W c p ops).2.2.1.length≤1:=fun c p=>by
    unfold freshR;split
    · exact Nat.le_refl _
    · exact Nat.zero_le _
  unfold readC;split
  · exact Nat.zero_le _
  split
  · exact h1 _
  split
  · split
    · exact h2 _ _
    · exact h3 _ _
  split
  · exact h1 _
  · exact Nat.zero_le _
theorem act_notes (W u m:Nat) (G:List Cn) (ops:Int) (q:Ac):(actS W u m G ops q).2.2.length≤1:=by
  unfold actS;split
  · exact Nat.zero_le _
  split
  · exact Nat.zero_le _
  split
  · exact Nat.zero_le _
  split
  · show (readX m W G q.cn q.now ops).2.1.length≤1
    unfold readX;split
    · exact Nat.zero_le _
    · exact read_notes _ _ _ _ _
  split
  · exact Nat.zero_le _
  · exact Nat.zero_le _
theorem sum_take {xs:List Ac} (k:Nat):sumL (xs.take k)≤sumL xs:=by
  have h:sumL xs=sumL (xs.take k)+sumL (xs.drop k):=by
    unfold sumL;rw [← List.sum_append,← List.map_append,List.take_append_drop]
  omega
end Go.Proofs.YtehpihmgjbmoaaaGreatDoor
namespace Go.Proofs.YtehpihmgjbmoaaaGreatDoor
end Go.Proofs.YtehpihmgjbmoaaaGreatDoor
namespace Go.Proofs.YtehpihmgjbmoaaaGreatDoor
open Go.RowKit
attribute [local irreducible] Ok
theorem read_mails (m W:Nat) (c:Cn) (now ops:Int):(readC m W c now ops).2.1.length≤1:=by
  have h1:∀ c,(cutR W c ops).2.1.length≤1:=fun c=>by
    unfold cutR;split
    · exact Nat.le_refl _
    · exact Nat.zero_le _
  have h2:∀ c p,(liveR W c p ops).2.1.length≤1:=fun c p=>by
    unfold liveR;repeat (first | exact Nat.zero_le _ | exact Nat.le_refl _ | split)
  have h3:∀ c p,(freshR W c p ops).2.1.length≤1:=fun c p=>by
    unfold freshR;split
    · exact Nat.le_refl _
    · exact Nat.zero_le _
  unfold readC;split
  · exact Nat.zero_le _
  split
  · exact h1 _
  split
  · split
    · exact h2 _ _
    · exact h3 _ _
  split
  · exact h1 _
  · exact Nat.zero_le _
theorem ml_range {w:World} {v:Value} {M:List MlG} (h:(rowO 51 40 v M.length (mlCs M)).is w) {j:Nat} {x:MlG} (hx:M[j]? = some x):∃ g c,v=.slice (some ⟨g,0,none⟩) M.length c:=by
  rcases h.2 with ⟨_,h3⟩ | ⟨g,cap,cur,h2,_⟩
  · have hl:=(List.getElem?_eq_some_iff.1 hx).1
    omega
  · exact ⟨g,cap,h2⟩
theorem ml_at {w:World} {g c:Nat} {M:List MlG} (h:(rowO 51 40 (.slice (some ⟨g,0,none⟩) M.length c) M.length (mlCs M)).is w) {j:Nat} {x:MlG} (hx:M[j]? = some x):w.rangeAt g (0+j * 40) (mlC x):=by
  obtain ⟨b,o,e,hj⟩:=CellsA.elem (g:=mlC) (m:=40) (fun _=>rfl) (own_cells (show w.ownsRow 0 51 40 _ M.length (mlCs M) from h)) hx (.int .i64 x.1.dst) rfl;injection e with e
  injection e with e1 e2
  subst e1 e2;exact fun j v hv=>hj j v hv
end Go.Proofs.YtehpihmgjbmoaaaGreatDoor
namespace Go.Proofs.YtehpihmgjbmoaaaGreatDoor
open Go.RowKit
attribute [local irreducible] Ok
def acI (i:Im):Ac:=⟨0,0,0,⟨#[]⟩,i⟩
def Ac.zero:Ac:=acI Im.zero
theorem hear_hb {B D:Nat} {G:List Cn} (hG:GtGood B D G) (hD:D≤900000000000000) {q:Ac} (hq:AcGood q):∀ k c n,getG (hearG G ([q.it].take k)) n=some c→c.drain.size≤1000000000000000∧c.sent.size≤1000000000000000:=fun k c n hc=>by
  have h3:GtGood B (D+4000000000) (hearG G ([q.it].take k)):=by
    cases k with
    | zero=>exact fun c hc=>(hG c hc).up (Nat.le_refl _) (by omega)
    | succ k =>
      have h:=hear1_good hG hq;rw [show [q.it].take (k+1)=[q.it] by simp];exact h
  have h4:=h3 c (getG_mem hc).1;have h5:=h4.drain;have h6:=h4.sent;exact ⟨by omega,by omega⟩
theorem same_fst {x y:MlG} {M N:List MlG} (e:M.map (·.1)=N.map (·.1)) {k:Nat} (hx:M[k]? = some x) (hy:N[k]? = some y):y.1=x.1:=by
  have h:=congrArg (fun l=>l[k]?) e;simp only [List.getElem?_map,hx,hy,Option.map_some,Option.some.injEq] at h;exact h.symm
end Go.Proofs.YtehpihmgjbmoaaaGreatDoor
