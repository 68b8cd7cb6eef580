import Derived.Test.YtehpihmgjbmoaaaGreatDoorProg
import Derived.WalkKit
import Derived.Handy
import Derived.WalkSpells
import Derived.WalkLawsBesides
import Derived.Outline
import Derived.Deep.LoopGhost
import Derived.Deep.QuietTactic
import Derived.BigQuiet
import Derived.Lib.LaidU8
import Derived.Lib.Strings
import Derived.Lib.Hide
import Derived.Test.YtehpihmgjbmoaaaGreatDoorCards
import Derived.Test.YtehpihmgjbmoaaaGreatDoorTie
import Derived.Test.YtehpihmgjbmoaaaGreatDoorShelf
import Derived.ProofKit
import Derived.OpenShut
import Derived.SizedLaws
import Derived.Deep.DeepHandedRow
import Derived.Lib.TrimUEq
import Derived.Lib.TrimU
import Derived.Lib.MapLaws
import Derived.Laws.AppendOwn
import Derived.Laws.OwnMore
import Derived.OwnWalk
import Derived.Deep.Draws
import Derived.Laws.Rows
import Derived.Laws.BytesArg
import Derived.Lib.SplitLaws
import Derived.Lib.Bytealg
import Derived.Laws.CopyRow
import Derived.Laws.AppendOwnNone
import Derived.Deep.RegionLaw
import Derived.Deep.RegionLawGrows
import Derived.Laws.Tables
import Derived.OrdersHeld
import Derived.Deep.RegionHeld3
namespace Go.Proofs.YtehpihmgjbmoaaaGreatDoor
open Go.RowKit
theorem ret_int {k:IntKind} {a b:Int} (h:a=b):Ending.returned (.int k a)=.returned (.int k b):=by rw [h]
theorem ret_bool {a b:Bool} (h:a=b):Ending.returned (.bool a)=.returned (.bool b):=by rw [h]
def CellsA (w:World) (a:Option Addr) (vs:List Value):Prop :=
  ∀ j v,vs[j]? = some v→∃ b o,a=some ⟨b,o,none⟩∧w.cell? ⟨b,o+j,none⟩=some v
theorem CellsA.nil (w:World) (a:Option Addr):CellsA w a []:=fun j v h=>by simp at h
theorem CellsA.below {w w':World} {a:Option Addr} {vs:List Value} (h:CellsA w a vs) (hb:Below w.heap.size w w'):CellsA w' a vs:=by
  intro j v hv;obtain ⟨b,o,ha,hc⟩:=h j v hv;have hlt:=World.block_lt_of_cell? _ _ hc;exact ⟨b,o,ha,(hb.cell (p:=⟨b,o+j,none⟩) hlt).trans hc⟩
theorem Below.then {w w1 w2:World} (h:Below w.heap.size w w1) (k:Below w1.heap.size w1 w2):Below w.heap.size w w2:=h.trans (k.mono h.size)
theorem cell_later {w w':World} {p:Addr} {v:Value} (h:w.cell? p=some v) (hb:Below w.heap.size w w'):w'.cell? p=some v :=
  (hb.cell (World.block_lt_of_cell? _ _ h)).trans h
theorem below_draws {w w2:World} {n:Nat} (h:w.drewN n=w2):Below w.heap.size w w2:=by
  subst h;exact ⟨rfl,rfl,rfl,Nat.le_refl _,fun _ _=>rfl⟩
structure Env (w:World):Prop where
  tabs:Lib.Utf8Tabs 0 1 w
  most:∃ m:Int,w.cell? ⟨2,0,none⟩=some (.int .i64 m)
theorem Env.below {w w':World} (h:Env w) (hb:Below w.heap.size w w'):Env w':=by
  obtain ⟨⟨h1,h2⟩,m,hm⟩:=h;exact ⟨⟨fun c hc=>cell_later (h1 c hc) hb,fun i hi=>⟨cell_later (h2 i hi).1 hb,cell_later (h2 i hi).2 hb⟩⟩,m,cell_later hm hb⟩
end Go.Proofs.YtehpihmgjbmoaaaGreatDoor
namespace Go.Proofs.YtehpihmgjbmoaaaGreatDoor
open Go.ChangeShapes Go.WideShapes Go.ChangeAt Go.RowKit Go.Shelf
theorem own:ownKnob Tryz.prog.godebug=none:=by kernel_rfl
abbrev laidTabs : List (String × DataW Unit) := [("unicode/utf8.acceptRanges", Rows.laid_unicode_utf8_acceptRanges), ("unicode/utf8.first", Rows.laid_unicode_utf8_first)]
theorem first_is:Rows.laid_unicode_utf8_first=Lib.firstData:=by kernel_rfl
theorem accept_is:(Rows.laid_unicode_utf8_acceptRanges:DataW Unit)=Lib.acceptData:=by kernel_rfl
theorem env_of {W:World} (hL:laidMetH Tryz.prog laidTabs W) (hS:W.ShapedOpen Tryz.prog):Env W:=by
  rw [MakeChecks.laidMetH_plain _ _ _ (by kernel_rfl)] at hL; refine ⟨?_, Tryz.laysM146.s1_3 W hS⟩; have h1 : Lib.VarReads Tryz.prog W "unicode/utf8.first" Rows.laid_unicode_utf8_first := Lib.laidMet.reads hL (.tail _ (.head _)); have h2 : Lib.VarReads Tryz.prog W "unicode/utf8.acceptRanges" Rows.laid_unicode_utf8_acceptRanges := Lib.laidMet.reads hL (.head _); rw [first_is] at h1; rw [accept_is] at h2; exact utf8Tabs_of_reads (ρ := Tryz.lays197_ren) { Tryz.lays197 with } ⟨by kernel_rfl, by kernel_rfl, by kernel_rfl, by kernel_rfl, by kernel_rfl, by kernel_rfl, by kernel_rfl⟩ h1 h2
noncomputable def laidWorld (os:Os) (bs:Array Obj):World :=
  let w0:=World.holding Tryz.prog os ⟨bs,#[],[]⟩
  let put (h:Array Obj) (g:Nat) (cs:Array Value):Array Obj:=h.modify g fun
    | .cells _ t frozen=>.cells cs t frozen
    | o=>o
  let h1:=put w0.heap 0 (Lib.firstTab.map fun z=>Value.int .u8 z).toArray
  let h2:=put h1 1 ((List.range 16).flatMap fun i=>[Value.int .u8 (Lib.accLo i),Value.int .u8 (Lib.accHi i)]).toArray
  { w0 with heap:=h2 }
theorem laid_met (os:Os) (args:Array Value):laidMet Tryz.prog laidTabs ((laidWorld os #[]).forCall (fun _ _=>0) ⟨#[],args,[]⟩).memory :=
  laidMet_of_run' 8 (by kernel_rfl) (by kernel_rfl)
end Go.Proofs.YtehpihmgjbmoaaaGreatDoor
namespace Go.Proofs.YtehpihmgjbmoaaaGreatDoor
open Go.RowKit
def Whole (n:Int):Prop:=-9223372036854775808≤n∧n < 9223372036854775808
theorem wf_of {n:Int} (h:(Lit.int .i64 n).wf=true):Whole n:=by
  unfold Whole;simp [Lit.wf] at h
  constructor <;> first | exact h.1 | exact h.2 | omega
end Go.Proofs.YtehpihmgjbmoaaaGreatDoor
namespace Go.Proofs.YtehpihmgjbmoaaaGreatDoor
open Go.Lib
def chrD (l:List UInt8):Nat × Nat:=if l=[]∨(decodeL l).1=0∨((decodeL l).1=65533∧(decodeL l).2=1) then (0,0) else decodeL l
theorem chrD_le (l:List UInt8):(chrD l).2≤l.length:=by
  unfold chrD;split
  · simp
  · rename_i h
    have h:l≠[]:=fun e=>h (Or.inl e)
    exact decodeL_le l h
def cntF:Nat→List UInt8→Option Nat
  | 0,_=>some 0
  | f+1,l=>if l=[] then some 0 else if (chrD l).2=0 then none else (cntF f (l.drop (chrD l).2)).map (·+1)
def cntO (l:List UInt8):Option Nat:=cntF l.length l
theorem cntF_fuel:∀ (n m:Nat) (l:List UInt8),l.length≤n→l.length≤m→cntF n l=cntF m l
  | 0,m,l,hn,_=>by
    have:l=[]:=List.eq_nil_of_length_eq_zero (by omega);subst this;cases m <;> simp [cntF]
  | n+1,0,l,_,hm=>by
    have:l=[]:=List.eq_nil_of_length_eq_zero (by omega);subst this;simp [cntF]
  | n+1,m+1,l,hn,hm=>by
    simp only [cntF];split
    · rfl
    · split
      · rfl
      · rw [cntF_fuel n m _ (by simp;omega) (by simp;omega)]
theorem cntO_nil:cntO []=some 0:=rfl
theorem cntO_step (l:List UInt8) (h:l≠[]):cntO l=if (chrD l).2=0 then none else (cntO (l.drop (chrD l).2)).map (·+1):=by
  unfold cntO;cases l with
  | nil=>exact absurd rfl h
  | cons b t =>
    simp only [List.length_cons,cntF,if_neg h];split
    · rfl
    · rw [cntF_fuel _ _ _ (by simp;omega) (Nat.le_refl _)]
def told (o:Option Nat):Int:=match o with | some k=>k | none=>-1
def countL (l:List UInt8):Int:=if l.length≤65535 then told (cntO l) else -1
def validL (l:List UInt8):Bool:=decide (l.length≤65535) && (cntO l).isSome
theorem told_nonneg (o:Option Nat):decide (0≤told o)=o.isSome:=by
  cases o with
  | none=>simp [told]
  | some k=>simp [told]
theorem countL_valid (l:List UInt8):decide (0≤countL l)=validL l:=by
  unfold countL validL;by_cases h:l.length≤65535
  · rw [if_pos h,told_nonneg];simp [h]
  · rw [if_neg h];simp [h]
def szB (c:Nat):Nat:=if c < 128 then 1 else if 192≤c∧c < 224 then 2 else if 224≤c∧c < 240 then 3 else if 240≤c∧c < 248 then 4 else 0
def chrN (n b0 b1 b2 b3:Nat):Nat × Nat :=
  if b0 < 128 then (if b0 < 1 then (0,0) else (b0,1))
  else if 192≤b0∧b0 < 224 then
    (if n < 2∨b1 < 128∨191 < b1∨64 * (b0 - 192)+b1 - 128 < 128 then (0,0) else (64 * (b0 - 192)+b1 - 128,2))
  else if 224≤b0∧b0 < 240 then
    (if n < 3∨b1 < 128∨191 < b1∨b2 < 128∨191 < b2∨64 * (64 * (b0 - 224)+b1 - 128)+b2 - 128 < 2048∨(55296≤64 * (64 * (b0 - 224)+b1 - 128)+b2 - 128∧64 * (64 * (b0 - 224)+b1 - 128)+b2 - 128≤57343) then (0,0)
     else (64 * (64 * (b0 - 224)+b1 - 128)+b2 - 128,3))
  else if 240≤b0∧b0 < 248 then
    (if n < 4∨b1 < 128∨191 < b1∨b2 < 128∨191 < b2∨b3 < 128∨191 < b3∨64 * (64 * (64 * (b0 - 240)+b1 - 128)+b2 - 128)+b3 - 128 < 65536∨1114111 < 64 * (64 * (64 * (b0 - 240)+b1 - 128)+b2 - 128)+b3 - 128 then (0,0)
     else (64 * (64 * (64 * (b0 - 240)+b1 - 128)+b2 - 128)+b3 - 128,4))
  else (0,0)
def cut (d:Nat × Nat):Nat × Nat:=if d.1=0∨(d.1=65533∧d.2=1) then (0,0) else d
theorem cut_ok (c k:Nat) (h:c≠0) (h2:k≠1∨c < 65533):cut (c,k)=(c,k):=by
  unfold cut;rw [if_neg];simp only
  omega
set_option maxRecDepth 100000 in
set_option maxHeartbeats 4000000 in
theorem chrN_eq (n b0 b1 b2 b3:Nat) (_hn:1≤n) (h0:b0 < 256) (h1:b1 < 256) (h2:b2 < 256) (h3:b3 < 256) :
    chrN n b0 b1 b2 b3=cut (decodeN n b0 b1 b2 b3):=by
  by_cases c1:b0 < 128
  · unfold decodeN chrN
    rw [if_pos c1,if_pos c1];split
    · have:b0=0:=by omega
      subst this;rfl
    · rw [cut_ok _ _ (by omega) (by omega)]
  by_cases c2:192≤b0∧b0 < 224
  · have e:64 * (b0 - 192)+b1 - 128=b0 % 32 * 64+b1 % 64∨b1 < 128∨191 < b1:=by omega
    by_cases d:1 < n∧b1 / 64=2
    · by_cases g:b0 % 32 * 64+b1 % 64 ≥ 128
      · have hd:decodeN n b0 b1 b2 b3=(b0 % 32 * 64+b1 % 64,2):=by
          unfold decodeN;rw [if_neg c1,if_pos ⟨by omega,d⟩,if_pos g]
        have hr:chrN n b0 b1 b2 b3=(64 * (b0 - 192)+b1 - 128,2):=by
          unfold chrN;rw [if_neg c1,if_pos c2,if_neg (by omega)]
        rw [hd,hr,cut_ok _ _ (by omega) (by omega)];apply Prod.ext <;> simp only <;> omega
      · have hd:decodeN n b0 b1 b2 b3=(65533,1):=by
          unfold decodeN;rw [if_neg c1,if_pos ⟨by omega,d⟩,if_neg g]
        have hr:chrN n b0 b1 b2 b3=(0,0):=by
          unfold chrN;rw [if_neg c1,if_pos c2,if_pos (by omega)]
        rw [hd,hr];rfl
    · have hd:decodeN n b0 b1 b2 b3=(65533,1):=by
        unfold decodeN;rw [if_neg c1,if_neg (by omega),if_neg (by omega),if_neg (by omega)]
      have hr:chrN n b0 b1 b2 b3=(0,0):=by
        unfold chrN;rw [if_neg c1,if_pos c2,if_pos (by omega)]
      rw [hd,hr];rfl
  by_cases c3:224≤b0∧b0 < 240
  · have e:64 * (64 * (b0 - 224)+b1 - 128)+b2 - 128=b0 % 16 * 4096+b1 % 64 * 64+b2 % 64∨b1 < 128∨191 < b1∨b2 < 128∨191 < b2:=by omega
    by_cases d:(1 < n∧b1 / 64=2)∧(2 < n∧b2 / 64=2)
    · by_cases g:b0 % 16 * 4096+b1 % 64 * 64+b2 % 64 ≥ 2048∧(b0 % 16 * 4096+b1 % 64 * 64+b2 % 64 < 55296∨(57344≤b0 % 16 * 4096+b1 % 64 * 64+b2 % 64∧b0 % 16 * 4096+b1 % 64 * 64+b2 % 64≤1114111))
      · have hd:decodeN n b0 b1 b2 b3=(b0 % 16 * 4096+b1 % 64 * 64+b2 % 64,3):=by
          unfold decodeN;rw [if_neg c1,if_neg (by omega),if_pos ⟨by omega,d⟩,if_pos g]
        have hr:chrN n b0 b1 b2 b3=(64 * (64 * (b0 - 224)+b1 - 128)+b2 - 128,3):=by
          unfold chrN;rw [if_neg c1,if_neg c2,if_pos c3,if_neg (by omega)]
        rw [hd,hr,cut_ok _ _ (by omega) (by omega)];apply Prod.ext <;> simp only <;> omega
      · have hd:decodeN n b0 b1 b2 b3=(65533,1):=by
          unfold decodeN;rw [if_neg c1,if_neg (by omega),if_pos ⟨by omega,d⟩,if_neg g]
        have hr:chrN n b0 b1 b2 b3=(0,0):=by
          unfold chrN;rw [if_neg c1,if_neg c2,if_pos c3,if_pos (by omega)]
        rw [hd,hr];rfl
    · have hd:decodeN n b0 b1 b2 b3=(65533,1):=by
        unfold decodeN;rw [if_neg c1,if_neg (by omega),if_neg (fun h=>d ⟨h.2.1,h.2.2⟩),if_neg (by omega)]
      have hr:chrN n b0 b1 b2 b3=(0,0):=by
        unfold chrN;rw [if_neg c1,if_neg c2,if_pos c3,if_pos (by omega)]
      rw [hd,hr];rfl
  by_cases c4:240≤b0∧b0 < 248
  · have e:64 * (64 * (64 * (b0 - 240)+b1 - 128)+b2 - 128)+b3 - 128=b0 % 8 * 262144+b1 % 64 * 4096+b2 % 64 * 64+b3 % 64∨b1 < 128∨191 < b1∨b2 < 128∨191 < b2∨b3 < 128∨191 < b3:=by omega
    by_cases d:(1 < n∧b1 / 64=2)∧(2 < n∧b2 / 64=2)∧(3 < n∧b3 / 64=2)
    · by_cases g:b0 % 8 * 262144+b1 % 64 * 4096+b2 % 64 * 64+b3 % 64 ≥ 65536∧(b0 % 8 * 262144+b1 % 64 * 4096+b2 % 64 * 64+b3 % 64 < 55296∨(57344≤b0 % 8 * 262144+b1 % 64 * 4096+b2 % 64 * 64+b3 % 64∧b0 % 8 * 262144+b1 % 64 * 4096+b2 % 64 * 64+b3 % 64≤1114111))
      · have hd:decodeN n b0 b1 b2 b3=(b0 % 8 * 262144+b1 % 64 * 4096+b2 % 64 * 64+b3 % 64,4):=by
          unfold decodeN;rw [if_neg c1,if_neg (by omega),if_neg (by omega),if_pos ⟨by omega,d⟩,if_pos g]
        have hr:chrN n b0 b1 b2 b3=(64 * (64 * (64 * (b0 - 240)+b1 - 128)+b2 - 128)+b3 - 128,4):=by
          unfold chrN;rw [if_neg c1,if_neg c2,if_neg c3,if_pos c4,if_neg (by omega)]
        rw [hd,hr,cut_ok _ _ (by omega) (by omega)];apply Prod.ext <;> simp only <;> omega
      · have hd:decodeN n b0 b1 b2 b3=(65533,1):=by
          unfold decodeN;rw [if_neg c1,if_neg (by omega),if_neg (by omega),if_pos ⟨by omega,d⟩,if_neg g]
        have hr:chrN n b0 b1 b2 b3=(0,0):=by
          unfold chrN;rw [if_neg c1,if_neg c2,if_neg c3,if_pos c4,if_pos (by omega)]
        rw [hd,hr];rfl
    · have hd:decodeN n b0 b1 b2 b3=(65533,1):=by
        unfold decodeN;rw [if_neg c1,if_neg (by omega),if_neg (by omega),if_neg (fun h=>d h.2)]
      have hr:chrN n b0 b1 b2 b3=(0,0):=by
        unfold chrN;rw [if_neg c1,if_neg c2,if_neg c3,if_pos c4,if_pos (by omega)]
      rw [hd,hr];rfl
  · have hd:decodeN n b0 b1 b2 b3=(65533,1):=by
      unfold decodeN;rw [if_neg c1,if_neg (by omega),if_neg (by omega)];split
      · rw [if_neg (by omega)]
      · rfl
    have hr:chrN n b0 b1 b2 b3=(0,0):=by
      unfold chrN;rw [if_neg c1,if_neg c2,if_neg c3,if_neg c4]
    rw [hd,hr];rfl
def bN (l:List UInt8) (k:Nat):Nat:=(l.getD k 0).toNat
theorem bN_lt (l:List UInt8) (k:Nat):bN l k < 256:=(l.getD k 0).toNat_lt
theorem chrD_N (l:List UInt8) (h:l≠[]):chrD l=chrN l.length (bN l 0) (bN l 1) (bN l 2) (bN l 3):=by
  have hl:1≤l.length:=by cases l with | nil=>exact absurd rfl h | cons=>simp
  rw [chrN_eq _ _ _ _ _ hl (bN_lt _ _) (bN_lt _ _) (bN_lt _ _) (bN_lt _ _)];unfold chrD bN cut;rw [decodeL_N];simp only [h,false_or]
end Go.Proofs.YtehpihmgjbmoaaaGreatDoor
namespace Go.Proofs.YtehpihmgjbmoaaaGreatDoor
open Go.RowKit
structure Only (F:Nat→Prop) (w w':World):Prop where
  os:w'.os=w.os
  tape:w'.tape=w.tape
  output:w'.output=w.output
  size:w.heap.size≤w'.heap.size
  block:∀ k,k < w.heap.size→¬ F k→w'.heap[k]? = w.heap[k]?
theorem Only.refl (F:Nat→Prop) (w:World):Only F w w:=⟨rfl,rfl,rfl,Nat.le_refl _,fun _ _ _=>rfl⟩
theorem Only.of_below {w w':World} (h:Below w.heap.size w w') (F:Nat→Prop):Only F w w':=⟨h.os,h.tape,h.output,h.size,fun k hk _=>h.block k hk⟩
theorem Only.trans {F G:Nat→Prop} {a b c:World} (h:Only F a b) (k:Only G b c) (hG:∀ j,j < a.heap.size→G j→F j):Only F a c :=
  ⟨k.os.trans h.os,k.tape.trans h.tape,k.output.trans h.output,Nat.le_trans h.size k.size,fun i hi hF=>(k.block i (Nat.lt_of_lt_of_le hi h.size) (fun hg=>hF (hG i hi hg))).trans (h.block i hi hF)⟩
theorem Only.then {F:Nat→Prop} {a b c:World} (h:Only F a b) (k:Below b.heap.size b c):Only F a c:=h.trans (Only.of_below k F) (fun _ _ h=>h)
theorem Only.drew {F:Nat→Prop} {a b:World} (h:Only F a b):Only F a b.drew:=⟨h.os,h.tape,h.output,h.size,h.block⟩
theorem Only.drewN {F:Nat→Prop} {a b:World} (h:Only F a b) (n:Nat):Only F a (b.drewN n):=⟨h.os,h.tape,h.output,h.size,h.block⟩
theorem Only.alloc {F:Nat→Prop} {a b:World} (h:Only F a b) (o:Obj):Only F a (b.alloc o):=h.then ((Below.refl _ _).alloc (Nat.le_refl _) _)
theorem Only.setCell {F:Nat→Prop} {a b:World} (h:Only F a b) {p:Addr} (hp:F p.block∨a.heap.size≤p.block) (u:Value):Only F a (b.setCell p u) :=
  ⟨h.os,h.tape,h.output,by simpa [World.setCell] using h.size,fun i hi hF=>(Below.heap_setCell b p u i (by
    rintro rfl;rcases hp with hp | hp
    · exact hF hp
    · omega)).trans (h.block i hi hF)⟩
theorem Only.grown {F:Nat→Prop} {a b c:World} (h:Only F a b) {row:Option Nat} (k:b.grownBy c row) (hr:∀ g,row=some g→F g∨a.heap.size≤g):Only F a c :=
  ⟨k.os.trans h.os,k.tape.trans h.tape,k.output.trans h.output,Nat.le_trans h.size k.size,fun i hi hF=>(k.block i (Nat.lt_of_lt_of_le hi h.size) (fun e=>by
    rcases hr i e.symm with h1 | h1
    · exact hF h1
    · omega)).trans (h.block i hi hF)⟩
theorem Only.below {F:Nat→Prop} {a b:World} (h:Only F a b) {B:Nat} (hB:B≤a.heap.size) (hF:∀ k,F k→B≤k):Below B a b :=
  ⟨h.os,h.tape,h.output,h.size,fun k hk=>h.block k (by omega) (fun hf=>by have:=hF k hf;omega)⟩
theorem Only.weaken {F G:Nat→Prop} {a b:World} (h:Only F a b) (hFG:∀ k,F k→G k):Only G a b:=⟨h.os,h.tape,h.output,h.size,fun k hk hG=>h.block k hk (fun hf=>hG (hFG k hf))⟩
theorem Only.cell {F:Nat→Prop} {a b:World} (h:Only F a b) {p:Addr} {v:Value} (hc:a.cell? p=some v) (hp:¬ F p.block):b.cell? p=some v :=
  (World.cell?_of_block (h.block p.block (World.block_lt_of_cell? _ _ hc) hp)).trans hc
def OneAt (w:World) (g:Nat) (t:TypeId) (v:Value):Prop:=w.heap[g]? = some (.cells #[v] t (0,0))
theorem OneAt.lt {w:World} {g:Nat} {t:TypeId} {v:Value} (h:OneAt w g t v):g < w.heap.size:=by
  rcases Nat.lt_or_ge g w.heap.size with hl | hg
  · exact hl
  · unfold OneAt at h;rw [Array.getElem?_eq_none hg] at h;cases h
theorem OneAt.cell {w:World} {g:Nat} {t:TypeId} {v:Value} (h:OneAt w g t v):w.cell? ⟨g,0,none⟩=some v:=by
  rw [cell_of_row w g 0 _ t (0,0) h];rfl
theorem OneAt.frozen {w:World} {g:Nat} {t:TypeId} {v:Value} (h:OneAt w g t v) (j:Nat):w.frozen? ⟨g,j,none⟩=false:=by
  unfold OneAt at h;simp [World.frozen?,h]
theorem OneAt.only {F:Nat→Prop} {w w':World} {g:Nat} {t:TypeId} {v:Value} (h:OneAt w g t v) (k:Only F w w') (hF:¬ F g):OneAt w' g t v:=(k.block g h.lt hF).trans h
theorem OneAt.below {w w':World} {g:Nat} {t:TypeId} {v:Value} (h:OneAt w g t v) (k:Below w.heap.size w w'):OneAt w' g t v:=(k.block g h.lt).trans h
theorem OneAt.new (w:World) (t:TypeId) (v:Value):OneAt (w.alloc (.cells #[v] t)) w.heap.size t v:=heap_alloc_new w _
theorem OneAt.set {w:World} {g:Nat} {t:TypeId} {v:Value} (h:OneAt w g t v) (u:Value):OneAt (w.setCell ⟨g,0,none⟩ u) g t u:=by
  unfold OneAt at h ⊢;simp [World.setCell,Array.getElem?_modify,h]
theorem own_only {F:Nat→Prop} {w w':World} {B n size:Nat} {e:TypeId} {x:Value} {xs:List Value} (h:w.ownsRow B e size x n xs) (k:Only F w w') (hF:∀ g,x.ownBlock=some g→¬ F g):w'.ownsRow B e size x n xs:=by
  refine ⟨h.1,?_⟩;rcases h.2 with h0 | ⟨g,cap,cur,rfl,hB,hh,h3,h4,h5,h6⟩
  · exact Or.inl h0
  · refine Or.inr ⟨g,cap,cur,rfl,hB,?_,h3,h4,h5,h6⟩
    have hlt:g < w.heap.size:=by
      rcases Nat.lt_or_ge g w.heap.size with hl | hg
      · exact hl
      · rw [Array.getElem?_eq_none hg] at hh;cases hh
    exact (k.block g hlt (hF g rfl)).trans hh
theorem own_lt {w:World} {B n size:Nat} {e:TypeId} {x:Value} {xs:List Value} (h:w.ownsRow B e size x n xs) {g:Nat} (hg:x.ownBlock=some g):g < w.heap.size∧B≤g:=by
  rcases h.2 with ⟨rfl,_⟩ | ⟨g',cap,cur,rfl,hB,hh,_⟩
  · simp [Value.ownBlock] at hg
  · have:g'=g:=by simpa [Value.ownBlock] using hg
    subst this;refine ⟨?_,hB⟩;rcases Nat.lt_or_ge g' w.heap.size with hl | hg
    · exact hl
    · rw [Array.getElem?_eq_none hg] at hh;cases hh
theorem own_form {w:World} {B n size:Nat} {e:TypeId} {x:Value} {xs:List Value} (h:w.ownsRow B e size x n xs) :
    ∃ a c,x=.slice a n c∧n≤c∧CellsA w a xs:=by
  obtain ⟨hl,⟨rfl,rfl⟩ | ⟨g,cap,cur,rfl,hB,hh,h3,h4,h5,h6⟩⟩:=h
  · have:xs=[]:=List.eq_nil_of_length_eq_zero (by simpa using hl)
    subst this;exact ⟨none,0,rfl,Nat.le_refl _,CellsA.nil _ _⟩
  · refine ⟨_,_,rfl,h3,?_⟩
    intro j v hv;refine ⟨_,_,rfl,?_⟩;rw [Nat.zero_add,cell_of_row w g j cur e (0,0) hh];rw [← h6,List.getElem?_take] at hv;split at hv
    · simpa using hv
    · cases hv
def RowAt (w:World) (B:Nat) (e:TypeId) (size:Nat) (v:Value) (n:Nat) (xs:List Value):Prop :=
  xs.length=n * size ∧
  ((v=.slice none 0 0∧n=0) ∨
   ∃ g cap cur,v=.slice (some ⟨g,0,none⟩) n cap∧B≤g∧w.heap[g]? = some (.cells cur e (0,0))∧n≤cap∧cap≤maxLen∧cap * size≤cur.size∧cur.toList.take (n * size)=xs)
theorem RowAt.base {w:World} {B B' n size:Nat} {e:TypeId} {x:Value} {xs:List Value} (h:RowAt w B e size x n xs) (hB:B'≤B):RowAt w B' e size x n xs:=by
  refine ⟨h.1,?_⟩;rcases h.2 with h0 | ⟨g,cap,cur,h1,h2,h3⟩
  · exact Or.inl h0
  · exact Or.inr ⟨g,cap,cur,h1,by omega,h3⟩
theorem RowAt.only {F:Nat→Prop} {w w':World} {B n size:Nat} {e:TypeId} {x:Value} {xs:List Value} (h:RowAt w B e size x n xs) (k:Only F w w') (hF:∀ g,x.ownBlock=some g→¬ F g):RowAt w' B e size x n xs:=by
  refine ⟨h.1,?_⟩;rcases h.2 with h0 | ⟨g,cap,cur,rfl,hB,hh,h3,h4,h5,h6⟩
  · exact Or.inl h0
  · refine Or.inr ⟨g,cap,cur,rfl,hB,?_,h3,h4,h5,h6⟩
    have hlt:g < w.heap.size:=by
      rcases Nat.lt_or_ge g w.heap.size with hl | hg
      · exact hl
      · rw [Array.getElem?_eq_none hg] at hh;cases hh
    exact (k.block g hlt (hF g rfl)).trans hh
theorem RowAt.lt {w:World} {B n size:Nat} {e:TypeId} {x:Value} {xs:List Value} (h:RowAt w B e size x n xs) {g:Nat} (hg:x.ownBlock=some g):g < w.heap.size∧B≤g:=by
  rcases h.2 with ⟨rfl,_⟩ | ⟨g',cap,cur,rfl,hB,hh,_⟩
  · simp [Value.ownBlock] at hg
  · have:g'=g:=by simpa [Value.ownBlock] using hg
    subst this;refine ⟨?_,hB⟩;rcases Nat.lt_or_ge g' w.heap.size with hl | hg
    · exact hl
    · rw [Array.getElem?_eq_none hg] at hh;cases hh
theorem RowAt.form {w:World} {B n size:Nat} {e:TypeId} {x:Value} {xs:List Value} (h:RowAt w B e size x n xs):∃ a c,x=.slice a n c∧n≤c∧CellsA w a xs:=by
  obtain ⟨hl,⟨rfl,rfl⟩ | ⟨g,cap,cur,rfl,hB,hh,h3,h4,h5,h6⟩⟩:=h
  · have:xs=[]:=List.eq_nil_of_length_eq_zero (by simpa using hl)
    subst this;exact ⟨none,0,rfl,Nat.le_refl _,CellsA.nil _ _⟩
  · refine ⟨_,_,rfl,h3,?_⟩
    intro j v hv;refine ⟨_,_,rfl,?_⟩;rw [Nat.zero_add,cell_of_row w g j cur e (0,0) hh];rw [← h6,List.getElem?_take] at hv;split at hv
    · simpa using hv
    · cases hv
theorem RowAt.stored {w:World} {B n size g cap:Nat} {e:TypeId} {xs:List Value} (h:RowAt w B e size (.slice (some ⟨g,0,none⟩) n cap) n xs) (j:Nat) (u:Value) :
    RowAt (w.setCell ⟨g,j,none⟩ u) B e size (.slice (some ⟨g,0,none⟩) n cap) n (xs.set j u):=by
  rcases h.2 with ⟨h',_⟩ | ⟨g',cap',cur,h',hb,hg,hnc,hcm,hcs,htake⟩
  · simp at h'
  · simp only [Value.slice.injEq,Option.some.injEq,Addr.mk.injEq,and_true,true_and] at h'
    obtain ⟨rfl,rfl⟩:=h';refine ⟨by simpa using h.1,.inr ⟨g,cap,cur.setIfInBounds j u,rfl,hb,heap_setCell_same w g j cur e u hg,hnc,hcm,by simpa using hcs,?_⟩⟩;rw [Array.toList_setIfInBounds,← htake,List.take_set]
theorem RowAt.cut {w:World} {B n size g cap:Nat} {e:TypeId} {xs:List Value} (h:RowAt w B e size (.slice (some ⟨g,0,none⟩) n cap) n xs) (k:Nat) (hk:k≤n) :
    RowAt w B e size (.slice (some ⟨g,0,none⟩) k k) k (xs.take (k * size)):=by
  rcases h.2 with ⟨h',_⟩ | ⟨g',cap',cur,h',hb,hg,hnc,hcm,hcs,htake⟩
  · simp at h'
  · simp only [Value.slice.injEq,Option.some.injEq,Addr.mk.injEq,and_true,true_and] at h'
    obtain ⟨rfl,rfl⟩:=h';have h1:k * size≤n * size:=Nat.mul_le_mul_right _ hk;have h2:k * size≤cap * size:=Nat.mul_le_mul_right _ (Nat.le_trans hk hnc);refine ⟨by rw [List.length_take,h.1,Nat.min_eq_left h1],.inr ⟨g,k,cur,rfl,hb,hg,Nat.le_refl _,by omega,by omega,?_⟩⟩;rw [← htake,List.take_take,Nat.min_eq_left h1]
end Go.Proofs.YtehpihmgjbmoaaaGreatDoor
namespace Go.Proofs.YtehpihmgjbmoaaaGreatDoor
open Go.RowKit
def natV (ns:List Nat):List Value:=ns.map fun (n:Nat)=>Value.int .u8 (n:Int)
def strN (ns:List Nat):ByteArray:=⟨(ns.map UInt8.ofNat).toArray⟩
theorem conv_nats {P:Program} (w:World) (src e:TypeId) (hs:P.underlying src=some (.slice e)) (he:P.underlying e=some (.int .u8)) (a:Option Addr) (c:Nat) (ns:List Nat) (n:Nat) (hn:n=ns.length) (h:CellsA w a (natV ns)) :
    ∀ dst,P.underlying dst=some .string→(convert src dst (.slice a n c)).run P w=.ok (.string (strN ns)) w:=by
  subst hn;intro dst hd;cases a with
  | none =>
    cases ns with
    | nil=>exact run_convert_bytes_nil (P:=P) w src e hs he 0 c dst hd
    | cons n r=>obtain ⟨b,o,hb,_⟩:=h 0 _ rfl;cases hb
  | some ad =>
    cases ns with
    | nil =>
      rw [run_convert_bytes_string w src dst e _ _ c hs he hd,List.length_nil,run_bytesToString w ad 0 c [] (by simpa using run_loadCells_list (P:=P) w ad [] (fun j v hj=>by simp at hj))];rfl
    | cons n r =>
      obtain ⟨b,o,hb,_⟩:=h 0 _ rfl;injection hb with hb
      subst hb;have hx:=run_convert_bytes_arg (P:=P) w src e hs he b o (n::r).length c ((n::r).map fun (m:Nat)=>(m:Int)) (by simp) (fun i hi=>by
        obtain ⟨b',o',hb',hc⟩:=h i (.int .u8 (((n::r)[i]'hi:Nat):Int)) (by unfold natV;rw [List.getElem?_map,List.getElem?_eq_getElem hi];rfl);injection hb' with hb'
        injection hb' with e1 e2
        subst e1 e2;rw [hc];congr 2;rw [List.getD_eq_getElem?_getD,List.getElem?_map,List.getElem?_eq_getElem hi];rfl) dst hd
      rw [hx];congr 2;unfold strOfNums strN;congr 1;rw [List.map_map];congr 1
end Go.Proofs.YtehpihmgjbmoaaaGreatDoor
namespace Go.Proofs.YtehpihmgjbmoaaaGreatDoor
open Go.Lib
abbrev Bs:=List UInt8
def bl (s:ByteArray):Bs:=s.data.toList
def consHead (b:UInt8):List Bs→List Bs
  | x::r=>(b::x)::r
  | []=>[[b]]
def levelsL:Bs→List Bs
  | []=>[[]]
  | b::t=>if b=47 then []::levelsL t else consHead b (levelsL t)
theorem consHead_ne (b:UInt8) (l:List Bs):consHead b l≠[]:=by cases l <;> simp [consHead]
theorem levelsL_ne:∀ s:Bs,levelsL s≠[]
  | []=>by simp [levelsL]
  | b::t=>by
    unfold levelsL;split
    · simp
    · exact consHead_ne _ _
theorem consHead_len (b:UInt8) (l:List Bs) (h:l≠[]):(consHead b l).length=l.length:=by
  cases l with
  | nil=>exact absurd rfl h
  | cons x r=>simp [consHead]
theorem levelsL_len:∀ s:Bs,(levelsL s).length≤s.length+1
  | []=>by simp [levelsL]
  | b::t=>by
    have ih:=levelsL_len t;unfold levelsL;split
    · simp;omega
    · rw [consHead_len _ _ (levelsL_ne t)];simp;omega
theorem levelsL_mem:∀ (s x:Bs),x ∈ levelsL s→x.length≤s.length
  | [],x,h=>by simp [levelsL] at h;subst h;simp
  | b::t,x,h=>by
    unfold levelsL at h;split at h
    · rcases List.mem_cons.1 h with rfl | h
      · simp
      · have:=levelsL_mem t x h;simp;omega
    · cases hl:levelsL t with
      | nil=>exact absurd hl (levelsL_ne t)
      | cons y r =>
        rw [hl] at h;rcases List.mem_cons.1 h with rfl | h
        · have:=levelsL_mem t y (by rw [hl];simp);simp;omega
        · have:=levelsL_mem t x (by rw [hl];simp [h]);simp;omega
theorem splitK_consHead (c b:UInt8) (h:b≠c):∀ (k:Nat) (t:Bs),splitK [c] 0 k (b::t)=consHead b (splitK [c] 0 k t)
  | 0,t=>rfl
  | k+1,t=>by
    unfold splitK;have hp:([c]:Bs).isPrefixOf (b::t)=false:=by
      simp [List.isPrefixOf]
      exact fun e=>h e.symm
    have hi:index (b::t) [c]=if index t [c] == -1 then -1 else index t [c]+1:=by
      rw [index];simp only [hp,Bool.false_eq_true,if_false]
    have hge:=index_ge t [c];by_cases hm:index t [c]=-1
    · rw [hi,hm];rfl
    · have hm':(index t [c] == -1)=false:=by simpa using hm
      rw [hi,hm'];simp only [Bool.false_eq_true,if_false];have hn:(index t [c]+1 == -1)=false:=by
        rw [beq_eq_false_iff_ne];omega
      rw [hn];simp only [Bool.false_eq_true,if_false];obtain ⟨i,hi⟩:=Int.eq_ofNat_of_zero_le (show 0≤index t [c] by omega);rw [hi];have e:((i:Int)+1).toNat=i+1:=by omega
      rw [e];simp [consHead]
theorem splitK_levels:∀ s:Bs,splitK [47] 0 (count s [47]) s=levelsL s
  | []=>rfl
  | b::t=>by
    unfold levelsL;by_cases h:b=47
    · subst h
      rw [if_pos rfl,count_cons_eq,Nat.add_comm,splitK];have hi:index (47::t) [47]=0:=by rw [index];simp [List.isPrefixOf]
      rw [hi];simp only [show ((0:Int) == -1)=false from rfl,Bool.false_eq_true,if_false];simp only [Int.toNat_zero,List.take_zero,Nat.zero_add,List.length_singleton,List.drop_one,List.tail_cons];rw [splitK_levels t]
    · rw [if_neg h,count_cons_ne _ _ _ h,splitK_consHead _ _ h,splitK_levels t]
def plainL (s:Bs):Bool:=s.all fun b=>!(b == 43 || b == 35)
def nameL (s:Bs):Bool:=!s.isEmpty && validL s && plainL s
def levelL (x:Bs) (last:Bool):Bool:=x == [43] || x == [35] && last || plainL x
def filterLv:List Bs→Bool
  | []=>true
  | x::r=>levelL x r.isEmpty && filterLv r
def filterL (s:Bs):Bool:=!s.isEmpty && validL s && filterLv (levelsL s)
end Go.Proofs.YtehpihmgjbmoaaaGreatDoor
namespace Go.Proofs.YtehpihmgjbmoaaaGreatDoor
end Go.Proofs.YtehpihmgjbmoaaaGreatDoor
namespace Go.Proofs.YtehpihmgjbmoaaaGreatDoor
open Go.Lib
abbrev Sb:=ByteArray × Nat
def fB (x:Sb):Bs:=bl x.1
theorem bl_inj {a b:ByteArray} (h:bl a=bl b):a=b:=by
  unfold bl at h;cases a with | mk d=>cases b with | mk e =>
  congr 1;exact Array.ext' h
end Go.Proofs.YtehpihmgjbmoaaaGreatDoor
namespace Go.Proofs.YtehpihmgjbmoaaaGreatDoor
open Go.RowKit
theorem run_append_cells {P:Program} (w:World) (base:Nat) (t ty e:TypeId) (i:TypeInfo) (z:Value) (size bytes:Nat) (ht:P.underlying t=some (.slice e)) (hi:P.info? e=some i) (hz:i.zero=some z)
    (hsize:i.size=size) (hby:i.bytes=bytes) (hzs:z.cells.size=size) (hsz:0 < size)
    (v:Value) (n:Nat) (xs:List Value) (hown:w.ownsRow base e size v n xs) (A:Option Addr) (m c:Nat) (hAc:A=none→c=0) (news:List Value) (hl:news.length=m * size) (hnews:CellsA w A news) (h1:∀ u ∈ news,u.oneCell'=true)
    (h63:n+m≤maxLen) (hbytes:(n+m) * bytes≤140737488355328) (hbase:base≤w.heap.size) :
    ∃ v' w',(Builtin.append_ #[t,t] ty #[v,.slice A m c]).run P w=.ok v' w'∧w'.ownsRow base e size v' (n+m) (xs++news)∧w.grownBy w' v.ownBlock:=by
  cases A with
  | none =>
    have hn0:news=[]:=by
      cases news with
      | nil=>rfl
      | cons x r =>
        obtain ⟨b,o,hb,_⟩:=hnews 0 x rfl;cases hb
    subst hn0;have hm:m=0:=by
      rcases Nat.eq_zero_or_pos m with h | h
      · exact h
      · have:=Nat.mul_pos h hsz
        simp at hl;omega
    subst hm;obtain rfl:=hAc rfl;exact ⟨v,w,run_append_owned_none (P:=P) (w:=w) base t ty e i size ht hi v n xs hown,by simpa using hown,World.grownBy.refl w _⟩
  | some ad =>
    obtain ⟨v',w',hr,h2,h3,_⟩:=run_append_own (P:=P) w base t ty e i z size bytes ht hi hz hsize hby hzs hsz v n xs hown ad m c news hl (fun j u hu=>by
      obtain ⟨b,o,hb,hc⟩:=hnews j u hu;injection hb with hb
      subst hb;rw [Addr.add_lit];exact hc) h1 h63 hbytes hbase
    exact ⟨v',w',hr,h2,h3⟩
end Go.Proofs.YtehpihmgjbmoaaaGreatDoor
namespace Go.Proofs.YtehpihmgjbmoaaaGreatDoor
open Go.RowKit
def Texts (w:World) (v:Value) (L:List ByteArray):Prop:=∃ a c,v=.slice a L.length c∧CellsA w a (L.map Value.string)
theorem Texts.below {w w':World} {v:Value} {L:List ByteArray} (h:Texts w v L) (hb:Below w.heap.size w w'):Texts w' v L:=by
  obtain ⟨a,c,h1,h2⟩:=h;exact ⟨a,c,h1,h2.below hb⟩
theorem CellsA.text {w:World} {a:Option Addr} {L:List ByteArray} (h:CellsA w a (L.map Value.string)) {k:Nat} {x:ByteArray} (hx:L[k]? = some x):∃ b o,a=some ⟨b,o,none⟩∧w.cell? ⟨b,o+k,none⟩=some (.string x) :=
  h k _ (by rw [List.getElem?_map,hx];rfl)
def RetTexts (T:List Bs) (w:World) (e:Ending) (w':World):Prop :=
  ∃ (L:List ByteArray) (a:Option Addr) (c:Nat),e=.returned (.slice a L.length c)∧L.map bl=T∧CellsA w' a (L.map Value.string)∧Below w.heap.size w w'
theorem filterLv_drop (T:List Bs) (k:Nat) (x:Bs) (h:T[k]? = some x):filterLv (T.drop k)=(levelL x (T.drop (k+1)).isEmpty && filterLv (T.drop (k+1))):=by
  obtain ⟨hk,hx⟩:=List.getElem?_eq_some_iff.1 h;rw [List.drop_eq_getElem_cons hk,hx];rfl
theorem drop_empty {α:Type} (T:List α) (k:Nat):(T.drop (k+1)).isEmpty=decide (T.length≤k+1):=by
  rw [Bool.eq_iff_iff];simp
theorem empty_toList (s:ByteArray):s.toList.isEmpty=(bl s).isEmpty:=by rw [Lib.toList_data];rfl
theorem eq35 (x:ByteArray) (v:Bool) (h:(bl x == [35])=v):(x.toList == [35])=v:=by rw [Lib.toList_data];exact h
theorem eq43 (x:ByteArray) (v:Bool) (h:(bl x == [43])=v):(x.toList == [43])=v:=by rw [Lib.toList_data];exact h
theorem get_bl (s:ByteArray) (k:Nat) (h:k < s.size):(bl s)[k]? = some (s[k]'h):=by
  have h':k < s.data.toList.length:=by rw [← Lib.size_eq];exact h
  show s.data.toList[k]? = _;rw [List.getElem?_eq_getElem h'];rfl
theorem bl_len (s:ByteArray):(bl s).length=s.size:=(Lib.size_eq s).symm
theorem empty_size (s:ByteArray):(bl s).isEmpty=decide (s.size=0):=by
  rw [Bool.eq_iff_iff,decide_eq_true_eq,← bl_len,List.isEmpty_iff_length_eq_zero]
end Go.Proofs.YtehpihmgjbmoaaaGreatDoor
namespace Go.Proofs.YtehpihmgjbmoaaaGreatDoor
open Go.RowKit
def subCells (S:List Sb):List Value:=S.flatMap fun x=>[.string x.1,.int .u8 (x.2:Int)]
theorem subCells_cons (x:Sb) (r:List Sb):subCells (x::r)=.string x.1::.int .u8 (x.2:Int)::subCells r:=rfl
theorem subCells_append (A B:List Sb):subCells (A++B)=subCells A++subCells B:=List.flatMap_append
theorem subCells_at:∀ (S:List Sb) (i:Nat) (x:Sb),S[i]? = some x→(subCells S)[i * 2]? = some (.string x.1)∧(subCells S)[i * 2+1]? = some (.int .u8 (x.2:Int))
  | [],i,x,h=>by simp at h
  | y::r,0,x,h=>by simp at h;subst h;exact ⟨rfl,rfl⟩
  | y::r,i+1,x,h=>by
    have ih:=subCells_at r i x (by simpa using h);rw [subCells_cons,show (i+1) * 2=i * 2+1+1 by omega];exact ⟨by simpa using ih.1,by simpa using ih.2⟩
theorem CellsA.sub {w:World} {a:Option Addr} {S:List Sb} (h:CellsA w a (subCells S)) {i:Nat} {x:Sb} (hx:S[i]? = some x) :
    ∃ b o,a=some ⟨b,o,none⟩∧w.cell? ⟨b,o+i * 2,none⟩=some (.string x.1)∧w.cell? ⟨b,o+i * 2+1,none⟩=some (.int .u8 (x.2:Int)):=by
  obtain ⟨h1,h2⟩:=subCells_at S i x hx;obtain ⟨b,o,rfl,hc⟩:=h _ _ h1;obtain ⟨b',o',he,hc'⟩:=h _ _ h2;injection he with he
  injection he with e1 e2
  subst e1 e2;exact ⟨b,o,rfl,hc,by rw [← Nat.add_assoc] at hc';exact hc'⟩
end Go.Proofs.YtehpihmgjbmoaaaGreatDoor
namespace Go.Proofs.YtehpihmgjbmoaaaGreatDoor
open Go.RowKit
theorem infoSub:(Tryz.prog.info? 112).map (fun i=>(i.zero,i.size,i.bytes))=some (some (.agg #[.string ByteArray.empty,.int .u8 0]),2,24):=by kernel_rfl
theorem subCells_one (S:List Sb):∀ u ∈ subCells S,u.oneCell'=true:=by
  intro u hu;obtain ⟨x,_,hx⟩:=List.mem_flatMap.1 hu;simp at hx
  rcases hx with rfl | rfl <;> rfl
theorem cells_at {w:World} {b o:Nat} {xs:List Value} (h:CellsA w (some ⟨b,o,none⟩) xs) (j:Nat) (u:Value) (hu:xs[j]? = some u):w.cell? ((⟨b,o,none⟩:Addr).add j)=some u:=by
  obtain ⟨b',o',he,hc⟩:=h j u hu;injection he with he
  injection he with e1 e2
  subst e1 e2;rw [Addr.add_lit];exact hc
theorem own_mk {w:World} {B n size g:Nat} {e:TypeId} {xs:List Value} (h:w.heap[g]? = some (.cells xs.toArray e (0,0))) (hl:xs.length=n * size) (hn:n≤maxLen) (hB:B≤g):w.ownsRow B e size (.slice (some ⟨g,0,none⟩) n n) n xs :=
  ⟨hl,Or.inr ⟨g,n,xs.toArray,rfl,hB,h,Nat.le_refl _,hn,by simpa using hl,by rw [← hl];simp⟩⟩
theorem Below.grown' {B:Nat} {a b c:World} (h:Below B a b) {row:Option Nat} (k:b.grownBy c row) (hB:B≤b.heap.size) (hr:∀ g,row=some g→B≤g):Below B a c :=
  h.trans ⟨k.os,k.tape,k.output,k.size,fun i hi=>k.block i (by omega) (fun e=>by have:=hr i e.symm;omega)⟩
theorem below_none {w w':World} (k:w.grownBy w' none):Below w.heap.size w w':=⟨k.os,k.tape,k.output,k.size,fun i hi=>k.block i hi (by simp)⟩
theorem own_base {w:World} {B B' n size:Nat} {e:TypeId} {v:Value} {xs:List Value} (h:w.ownsRow B e size v n xs) (hB:B'≤B):w.ownsRow B' e size v n xs:=by
  refine ⟨h.1,?_⟩;rcases h.2 with h0 | ⟨g,cap,cur,h1,h2,h3⟩
  · exact Or.inl h0
  · exact Or.inr ⟨g,cap,cur,h1,by omega,h3⟩
theorem newsN (w:World) (T:TypeId) (xs:List Value) (B:Nat) (hB:w.heap.size=B) (j:Nat) (u:Value) (h:xs[j]? = some u):(w.alloc (.cells xs.toArray T)).cell? ((⟨B,0,none⟩:Addr).add j)=some u:=by
  subst hB;rw [Addr.add_lit,Nat.zero_add,cell_of_row _ _ _ _ _ _ (heap_alloc_new w _)];simpa using h
theorem only_grown {w w':World} {row:Option Nat} (k:w.grownBy w' row):Only (fun j=>row=some j) w w':=⟨k.os,k.tape,k.output,k.size,fun i hi hF=>k.block i hi (fun e=>hF e.symm)⟩
theorem infoU8:(Tryz.prog.info? 5).map (fun i=>(i.zero,i.size,i.bytes))=some (some (.int .u8 0),1,1):=by kernel_rfl
def b1 (l:List UInt8):ByteArray:=⟨l.toArray⟩
theorem cells_new {w:World} {T:TypeId} {xs:List Value}:CellsA (w.alloc (.cells xs.toArray T)) (some ⟨w.heap.size,0,none⟩) xs:=by
  intro j u hu;refine ⟨_,_,rfl,?_⟩;rw [Nat.zero_add,cell_of_row _ _ _ _ _ _ (heap_alloc_new w _)];simpa using hu
theorem Below.up {B:Nat} {w w1 w2:World} (h:Below w1.heap.size w1 w2) (hb:Below B w w1) (hB:B≤w.heap.size):Below B w w2:=hb.trans (h.mono (Nat.le_trans hB hb.size))
theorem rowV_at {α:Type} {g:α→List Value} {m:Nat} (hg:∀ x,(g x).length=m):∀ (L:List α) (i:Nat) (x:α) (j:Nat) (u:Value),L[i]? = some x→(g x)[j]? = some u→(L.flatMap g)[i * m+j]? = some u
  | [],i,x,j,u,h,_=>by simp at h
  | y::r,0,x,j,u,h,hu=>by
    simp at h
    subst h;rw [List.flatMap_cons,Nat.zero_mul,Nat.zero_add,List.getElem?_append_left (List.getElem?_eq_some_iff.1 hu).1];exact hu
  | y::r,i+1,x,j,u,h,hu=>by
    have ih:=rowV_at hg r i x j u (by simpa using h) hu;have he:(i+1) * m+j=m+(i * m+j):=by rw [Nat.succ_mul];omega
    rw [List.flatMap_cons,he,List.getElem?_append_right (by rw [hg];omega),hg,Nat.add_sub_cancel_left];exact ih
theorem CellsA.elem {w:World} {a:Option Addr} {α:Type} {g:α→List Value} {m:Nat} (hg:∀ x,(g x).length=m) {L:List α} (h:CellsA w a (L.flatMap g)) {i:Nat} {x:α} (hx:L[i]? = some x) (u0:Value) (h0:(g x)[0]? = some u0) :
    ∃ b o,a=some ⟨b,o,none⟩∧∀ j u,(g x)[j]? = some u→w.cell? ⟨b,o+i * m+j,none⟩=some u:=by
  obtain ⟨b,o,ha,_⟩:=h _ _ (rowV_at hg L i x 0 u0 hx h0);refine ⟨b,o,ha,fun j u hu=>?_⟩;obtain ⟨b',o',ha',hc⟩:=h _ _ (rowV_at hg L i x j u hx hu);rw [ha] at ha';injection ha' with e
  injection e with e1 e2
  subst e1 e2;rw [Nat.add_assoc];exact hc
def BoxAt (w:World) (X:Nat) (cs:Array Value) (T:TypeId):Prop:=w.heap[X]? = some (.cells cs T (0,0))
theorem BoxAt.lt {w:World} {X:Nat} {cs:Array Value} {T:TypeId} (h:BoxAt w X cs T):X < w.heap.size:=by
  rcases Nat.lt_or_ge X w.heap.size with hl | hg
  · exact hl
  · unfold BoxAt at h;rw [Array.getElem?_eq_none hg] at h;cases h
theorem BoxAt.below {w w':World} {X:Nat} {cs:Array Value} {T:TypeId} (h:BoxAt w X cs T) (k:Below w.heap.size w w'):BoxAt w' X cs T:=(k.block X h.lt).trans h
theorem BoxAt.only {F:Nat→Prop} {w w':World} {X:Nat} {cs:Array Value} {T:TypeId} (h:BoxAt w X cs T) (k:Only F w w') (hF:¬ F X):BoxAt w' X cs T:=(k.block X h.lt hF).trans h
theorem BoxAt.cells {w:World} {X:Nat} {cs:Array Value} {T:TypeId} (h:BoxAt w X cs T) (o:Nat):w.cell? ⟨X,o,none⟩=cs[o]? := cell_of_row w X o cs T (0,0) h
theorem BoxAt.frozen {w:World} {X:Nat} {cs:Array Value} {T:TypeId} (h:BoxAt w X cs T) (o:Nat):w.frozen? ⟨X,o,none⟩=false:=frozen_of_row w X o cs T h
theorem BoxAt.new (w:World) (cs:Array Value) (T:TypeId):BoxAt (w.alloc (.cells cs T)) w.heap.size cs T:=heap_alloc_new w _
theorem BoxAt.new2 (w:World) (A:Obj) (cs:Array Value) (T:TypeId):BoxAt ((w.alloc A).alloc (.cells cs T)) (w.heap.size+1) cs T:=heap_alloc2_new w A _
theorem BoxAt.set {w:World} {X:Nat} {cs:Array Value} {T:TypeId} (h:BoxAt w X cs T) (j:Nat) (v:Value):BoxAt (w.setCell ⟨X,j,none⟩ v) X (cs.setIfInBounds j v) T:=heap_setCell_same w X j cs T v h
theorem BoxAt.other {w:World} {X Y:Nat} {cs:Array Value} {T:TypeId} (h:BoxAt w X cs T) (hne:X≠Y) (j:Nat) (v:Value):BoxAt (w.setCell ⟨Y,j,none⟩ v) X cs T:=(heap_setCell_other w ⟨Y,j,none⟩ X v hne).trans h
section
variable {P:Program} {ops:Array Oper} {rest:List Oper} {o:Oper} {a:Act} {w:World} {Q:Exit→Act→World→Prop}
theorem wpList_build_to (hg:o.guard=none) (t:TypeId) (parts:Array (Nat × Operand)) (ho:o.op=.build t parts) (cells:Array Value)
    (hf:P.built t (parts.map fun (i,x)=>(i,a.eval x)).toList=some cells) (h:wpList P ops Q rest (a.put o.dst (.agg cells)) w):wpList P ops Q (o::rest) a w :=
  wpList_build hg t parts ho (by rw [hf];rfl) (by rw [hf];exact h)
theorem wpList_store_box (hgd:o.guard=none) (ty:TypeId) (x y:Operand) (ho:o.op=.store ty x y) (X:Nat) (cells:Array Value) (hx:a.eval x=.pointer (some ⟨X,0,none⟩)) (hy:a.eval y=.agg cells)
    (T:TypeId) (old:Array Value) (hb:BoxAt w X old T) (hi:(P.info? ty).map (·.size)=some cells.size) (hold:old.size=cells.size) (h1:cells.all (·.oneCell')=true)
    (h:∀ w',BoxAt w' X cells T→Only (fun k=>k=X) w w'→wpList P ops Q rest (a.put o.dst undef) w'):wpList P ops Q (o::rest) a w:=by
  refine wpList_plain hgd fun K hK=>wp_store_row ty x y ho X cells hx hy T old hb hi hold h1 (hK _ _ (h _ (setRow_heap w X old cells T _ hb) ?_))
  exact ⟨rfl,rfl,rfl,by simp [World.setRow],fun j _ hne=>setRow_other w X j _ hne⟩
theorem wpList_load_box (hgd:o.guard=none) (ty:TypeId) (x:Operand) (ho:o.op=.load ty x) (X:Nat) (hx:a.eval x=.pointer (some ⟨X,0,none⟩)) (T:TypeId) (cs:Array Value) (hb:BoxAt w X cs T)
    (d:TypeDesc) (hu:P.underlying ty=some d) (hd:(match d with | .struct _ | .array _ _=>true | _=>false)=true) (hi:(P.info? ty).map (·.size)=some cs.size)
    (h:wpList P ops Q rest (a.put o.dst (.agg cs)) w):wpList P ops Q (o::rest) a w :=
  wpList_load_row hgd ty x ho X hx T cs (0,0) d hb hu hd hi h
end
end Go.Proofs.YtehpihmgjbmoaaaGreatDoor
