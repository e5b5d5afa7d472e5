/- What the example of the section reads as. The generator's rule: the region that makes it. The memory of the generator of catalogs: a catalog in its box, and its rows as they grow. The memory of the generator of catalogs: a catalog in its box, one of its rows being made. The generator of catalogs: what its rows are; a table and a tax in the making; names. The generator of catalogs: a tax and its first bracket, between the operations that make them. The example of the section. MarkMany: the walk. The arguments opened, the table of kinds. What a row's end wants: the tables, a world for the witness, five and six parameters opened and shut. -/
import Derived.Test.YtocodlpgaamblaaGreatDoorN1
import Derived.Test.YtocodlpgaamblaaGreatDoorN4
import Derived.Test.YtocodlpgaamblaaGreatDoorN5
import Derived.Test.YtocodlpgaamblaaGreatDoorN10
import Derived.Test.YtocodlpgaamblaaGreatDoorN15
import Derived.Test.YtocodlpgaamblaaGreatDoorN17
import Derived.Test.YtocodlpgaamblaaGreatDoorN18
import Derived.RegionTactic
import Derived.Deep.DeepCutAuto
import Derived.Deep.CutBlock
import Derived.Deep.AppendLies
import Derived.Deep.RegionLaw
import Derived.Maps.AppendAt
import Derived.StillTailTactics
import Derived.BigQuiet
import Derived.OrdersHeld
import Derived.Deep.MidRow
import Derived.Test.YtocodlpgaamblaaGreatDoorCards
import Derived.Test.YtocodlpgaamblaaGreatDoorTie
import Derived.WalkKit
import Derived.ProofKit
import Derived.OpenShut
import Derived.Deep.DeepHandedRow
import Derived.Lib.LaidTab
import Derived.LaidSub
set_option linter.unusedVariables false
set_option linter.unusedSimpArgs false
set_option maxRecDepth 100000
set_option maxHeartbeats 4000000
open Go.RowKit
namespace Go.Proofs.YtocodlpgaamblaaGreatDoor
def gold:ByteArray:=⟨#[103,111,108,100]⟩
def goldIt:It:=⟨gold,false,false,false,0,0,0⟩
def text1:ByteArray:=⟨#[107,105,110,100,32,99,114,97,102,116,32,97,110,100,32,40,97,99,116,111,114,32,55,32,111,114,32,109,111,114,101,32,49,48,48,32,103,111,108,100,41]⟩
def text2:ByteArray:=⟨#[116,105,99,107,32,57,46,46,53]⟩
def text3:ByteArray:=⟨#[107,105,110,100,32,115,109,105,116,104]⟩
def text4:ByteArray:=⟨#[110,111,116,32,107,105,110,100,32,99,114,97,102,116,32,111,114,32,110,111,116,32,97,99,116,111,114,32,55,32,97,110,100,32,110,111,116,32,109,111,114,101,32,49,48,48,32,103,111,108,100]⟩
def mark1:Mk:=.node sAnd 0 0 [.node sKind 4 0 [],.node sOr 0 0 [.node sActor 7 0 [],.node sMore 100 0 []]]
theorem lives1 (m:CatM) (hr:m.rules=[]) (hi:m.items.map It.name=[gold]):parseAll m text1=.mark mark1:=by
 unfold parseAll;rw[hr,hi];kernel_rfl
theorem lives2 (m:CatM) (hr:m.rules=[]) (hi:m.items.map It.name=[gold]):parseAll m text2=.err 8 5:=by
 unfold parseAll;rw[hr,hi];kernel_rfl
theorem lives3 (m:CatM) (hr:m.rules=[]) (hi:m.items.map It.name=[gold]):parseAll m text3=.err 5 6:=by
 unfold parseAll;rw[hr,hi];kernel_rfl
theorem lives4:printE [] [gold] ((Mk.node sNot 0 0 [mark1]).norm false)=0:=by kernel_rfl
theorem lives5:printS [] [gold] ((Mk.node sNot 0 0 [mark1]).norm false)=text4:=by kernel_rfl
theorem lives6 (s:StepM) (h1:s.kind=4) (h2:s.actor=7):mark1.val (condV s)=true:=by
 unfold mark1;simp[Mk.val,Mk.allV,Mk.anyV,sAnd,sOr,condV,sKind,sActor,h1,h2]
section
set_option linter.unusedVariables false
set_option linter.unusedSimpArgs false
section
def AmRow (V W:World) (n most:Nat) (x:Value):Prop:=∃l,W.ownsRow V.heap.size 132 2 x l.length (pcells l)∧Am n l∧l.length<=most
theorem AmRow.go {V W W':World} {g n most:Nat} {x:Value} (h:AmRow V W n most x) (k:GSt W W' g) (hg:g<V.heap.size):AmRow V W' n most x:=by
 obtain⟨l,h1,h2,h3⟩:=h;exact⟨l,k.own h1 (fun e=>by have:=row_base h1 g e;omega),h2,h3⟩
theorem row_neT {W:World} {base:Nat} {e t:TypeId} {size n g:Nat} {v:Value} {xs ys:List Value} (h:W.ownsRow base e size v n xs) (hg:Bk W g t ys) (hne:e≠t):v.ownBlock≠some g:=by
 intro hv;rcases h.2 with ⟨h0,_⟩|⟨g',cap,cur,h1,_,hc,_⟩
 ·rw[h0]at hv;cases hv
 ·rw[h1]at hv;cases hv;unfold Bk at hg;rw[hc]at hg;cases hg;exact hne rfl
structure RMid (V : World) (g : Nat) (nm : ByteArray) (n : Nat) (L : Nat -> Bool) (x7 x10 x11 x12 x13 x14 x15 x16 x17 x18 x19 x20 x21 x22 x23 x24 : Value) (W : World) : Prop where
 st:GSt V W g
 l0:L 0=true->x10=.string nm
 l1:L 1=true->x11=.pointer (some ⟨g,0,none⟩)
 l2:L 2=true->∃a,x12=.int .i64 a∧0<=a∧a<4
 l3:L 3=true->∃b,x13=.slice (some ⟨b,0,none⟩) 4 4∧Bk W b 3 [.int .i64 0,.int .i64 3,.int .i64 5,.int .i64 20]∧V.heap.size<=b
 l4:L 4=true->x14=.pointer (some ⟨g,0,none⟩)
 l5:L 5=true->∃j:Nat,x15=.int .i64 j∧j<4
 l6:L 6=true->∃b j,x16=.pointer (some ⟨b,j,none⟩)∧j<4∧Bk W b 3 [.int .i64 0,.int .i64 3,.int .i64 5,.int .i64 20]∧V.heap.size<=b
 l7:L 7=true->∃a,x17=.int .i64 a∧0<=a∧a<=20
 l8:L 8=true->x18=.pointer (some ⟨g,0,none⟩)
 l9:L 9=true->x19=.int .i64 (n:Int)
 l10:L 10=true->AmRow V W n 3 x20
 l11:L 11=true->x21=.pointer (some ⟨g,0,none⟩)
 l12:L 12=true->x22=.int .i64 (n:Int)
 l13:L 13=true->AmRow V W n 2 x23
 l14:L 14=true->∃a t v1 v2,x24=.agg #[.string nm,.bool false,.int .i64 a,.int .i64 t,.int .i64 1,.int .i64 1,v1,v2,.slice none 0 0]∧(0<=a∧a<4)∧(0<=t∧t<=20)∧AmRow V W n 3 v1∧AmRow V W n 2 v2
 l15:L 15=true->∃b,x7=.pointer (some ⟨b,0,none⟩)∧Bk W b 80 [.string ⟨#[]⟩,.bool false,.int .i64 0,.int .i64 0,.int .i64 0,.int .i64 0,.slice none 0 0,.slice none 0 0,.slice none 0 0]∧V.heap.size<=b
theorem RMid.go {V W W':World} {g:Nat} {nm:ByteArray} {n:Nat} {L:Nat->Bool} {x7 x10 x11 x12 x13 x14 x15 x16 x17 x18 x19 x20 x21 x22 x23 x24:Value} (h:RMid V g nm n L x7 x10 x11 x12 x13 x14 x15 x16 x17 x18 x19 x20 x21 x22 x23 x24 W) (k:GSt W W' g):RMid V g nm n L x7 x10 x11 x12 x13 x14 x15 x16 x17 x18 x19 x20 x21 x22 x23 x24 W' where
 st:=h.st.trans k
 l0:=h.l0
 l1:=h.l1
 l2:=h.l2
 l3:=fun e=>by obtain⟨b,e1,e2,e3⟩:=h.l3 e;exact⟨b,e1,k.bk e2 (by have:=h.st.lt;omega),e3⟩
 l4:=h.l4
 l5:=h.l5
 l6:=fun e=>by obtain⟨b,j,e1,e0,e2,e3⟩:=h.l6 e;exact⟨b,j,e1,e0,k.bk e2 (by have:=h.st.lt;omega),e3⟩
 l7:=h.l7
 l8:=h.l8
 l9:=h.l9
 l10:=fun e=>(h.l10 e).go k h.st.lt
 l11:=h.l11
 l12:=h.l12
 l13:=fun e=>(h.l13 e).go k h.st.lt
 l14:=fun e=>by obtain⟨a,t,v1,v2,e1,e2,e3,e4,e5⟩:=h.l14 e;exact⟨a,t,v1,v2,e1,e2,e3,e4.go k h.st.lt,e5.go k h.st.lt⟩
 l15:=fun e=>by obtain⟨b,e1,e2,e3⟩:=h.l15 e;exact⟨b,e1,k.bk e2 (by have:=h.st.lt;omega),e3⟩
theorem AmRow.slice {V W:World} {n m:Nat} {x:Value} (h:AmRow V W n m x):∃A k c,x=.slice A k c:=by
 obtain⟨l,h1,_⟩:=h;obtain⟨A,c,h2,_⟩:=row_of_owns h1;exact⟨A,_,c,h2⟩
theorem AmRow.set {V W:World} {n m b k:Nat} {x u:Value} {xs:List Value} (h:AmRow V W n m x) (hb:Bk W b 80 xs):AmRow V (W.setCell ⟨b,k,none⟩ u) n m x:=by
 obtain⟨l,h1,h2,h3⟩:=h;exact⟨l,h1.kept (grown_setCell W b k u) (.inr (row_neT h1 hb (by decide))),h2,h3⟩
structure RuAt (V W : World) (B0 g rb b : Nat) (nm : ByteArray) (le ti ch of_ : Int) (s1 s2 : Sl) (vb : Value) (tk gv bk : List P2) : Prop where
 st:GSt V W g
 res:Bk W rb 80 [.string ⟨#[]⟩,.bool false,.int .i64 0,.int .i64 0,.int .i64 0,.int .i64 0,.slice none 0 0,.slice none 0 0,.slice none 0 0]
 rlt:rb<V.heap.size
 rne:rb≠g
 bx:Bk W b 80 [.string nm,.bool false,.int .i64 le,.int .i64 ti,.int .i64 ch,.int .i64 of_,.slice s1.A s1.n s1.c,.slice s2.A s2.n s2.c,vb]
 ge:V.heap.size<=b
 take:PrV W 132 s1 tk
 give:PrV W 132 s2 gv
 tfar:∀b' o,s1.A=some ⟨b',o,none⟩->b'<B0
 gfar:∀b' o,s2.A=some ⟨b',o,none⟩->b'<B0
 own:W.ownsRow B0 132 2 vb bk.length (pcells bk)
 b0:V.heap.size<=B0
 b1:B0<=W.heap.size
section
variable {V W W' : World} {B0 g rb b : Nat} {nm : ByteArray} {le ti ch of_ : Int} {s1 s2 : Sl} {vb : Value} {tk gv bk : List P2}
theorem RuAt.gb (h:RuAt V W B0 g rb b nm le ti ch of_ s1 s2 vb tk gv bk):b≠g:=by have:=h.st.lt;have:=h.ge;omega
theorem RuAt.next (h:RuAt V W B0 g rb b nm le ti ch of_ s1 s2 vb tk gv bk) (k:GSt W W' g):RuAt V W' B0 g rb b nm le ti ch of_ s1 s2 vb tk gv bk:=by
 have hk:=k.keep h.st.ok 132 (by decide);have hlt:=h.st.lt;have h0:=h.b0;exact⟨h.st.trans k,k.bk h.res h.rne,h.rlt,h.rne,k.bk h.bx h.gb,h.ge,h.take.keep hk,h.give.keep hk,h.tfar,h.gfar,k.own h.own (fun e=>by have:=row_base h.own g e;omega),h.b0,Nat.le_trans h.b1 k.size⟩
theorem RuAt.app (h:RuAt V W B0 g rb b nm le ti ch of_ s1 s2 vb tk gv bk) {bk':List P2} {vb':Value} (hg:W.grownBy W' vb.ownBlock) (hv:W'.ownsRow B0 132 2 vb' bk'.length (pcells bk')) :
 Bk W' b 80 [.string nm,.bool false,.int .i64 le,.int .i64 ti,.int .i64 ch,.int .i64 of_,.slice s1.A s1.n s1.c,.slice s2.A s2.n s2.c,vb] ∧
 RuAt V (W'.setCell ⟨b,8,none⟩ vb') B0 g rb b nm le ti ch of_ s1 s2 vb' tk gv bk':=by
 have hbase:=row_base h.own;have h0:=h.b0;have h2:=h.rlt;have kb:=h.bx.grown hg (fun e=>row_neT h.own h.bx (by decide) e.symm);refine⟨kb,?_⟩;have kp:∀ {s:Sl} {l:List P2},PrV W 132 s l->(∀b' o,s.A=some ⟨b',o,none⟩->b'<B0)->PrV W' 132 s l:=fun{s l} hp hf=>by
  refine⟨?_,hp.len,hp.small,hp.wf⟩;rcases hp.row with h1|⟨b1,off,cur,fl,e1,e2,e3⟩
  ·exact .inl h1
  ·refine .inr ⟨b1,off,cur,fl,e1,(hg.block b1 (Array.getElem?_eq_some_iff.1 e2).1 (fun e=>?_)).trans e2,e3⟩;have h3:=hf b1 off e1;have h4:=hbase b1 e.symm;omega
 have st':GSt V W' g:=h.st.grow hg (fun b1 e=>Nat.le_trans h0 (hbase b1 e));have hR':RuAt V W' B0 g rb b nm le ti ch of_ s1 s2 vb tk gv bk∨True:=.inr trivial;have hg2:=grown_setCell W' b 8 vb';have hk:Keep 132 W' (W'.setCell ⟨b,8,none⟩ vb'):=Keep.setCell kb (by decide) vb';have res':Bk W' rb 80 [.string ⟨#[]⟩,.bool false,.int .i64 0,.int .i64 0,.int .i64 0,.int .i64 0,.slice none 0 0,.slice none 0 0,.slice none 0 0]:=h.res.grown hg (fun e=>by have:=hbase rb e.symm;omega);have h1:=h.ge;exact⟨st'.set _ _ _ h.ge,res'.far (by simp;omega) _,h.rlt,h.rne,kb.set 8 vb',h.ge,(kp h.take h.tfar).keep hk,(kp h.give h.gfar).keep hk,h.tfar,h.gfar,hv.kept hg2 (.inr (row_neT hv kb (by decide))),h.b0,Nat.le_trans h.b1 (Nat.le_trans hg.size hg2.size)⟩
end
def ruSmall (n:Nat) (r:RuM):Prop:=r.take.length<=n∧r.give.length<=n∧r.back.length<=n
def RuleG (V:World) (g n:Nat) (nm:ByteArray) (e:Ending) (W:World):Prop :=
 ∃r:RuM,e=.returned r.val∧r.Ok W∧r.name=nm∧wfR n r=true∧rgR r=true∧ruLim r=true∧ruSmall 3 r∧GSt V W g
theorem RuAt.done {w V W:World} {B0 g rb b n:Nat} {nm:ByteArray} {le ti ch of_:Int} {s1 s2 s3:Sl} {tk gv bk:List P2} (h:RuAt V W B0 g rb b nm le ti ch of_ s1 s2 (.slice s3.A s3.n s3.c) tk gv bk) (hs3:s3.n=bk.length) (hV:GSt w V g) (hrb:w.heap.size<=rb) (hnm:nm.size<=8192) (hn:n<=1000)
 (hA1:Am n tk) (hA2:Am n gv) (l1:tk.length<=3) (l2:gv.length<=2) (hS:SubA tk bk) (hle:0<=le∧le<4) (hti:0<=ti∧ti<=20) (hch:1<=ch∧ch<=of_∧of_<=10) (hnt:tk.length=0->ti≠0) (hne:bk≠[]->ch<of_) :
 RuleG w g n nm (.returned (.agg #[.string nm,.bool false,.int .i64 le,.int .i64 ti,.int .i64 ch,.int .i64 of_,.slice s1.A s1.n s1.c,.slice s2.A s2.n s2.c,.slice s3.A s3.n s3.c])) (((((((((W.setCell ⟨rb,0,none⟩ (.string nm)).setCell ⟨rb,1,none⟩ (.bool false)).setCell ⟨rb,2,none⟩ (.int .i64 le)).setCell ⟨rb,3,none⟩ (.int .i64 ti)).setCell ⟨rb,4,none⟩ (.int .i64 ch)).setCell ⟨rb,5,none⟩ (.int .i64 of_)).setCell ⟨rb,6,none⟩ (.slice s1.A s1.n s1.c)).setCell ⟨rb,7,none⟩ (.slice s2.A s2.n s2.c)).setCell ⟨rb,8,none⟩ (.slice s3.A s3.n s3.c)) ∧
 (((((((((W.setCell ⟨rb,0,none⟩ (.string nm)).setCell ⟨rb,1,none⟩ (.bool false)).setCell ⟨rb,2,none⟩ (.int .i64 le)).setCell ⟨rb,3,none⟩ (.int .i64 ti)).setCell ⟨rb,4,none⟩ (.int .i64 ch)).setCell ⟨rb,5,none⟩ (.int .i64 of_)).setCell ⟨rb,6,none⟩ (.slice s1.A s1.n s1.c)).setCell ⟨rb,7,none⟩ (.slice s2.A s2.n s2.c)).setCell ⟨rb,8,none⟩ (.slice s3.A s3.n s3.c)).heap[rb]? = some (.cells #[.string nm,.bool false,.int .i64 le,.int .i64 ti,.int .i64 ch,.int .i64 of_,.slice s1.A s1.n s1.c,.slice s2.A s2.n s2.c,.slice s3.A s3.n s3.c] 80 (0,0)):=by
 have hb3:=hS.len;obtain⟨hA3,_⟩:=hS.am hA1;have p3:PrV W 132 s3 bk:=⟨by have:=h.own;rw[<- hs3]at this;exact TRow.of_own this,hs3,by omega,fun p hp=>by have:=hA3.2 p hp;omega⟩;have q0:=h.res;have q1:=q0.set 0 (.string nm);have q2:=q1.set 1 (.bool false);have q3:=q2.set 2 (.int .i64 le);have q4:=q3.set 3 (.int .i64 ti);have q5:=q4.set 4 (.int .i64 ch);have q6:=q5.set 5 (.int .i64 of_);have q7:=q6.set 6 (.slice s1.A s1.n s1.c);have q8:=q7.set 7 (.slice s2.A s2.n s2.c);have q9:=q8.set 8 (.slice s3.A s3.n s3.c);have hk:Keep 132 W (((((((((W.setCell ⟨rb,0,none⟩ (.string nm)).setCell ⟨rb,1,none⟩ (.bool false)).setCell ⟨rb,2,none⟩ (.int .i64 le)).setCell ⟨rb,3,none⟩ (.int .i64 ti)).setCell ⟨rb,4,none⟩ (.int .i64 ch)).setCell ⟨rb,5,none⟩ (.int .i64 of_)).setCell ⟨rb,6,none⟩ (.slice s1.A s1.n s1.c)).setCell ⟨rb,7,none⟩ (.slice s2.A s2.n s2.c)).setCell ⟨rb,8,none⟩ (.slice s3.A s3.n s3.c)) :=
  ((((((((Keep.setCell q0 (by decide) _).trans (Keep.setCell q1 (by decide) _)).trans (Keep.setCell q2 (by decide) _)).trans (Keep.setCell q3 (by decide) _)).trans (Keep.setCell q4 (by decide) _)).trans (Keep.setCell q5 (by decide) _)).trans (Keep.setCell q6 (by decide) _)).trans (Keep.setCell q7 (by decide) _)).trans (Keep.setCell q8 (by decide) _)
 have st:=((((((((((hV.trans h.st).set rb 0 (.string nm) hrb).set rb 1 (.bool false) hrb).set rb 2 (.int .i64 le) hrb).set rb 3 (.int .i64 ti) hrb).set rb 4 (.int .i64 ch) hrb).set rb 5 (.int .i64 of_) hrb).set rb 6 (.slice s1.A s1.n s1.c) hrb).set rb 7 (.slice s2.A s2.n s2.c) hrb).set rb 8 (.slice s3.A s3.n s3.c) hrb);refine⟨⟨⟨nm,false,le,ti,ch,of_,tk,gv,bk,s1,s2,s3⟩,rfl,⟨h.take.keep hk,h.give.keep hk,p3.keep hk,hnm⟩,rfl,?_,?_,?_,⟨l1,Nat.le_trans l2 (by omega),Nat.le_trans hb3 l1⟩,st⟩,q9⟩
 ·have hf:ruFormed ⟨nm,false,le,ti,ch,of_,tk,gv,bk,s1,s2,s3⟩=true:=by
   show formR tk.length bk.length false le ti ch of_=true;unfold formR;have e1:(decide (0<bk.length) && (ch == of_))=false:=by
    by_cases e:bk=[]
    ·simp[e]
    ·have h1:=hne e;have h2:(ch == of_)=false:=by simp;omega
     rw[h2,Bool.and_false]
   rw[e1];have e2:(decide (0<tk.length) || (ti != 0))=true:=by
    rcases Nat.eq_zero_or_pos tk.length with e|e
    ·have h3:(ti != 0)=true:=by simpa using hnt e
     rw[h3,Bool.or_true]
    ·rw[decide_eq_true e,Bool.true_or]
   rw[e2];rfl
  show(sortB n tk && sortB n gv && sortB n bk && ruFormed _ && contB tk bk)=true;rw[hA1.sort,hA2.sort,hA3.sort,hf,hS.cont hA1];rfl
 ·show(tk.all unitP && gv.all unitP && bk.all unitP && ruRange _)=true;have hr:ruRange ⟨nm,false,le,ti,ch,of_,tk,gv,bk,s1,s2,s3⟩=true:=by
   show(decide (0<=le) && decide (le<=100) && decide (0<=ti) && decide (ti<=1000000) && decide (1<=of_) && decide (of_<=1000000) && decide (1<=ch) && decide (ch<=of_))=true;rw[decide_eq_true (show 0<=le by omega),decide_eq_true (show le<=100 by omega),decide_eq_true (show 0<=ti by omega),decide_eq_true (show ti<=1000000 by omega),decide_eq_true (show 1<=of_ by omega),decide_eq_true (show of_<=1000000 by omega),decide_eq_true (show 1<=ch by omega),decide_eq_true (show ch<=of_ by omega)];rfl
  rw[hA1.units,hA2.units,hA3.units,hr];rfl
 ·show(decide (tk.length+gv.length<=64) && decide (tk.length+bk.length<=64))=true;rw[decide_eq_true (show tk.length+gv.length<=64 by omega),decide_eq_true (show tk.length+bk.length<=64 by omega)];rfl
end
end
section
set_option linter.unusedVariables false
set_option linter.unusedSimpArgs false
section
abbrev nil4:List Value:=[.slice none 0 0,.slice none 0 0,.slice none 0 0,.slice none 0 0]
structure CtAt (V W : World) (g rb cb : Nat) (m : CatM) : Prop where
 st:GSt V W g
 res:Bk W rb 28 nil4
 rlt:rb<V.heap.size
 rne:rb≠g
 bx:Bk W cb 28 (catSL m.si m.sr m.st m.sx)
 ge:V.heap.size<=cb
 ok:m.Ok W
theorem CatM.Ok.keeps {W W':World} {m:CatM} (h:m.Ok W) (k:∀t,t≠73->t≠28->Keep t W W'):m.Ok W' :=
 ⟨h.items.keep (k 76 (by decide) (by decide)),h.rules.keep (k 80 (by decide) (by decide)) (k 132 (by decide) (by decide)),h.tables.keep (k 86 (by decide) (by decide)) (k 88 (by decide) (by decide)) (k 132 (by decide) (by decide)),h.taxes.keep (k 93 (by decide) (by decide)) (k 90 (by decide) (by decide))⟩
def rucells (l:List RuM):List Value:=l.flatMap RuM.cells
def tbcells (l:List TbM):List Value:=l.flatMap TbM.cells
def txcells (l:List TxM):List Value:=l.flatMap TxM.cells
section
variable {V W W' : World} {g rb cb : Nat} {m : CatM}
theorem CtAt.cne (h:CtAt V W g rb cb m):cb≠g:=by have:=h.st.lt;have:=h.ge;omega
theorem CtAt.next (h:CtAt V W g rb cb m) (k:GSt W W' g):CtAt V W' g rb cb m :=
 ⟨h.st.trans k,k.bk h.res h.rne,h.rlt,h.rne,k.bk h.bx h.cne,h.ge,h.ok.keeps fun t h1 _=>k.keep h.st.ok t h1⟩
theorem CtAt.below (h:CtAt V W g rb cb m) (hb:Below W.heap.size W W'):CtAt V W' g rb cb m:=h.next ((GSt.refl h.st.ok).below hb)
theorem CtAt.addI {n:Nat} {A':Option Addr} {k' c':Nat} {t:It} (h:CtAt V W g rb cb m) (ho:W.ownsRow V.heap.size 76 7 (.slice m.si.A m.si.n m.si.c) n (icells m.items)) (hg:W.grownBy W' (Value.slice m.si.A m.si.n m.si.c).ownBlock)
 (hn:W'.ownsRow V.heap.size 76 7 (.slice A' k' c') k' (icells (m.items ++ [t]))) (hk:k'=(m.items ++ [t]).length) (hsm:k'<=100000) (ht:t.name.size<=8192) :
 Bk W' cb 28 (catSL m.si m.sr m.st m.sx)∧CtAt V (W'.setCell ⟨cb,0,none⟩ (.slice A' k' c')) g rb cb { m with items:=m.items ++ [t],si:=⟨A',k',c'⟩ } ∧ (W'.setCell ⟨cb,0,none⟩ (.slice A' k' c')).ownsRow V.heap.size 76 7 (.slice A' k' c') k' (icells (m.items ++ [t])):=by
 have hbase:=row_base ho;have hr:=h.rlt;have hge:=h.ge;have kb:=h.bx.grown hg (fun e=>row_neT ho h.bx (by decide) e.symm);have kp:∀q,(76:TypeId)≠q->Keep q W W':=fun q hq=>Keep.own ho hg hq
 have ks:∀q,(28:TypeId)≠q->Keep q W' (W'.setCell ⟨cb,0,none⟩ (.slice A' k' c')):=fun q hq=>Keep.setCell kb hq _
 refine⟨kb,⟨(h.st.grow hg hbase).set _ _ _ h.ge,(h.res.grown hg (fun e=>by have:=hbase rb e.symm;omega)).far (by simp;omega) _,h.rlt,h.rne,kb.set 0 _,h.ge,?_⟩,hn.kept (grown_setCell W' cb 0 _) (.inr (row_neT hn kb (by decide)))⟩;exact⟨⟨(TRow.of_own hn).keep (ks 76 (by decide)),hk,hsm,fun x hx=>by
  rcases List.mem_append.1 hx with h1|h1
  ·exact h.ok.items.each x h1
  ·rw[List.mem_singleton.1 h1];exact ht⟩,(h.ok.rules.keep (kp 80 (by decide)) (kp 132 (by decide))).keep (ks 80 (by decide)) (ks 132 (by decide)),(h.ok.tables.keep (kp 86 (by decide)) (kp 88 (by decide)) (kp 132 (by decide))).keep (ks 86 (by decide)) (ks 88 (by decide)) (ks 132 (by decide)),(h.ok.taxes.keep (kp 93 (by decide)) (kp 90 (by decide))).keep (ks 93 (by decide)) (ks 90 (by decide))⟩
theorem CtAt.addR {n:Nat} {A':Option Addr} {k' c':Nat} {t:RuM} (h:CtAt V W g rb cb m) (ho:W.ownsRow V.heap.size 80 9 (.slice m.sr.A m.sr.n m.sr.c) n (rucells m.rules)) (hg:W.grownBy W' (Value.slice m.sr.A m.sr.n m.sr.c).ownBlock)
 (hn:W'.ownsRow V.heap.size 80 9 (.slice A' k' c') k' (rucells (m.rules ++ [t]))) (hk:k'=(m.rules ++ [t]).length) (hsm:k'<=100000) (ht:t.Ok W') :
 Bk W' cb 28 (catSL m.si m.sr m.st m.sx)∧CtAt V (W'.setCell ⟨cb,1,none⟩ (.slice A' k' c')) g rb cb { m with rules:=m.rules ++ [t],sr:=⟨A',k',c'⟩ } ∧ (W'.setCell ⟨cb,1,none⟩ (.slice A' k' c')).ownsRow V.heap.size 80 9 (.slice A' k' c') k' (rucells (m.rules ++ [t])):=by
 have hbase:=row_base ho;have hr:=h.rlt;have hge:=h.ge;have kb:=h.bx.grown hg (fun e=>row_neT ho h.bx (by decide) e.symm);have kp:∀q,(80:TypeId)≠q->Keep q W W':=fun q hq=>Keep.own ho hg hq
 have ks:∀q,(28:TypeId)≠q->Keep q W' (W'.setCell ⟨cb,1,none⟩ (.slice A' k' c')):=fun q hq=>Keep.setCell kb hq _
 refine⟨kb,⟨(h.st.grow hg hbase).set _ _ _ h.ge,(h.res.grown hg (fun e=>by have:=hbase rb e.symm;omega)).far (by simp;omega) _,h.rlt,h.rne,kb.set 1 _,h.ge,?_⟩,hn.kept (grown_setCell W' cb 1 _) (.inr (row_neT hn kb (by decide)))⟩;exact⟨(h.ok.items.keep (kp 76 (by decide))).keep (ks 76 (by decide)),⟨(TRow.of_own hn).keep (ks 80 (by decide)),hk,hsm,fun x hx=>by
  rcases List.mem_append.1 hx with h1|h1
  ·exact((h.ok.rules.each x h1).keep (kp 132 (by decide))).keep (ks 132 (by decide))
  ·rw[List.mem_singleton.1 h1];exact ht.keep (ks 132 (by decide))⟩,(h.ok.tables.keep (kp 86 (by decide)) (kp 88 (by decide)) (kp 132 (by decide))).keep (ks 86 (by decide)) (ks 88 (by decide)) (ks 132 (by decide)),(h.ok.taxes.keep (kp 93 (by decide)) (kp 90 (by decide))).keep (ks 93 (by decide)) (ks 90 (by decide))⟩
theorem CtAt.addT {n:Nat} {A':Option Addr} {k' c':Nat} {t:TbM} (h:CtAt V W g rb cb m) (ho:W.ownsRow V.heap.size 86 2 (.slice m.st.A m.st.n m.st.c) n (tbcells m.tables)) (hg:W.grownBy W' (Value.slice m.st.A m.st.n m.st.c).ownBlock)
 (hn:W'.ownsRow V.heap.size 86 2 (.slice A' k' c') k' (tbcells (m.tables ++ [t]))) (hk:k'=(m.tables ++ [t]).length) (hsm:k'<=100000) (ht:t.Ok W') :
 Bk W' cb 28 (catSL m.si m.sr m.st m.sx)∧CtAt V (W'.setCell ⟨cb,2,none⟩ (.slice A' k' c')) g rb cb { m with tables:=m.tables ++ [t],st:=⟨A',k',c'⟩ } ∧ (W'.setCell ⟨cb,2,none⟩ (.slice A' k' c')).ownsRow V.heap.size 86 2 (.slice A' k' c') k' (tbcells (m.tables ++ [t])):=by
 have hbase:=row_base ho;have hr:=h.rlt;have hge:=h.ge;have kb:=h.bx.grown hg (fun e=>row_neT ho h.bx (by decide) e.symm);have kp:∀q,(86:TypeId)≠q->Keep q W W':=fun q hq=>Keep.own ho hg hq
 have ks:∀q,(28:TypeId)≠q->Keep q W' (W'.setCell ⟨cb,2,none⟩ (.slice A' k' c')):=fun q hq=>Keep.setCell kb hq _
 refine⟨kb,⟨(h.st.grow hg hbase).set _ _ _ h.ge,(h.res.grown hg (fun e=>by have:=hbase rb e.symm;omega)).far (by simp;omega) _,h.rlt,h.rne,kb.set 2 _,h.ge,?_⟩,hn.kept (grown_setCell W' cb 2 _) (.inr (row_neT hn kb (by decide)))⟩;exact⟨(h.ok.items.keep (kp 76 (by decide))).keep (ks 76 (by decide)),(h.ok.rules.keep (kp 80 (by decide)) (kp 132 (by decide))).keep (ks 80 (by decide)) (ks 132 (by decide)),⟨(TRow.of_own hn).keep (ks 86 (by decide)),hk,hsm,fun x hx=>by
  rcases List.mem_append.1 hx with h1|h1
  ·exact⟨((h.ok.tables.each x h1).rows.keep (kp 88 (by decide)) (kp 132 (by decide))).keep (ks 88 (by decide)) (ks 132 (by decide)),(h.ok.tables.each x h1).name⟩
  ·rw[List.mem_singleton.1 h1];exact⟨ht.rows.keep (ks 88 (by decide)) (ks 132 (by decide)),ht.name⟩⟩,(h.ok.taxes.keep (kp 93 (by decide)) (kp 90 (by decide))).keep (ks 93 (by decide)) (ks 90 (by decide))⟩
theorem CtAt.addX {n:Nat} {A':Option Addr} {k' c':Nat} {t:TxM} (h:CtAt V W g rb cb m) (ho:W.ownsRow V.heap.size 93 2 (.slice m.sx.A m.sx.n m.sx.c) n (txcells m.taxes)) (hg:W.grownBy W' (Value.slice m.sx.A m.sx.n m.sx.c).ownBlock)
 (hn:W'.ownsRow V.heap.size 93 2 (.slice A' k' c') k' (txcells (m.taxes ++ [t]))) (hk:k'=(m.taxes ++ [t]).length) (hsm:k'<=100000) (ht:t.Ok W') :
 Bk W' cb 28 (catSL m.si m.sr m.st m.sx)∧CtAt V (W'.setCell ⟨cb,3,none⟩ (.slice A' k' c')) g rb cb { m with taxes:=m.taxes ++ [t],sx:=⟨A',k',c'⟩ } ∧ (W'.setCell ⟨cb,3,none⟩ (.slice A' k' c')).ownsRow V.heap.size 93 2 (.slice A' k' c') k' (txcells (m.taxes ++ [t])):=by
 have hbase:=row_base ho;have hr:=h.rlt;have hge:=h.ge;have kb:=h.bx.grown hg (fun e=>row_neT ho h.bx (by decide) e.symm);have kp:∀q,(93:TypeId)≠q->Keep q W W':=fun q hq=>Keep.own ho hg hq
 have ks:∀q,(28:TypeId)≠q->Keep q W' (W'.setCell ⟨cb,3,none⟩ (.slice A' k' c')):=fun q hq=>Keep.setCell kb hq _
 refine⟨kb,⟨(h.st.grow hg hbase).set _ _ _ h.ge,(h.res.grown hg (fun e=>by have:=hbase rb e.symm;omega)).far (by simp;omega) _,h.rlt,h.rne,kb.set 3 _,h.ge,?_⟩,hn.kept (grown_setCell W' cb 3 _) (.inr (row_neT hn kb (by decide)))⟩;exact⟨(h.ok.items.keep (kp 76 (by decide))).keep (ks 76 (by decide)),(h.ok.rules.keep (kp 80 (by decide)) (kp 132 (by decide))).keep (ks 80 (by decide)) (ks 132 (by decide)),(h.ok.tables.keep (kp 86 (by decide)) (kp 88 (by decide)) (kp 132 (by decide))).keep (ks 86 (by decide)) (ks 88 (by decide)) (ks 132 (by decide)),⟨(TRow.of_own hn).keep (ks 93 (by decide)),hk,hsm,fun x hx=>by
  rcases List.mem_append.1 hx with h1|h1
  ·exact⟨((h.ok.taxes.each x h1).brs.keep (kp 90 (by decide))).keep (ks 90 (by decide)),(h.ok.taxes.each x h1).name⟩
  ·rw[List.mem_singleton.1 h1];exact⟨ht.brs.keep (ks 90 (by decide)),ht.name⟩⟩⟩
end
end
section
theorem GSt.keeps {V W:World} {g:Nat} (h:GSt V W g) (hg:GOk V g):∀q,q≠73->Keep q V W:=fun q hq=>h.keep hg q hq
structure CtI (V W : World) (g rb cb : Nat) (m : CatM) : Prop where
 ct:CtAt V W g rb cb m
 own:W.ownsRow V.heap.size 76 7 (.slice m.si.A m.si.n m.si.c) m.items.length (icells m.items)
section
variable {V W W' : World} {g rb cb : Nat} {m : CatM}
theorem CtI.next (h:CtI V W g rb cb m) (k:GSt W W' g):CtI V W' g rb cb m :=
 ⟨h.ct.next k,k.own h.own (fun e=>by have:=row_base h.own g e;have:=h.ct.st.lt;omega)⟩
theorem CtI.below (h:CtI V W g rb cb m) (hb:Below W.heap.size W W'):CtI V W' g rb cb m:=h.next ((GSt.refl h.ct.st.ok).below hb)
theorem CtI.app {A':Option Addr} {k' c':Nat} {t:It} (h:CtI V W g rb cb m) (hg:W.grownBy W' (Value.slice m.si.A m.si.n m.si.c).ownBlock)
 (hn:W'.ownsRow V.heap.size 76 7 (.slice A' k' c') k' (icells (m.items ++ [t]))) (hk:k'=m.items.length+1) (hsm:k'<=100000) (ht:t.name.size<=8192) :
 Bk W' cb 28 (catSL m.si m.sr m.st m.sx)∧(∀q,76≠q->Keep q W W')∧(∀q,28≠q->Keep q W' (W'.setCell ⟨cb,0,none⟩ (.slice A' k' c')))∧CtI V (W'.setCell ⟨cb,0,none⟩ (.slice A' k' c')) g rb cb { m with items:=m.items ++ [t],si:=⟨A',k',c'⟩ }:=by
 have hk2:k'=(m.items ++ [t]).length:=by simpa using hk
 obtain⟨h1,h2,h3⟩:=h.ct.addI h.own hg hn hk2 hsm ht;exact⟨h1,fun q hq=>Keep.own h.own hg hq,fun q hq=>Keep.setCell h1 hq _,h2,by rw[hk2]at h3⊢;exact h3⟩
end
structure CtR (V W : World) (g rb cb : Nat) (m : CatM) : Prop where
 ct:CtAt V W g rb cb m
 own:W.ownsRow V.heap.size 80 9 (.slice m.sr.A m.sr.n m.sr.c) m.rules.length (rucells m.rules)
section
variable {V W W' : World} {g rb cb : Nat} {m : CatM}
theorem CtR.next (h:CtR V W g rb cb m) (k:GSt W W' g):CtR V W' g rb cb m :=
 ⟨h.ct.next k,k.own h.own (fun e=>by have:=row_base h.own g e;have:=h.ct.st.lt;omega)⟩
theorem CtR.below (h:CtR V W g rb cb m) (hb:Below W.heap.size W W'):CtR V W' g rb cb m:=h.next ((GSt.refl h.ct.st.ok).below hb)
theorem CtR.app {A':Option Addr} {k' c':Nat} {t:RuM} (h:CtR V W g rb cb m) (hg:W.grownBy W' (Value.slice m.sr.A m.sr.n m.sr.c).ownBlock)
 (hn:W'.ownsRow V.heap.size 80 9 (.slice A' k' c') k' (rucells (m.rules ++ [t]))) (hk:k'=m.rules.length+1) (hsm:k'<=100000) (ht:t.Ok W') :
 Bk W' cb 28 (catSL m.si m.sr m.st m.sx)∧(∀q,80≠q->Keep q W W')∧(∀q,28≠q->Keep q W' (W'.setCell ⟨cb,1,none⟩ (.slice A' k' c')))∧CtR V (W'.setCell ⟨cb,1,none⟩ (.slice A' k' c')) g rb cb { m with rules:=m.rules ++ [t],sr:=⟨A',k',c'⟩ }:=by
 have hk2:k'=(m.rules ++ [t]).length:=by simpa using hk
 obtain⟨h1,h2,h3⟩:=h.ct.addR h.own hg hn hk2 hsm ht;exact⟨h1,fun q hq=>Keep.own h.own hg hq,fun q hq=>Keep.setCell h1 hq _,h2,by rw[hk2]at h3⊢;exact h3⟩
end
structure CtT (V W : World) (g rb cb : Nat) (m : CatM) : Prop where
 ct:CtAt V W g rb cb m
 own:W.ownsRow V.heap.size 86 2 (.slice m.st.A m.st.n m.st.c) m.tables.length (tbcells m.tables)
section
variable {V W W' : World} {g rb cb : Nat} {m : CatM}
theorem CtT.next (h:CtT V W g rb cb m) (k:GSt W W' g):CtT V W' g rb cb m :=
 ⟨h.ct.next k,k.own h.own (fun e=>by have:=row_base h.own g e;have:=h.ct.st.lt;omega)⟩
theorem CtT.below (h:CtT V W g rb cb m) (hb:Below W.heap.size W W'):CtT V W' g rb cb m:=h.next ((GSt.refl h.ct.st.ok).below hb)
theorem CtT.app {A':Option Addr} {k' c':Nat} {t:TbM} (h:CtT V W g rb cb m) (hg:W.grownBy W' (Value.slice m.st.A m.st.n m.st.c).ownBlock)
 (hn:W'.ownsRow V.heap.size 86 2 (.slice A' k' c') k' (tbcells (m.tables ++ [t]))) (hk:k'=m.tables.length+1) (hsm:k'<=100000) (ht:t.Ok W') :
 Bk W' cb 28 (catSL m.si m.sr m.st m.sx)∧(∀q,86≠q->Keep q W W')∧(∀q,28≠q->Keep q W' (W'.setCell ⟨cb,2,none⟩ (.slice A' k' c')))∧CtT V (W'.setCell ⟨cb,2,none⟩ (.slice A' k' c')) g rb cb { m with tables:=m.tables ++ [t],st:=⟨A',k',c'⟩ }:=by
 have hk2:k'=(m.tables ++ [t]).length:=by simpa using hk
 obtain⟨h1,h2,h3⟩:=h.ct.addT h.own hg hn hk2 hsm ht;exact⟨h1,fun q hq=>Keep.own h.own hg hq,fun q hq=>Keep.setCell h1 hq _,h2,by rw[hk2]at h3⊢;exact h3⟩
end
structure CtX (V W : World) (g rb cb : Nat) (m : CatM) : Prop where
 ct:CtAt V W g rb cb m
 own:W.ownsRow V.heap.size 93 2 (.slice m.sx.A m.sx.n m.sx.c) m.taxes.length (txcells m.taxes)
section
variable {V W W' : World} {g rb cb : Nat} {m : CatM}
theorem CtX.next (h:CtX V W g rb cb m) (k:GSt W W' g):CtX V W' g rb cb m :=
 ⟨h.ct.next k,k.own h.own (fun e=>by have:=row_base h.own g e;have:=h.ct.st.lt;omega)⟩
theorem CtX.below (h:CtX V W g rb cb m) (hb:Below W.heap.size W W'):CtX V W' g rb cb m:=h.next ((GSt.refl h.ct.st.ok).below hb)
theorem CtX.app {A':Option Addr} {k' c':Nat} {t:TxM} (h:CtX V W g rb cb m) (hg:W.grownBy W' (Value.slice m.sx.A m.sx.n m.sx.c).ownBlock)
 (hn:W'.ownsRow V.heap.size 93 2 (.slice A' k' c') k' (txcells (m.taxes ++ [t]))) (hk:k'=m.taxes.length+1) (hsm:k'<=100000) (ht:t.Ok W') :
 Bk W' cb 28 (catSL m.si m.sr m.st m.sx)∧(∀q,93≠q->Keep q W W')∧(∀q,28≠q->Keep q W' (W'.setCell ⟨cb,3,none⟩ (.slice A' k' c')))∧CtX V (W'.setCell ⟨cb,3,none⟩ (.slice A' k' c')) g rb cb { m with taxes:=m.taxes ++ [t],sx:=⟨A',k',c'⟩ }:=by
 have hk2:k'=(m.taxes ++ [t]).length:=by simpa using hk
 obtain⟨h1,h2,h3⟩:=h.ct.addX h.own hg hn hk2 hsm ht;exact⟨h1,fun q hq=>Keep.own h.own hg hq,fun q hq=>Keep.setCell h1 hq _,h2,by rw[hk2]at h3⊢;exact h3⟩
end
end
section
abbrev sl0:Sl:=⟨none,0,0⟩
def ItsOk (items:List It) (nl:List ByteArray):Prop:=items.map It.name=nl∧items.all itFormedB=true∧items.all itRangeB=true
theorem ItsOk.nil:ItsOk [] []:=⟨rfl,rfl,rfl⟩
theorem ItsOk.len {items:List It} {nl:List ByteArray} (h:ItsOk items nl):items.length=nl.length:=by rw[<- h.1];simp
def RusOk (n:Nat) (rules:List RuM) (nl:List ByteArray):Prop:=rules.map RuM.name=nl∧rules.all (wfR n)=true∧rules.all rgR=true∧rules.all ruLim=true∧∀r∈rules,ruSmall 3 r
theorem RusOk.nil (n:Nat):RusOk n [] []:=⟨rfl,rfl,rfl,rfl,by simp⟩
theorem RusOk.len {n:Nat} {rules:List RuM} {nl:List ByteArray} (h:RusOk n rules nl):rules.length=nl.length:=by rw[<- h.1];simp
def RwsOk (n:Nat) (rows:List RwM):Prop:=(rows.all fun r=>sortB n r.give)=true∧rows.all wtP=true∧(rows.all fun r=>r.give.all unitP)=true∧∀r∈rows,r.give.length<=3
theorem RwsOk.nil (n:Nat):RwsOk n []:=⟨rfl,rfl,rfl,by simp⟩
def TbsOk (n:Nat) (tables:List TbM) (nl:List ByteArray):Prop:=tables.map TbM.name=nl∧tables.all (wfT n)=true∧tables.all rgT=true∧tables.all tbLim=true∧∀t∈tables,∀r∈t.rows,r.give.length<=3
theorem TbsOk.nil (n:Nat):TbsOk n [] []:=⟨rfl,rfl,rfl,rfl,by simp⟩
theorem TbsOk.len {n:Nat} {tables:List TbM} {nl:List ByteArray} (h:TbsOk n tables nl):tables.length=nl.length:=by rw[<- h.1];simp
def BrsOk (brs:List P2):Prop:=brs≠[]∧formedB brs=true∧brs.all txP=true∧0<=fromAt brs (brs.length-1)∧fromAt brs (brs.length-1)<=500*brs.length
theorem BrsOk.one {p:Int} (h0:0<=p) (h1:p<=10000):BrsOk [(0,p)]:=by
 refine⟨by simp,rfl,?_,by show(0:Int)<=0;omega,by show(0:Int)<=500*1;omega⟩;show(txP (0,p) && true)=true;simp only[txP,Bool.and_eq_true,decide_eq_true_eq];refine⟨⟨⟨⟨by omega,by omega⟩,h0⟩,h1⟩,trivial⟩
def TxsOk (taxes:List TxM) (nl:List ByteArray):Prop:=taxes.map TxM.name=nl∧taxes.all wfX=true∧taxes.all rgX=true∧taxes.all txLim=true
theorem TxsOk.nil:TxsOk [] []:=⟨rfl,rfl,rfl,rfl⟩
theorem TxsOk.len {taxes:List TxM} {nl:List ByteArray} (h:TxsOk taxes nl):taxes.length=nl.length:=by rw[<- h.1];simp
structure RwAt (V W : World) (g tb : Nat) (nm : ByteArray) (rows : List RwM) (s : Sl) : Prop where
 st:GSt V W g
 bx:Bk W tb 86 [.string nm,.slice s.A s.n s.c]
 ge:V.heap.size<=tb
 own:W.ownsRow V.heap.size 88 2 (.slice s.A s.n s.c) rows.length (rows.flatMap RwM.cells)
 each:∀r∈rows,r.Ok W
section
variable {V W W' : World} {g tb : Nat} {nm : ByteArray} {rows : List RwM} {s : Sl}
theorem RwAt.next (h:RwAt V W g tb nm rows s) (k:GSt W W' g):RwAt V W' g tb nm rows s :=
 ⟨h.st.trans k,k.bk h.bx (by have:=h.st.lt;have:=h.ge;omega),h.ge,k.own h.own (fun e=>by have:=row_base h.own g e;have:=h.st.lt;omega),fun r hr=>PrV.keep (h.each r hr) (k.keep h.st.ok 132 (by decide))⟩
theorem RwAt.below (h:RwAt V W g tb nm rows s) (hb:Below W.heap.size W W'):RwAt V W' g tb nm rows s:=h.next ((GSt.refl h.st.ok).below hb)
theorem RwAt.app {A':Option Addr} {k' c':Nat} {r:RwM} (h:RwAt V W g tb nm rows s) (hg:W.grownBy W' (Value.slice s.A s.n s.c).ownBlock)
 (hn:W'.ownsRow V.heap.size 88 2 (.slice A' k' c') k' ((rows ++ [r]).flatMap RwM.cells)) (hk:k'=rows.length+1) (hr:r.Ok W') :
 Bk W' tb 86 [.string nm,.slice s.A s.n s.c]∧RwAt V (W'.setCell ⟨tb,1,none⟩ (.slice A' k' c')) g tb nm (rows ++ [r]) ⟨A',k',c'⟩:=by
 have hbase:=row_base h.own;have hge:=h.ge;have kb:=h.bx.grown hg (fun e=>row_neT h.own h.bx (by decide) e.symm);have hk2:k'=(rows ++ [r]).length:=by simpa using hk
 have ho:=hn.kept (grown_setCell W' tb 1 (.slice A' k' c')) (.inr (row_neT hn kb (by decide)));refine⟨kb,⟨(h.st.grow hg hbase).set _ _ _ h.ge,kb.set 1 _,h.ge,by rw[<- hk2];exact ho,fun x hx=>?_⟩⟩;rcases List.mem_append.1 hx with hx|hx
 ·exact PrV.keep (PrV.keep (h.each x hx) (Keep.own h.own hg (by decide))) (Keep.setCell kb (by decide) _)
 ·rw[List.mem_singleton.1 hx];exact PrV.keep hr (Keep.setCell kb (by decide) _)
theorem RwAt.len (h:RwAt V W g tb nm rows s):s.n=rows.length:=by
 obtain⟨A,c,e,_⟩:=row_of_owns h.own;exact(Value.slice.inj e).2.1
theorem RwAt.ok (h:RwAt V W g tb nm rows s) (hl:rows.length<=100000) (hn:nm.size<=8192):TbM.Ok W ⟨nm,rows,s⟩:=by
 have hs:=h.len;refine⟨⟨?_,hs,by rw[hs];exact hl,h.each⟩,hn⟩;have:=h.own;rw[<- hs]at this;exact TRow.of_own this
end
structure TxAt (V W : World) (g xb : Nat) (nm : ByteArray) (brs : List P2) (s : Sl) : Prop where
 st:GSt V W g
 bx:Bk W xb 93 [.string nm,.slice s.A s.n s.c]
 ge:V.heap.size<=xb
 own:W.ownsRow V.heap.size 90 2 (.slice s.A s.n s.c) brs.length (pcells brs)
section
variable {V W W' : World} {g xb : Nat} {nm : ByteArray} {brs : List P2} {s : Sl}
theorem TxAt.next (h:TxAt V W g xb nm brs s) (k:GSt W W' g):TxAt V W' g xb nm brs s :=
 ⟨h.st.trans k,k.bk h.bx (by have:=h.st.lt;have:=h.ge;omega),h.ge,k.own h.own (fun e=>by have:=row_base h.own g e;have:=h.st.lt;omega)⟩
theorem TxAt.below (h:TxAt V W g xb nm brs s) (hb:Below W.heap.size W W'):TxAt V W' g xb nm brs s:=h.next ((GSt.refl h.st.ok).below hb)
theorem TxAt.app {A':Option Addr} {k' c':Nat} {r:P2} (h:TxAt V W g xb nm brs s) (hg:W.grownBy W' (Value.slice s.A s.n s.c).ownBlock)
 (hn:W'.ownsRow V.heap.size 90 2 (.slice A' k' c') k' (pcells (brs ++ [r]))) (hk:k'=brs.length+1) :
 Bk W' xb 93 [.string nm,.slice s.A s.n s.c]∧TxAt V (W'.setCell ⟨xb,1,none⟩ (.slice A' k' c')) g xb nm (brs ++ [r]) ⟨A',k',c'⟩:=by
 have hbase:=row_base h.own;have hge:=h.ge;have kb:=h.bx.grown hg (fun e=>row_neT h.own h.bx (by decide) e.symm);have hk2:k'=(brs ++ [r]).length:=by simpa using hk
 have ho:=hn.kept (grown_setCell W' xb 1 (.slice A' k' c')) (.inr (row_neT hn kb (by decide)));exact⟨kb,⟨(h.st.grow hg hbase).set _ _ _ h.ge,kb.set 1 _,h.ge,by rw[<- hk2];exact ho⟩⟩
theorem TxAt.len (h:TxAt V W g xb nm brs s):s.n=brs.length:=by
 obtain⟨A,c,e,_⟩:=row_of_owns h.own;exact(Value.slice.inj e).2.1
theorem txP_in {p:P2} (h:txP p=true):(-9223372036854775808<=p.1∧p.1<=9223372036854775807)∧-9223372036854775808<=p.2∧p.2<=9223372036854775807:=by
 simp only[txP,Bool.and_eq_true,decide_eq_true_eq]at h;omega
theorem TxAt.ok (h:TxAt V W g xb nm brs s) (hl:brs.length<=100000) (hn:nm.size<=8192) (hr:brs.all txP=true):TxM.Ok W ⟨nm,brs,s⟩:=by
 have hs:=h.len;refine⟨⟨?_,hs,by rw[hs];exact hl,fun p hp=>txP_in (List.all_eq_true.1 hr p hp)⟩,hn⟩;have:=h.own;rw[<- hs]at this;exact TRow.of_own this
end
def pool5:List ByteArray:=[⟨#[]⟩,⟨#[115,97,108,101]⟩,⟨#[115,116,97,108,108]⟩]
end
structure XMid (V : World) (g j : Nat) (nm : ByteArray) (L : Nat -> Bool) (x134 x135 x136 x137 x138 x139 x140 x141 x142 x17 : Value) (W : World) : Prop where
 st:GSt V W g
 l0:L 0=true->∃b,x134=.slice (some ⟨b,0,none⟩) 3 3∧Bk W b 9 (strs pool5)∧V.heap.size<=b
 l1:L 1=true->x135=.int .i64 (j:Int)
 l2:L 2=true->∃b,x136=.pointer (some ⟨b,j,none⟩)∧Bk W b 9 (strs pool5)∧V.heap.size<=b
 l3:L 3=true->x137=.string nm
 l4:L 4=true->x138=.pointer (some ⟨g,0,none⟩)
 l5:L 5=true->∃p,x139=.int .i64 p∧0<=p∧p<2000
 l6:L 6=true->∃p,x140=.agg #[.int .i64 0,.int .i64 p]∧0<=p∧p<2000
 l7:L 7=true->∃b p,x141=.slice (some ⟨b,0,none⟩) 1 1∧Bk W b 90 [.int .i64 0,.int .i64 p]∧V.heap.size<=b∧0<=p∧p<2000
 l8:L 8=true->∃b p,x142=.agg #[.string nm,.slice (some ⟨b,0,none⟩) 1 1]∧Bk W b 90 [.int .i64 0,.int .i64 p]∧V.heap.size<=b∧0<=p∧p<2000
 l9:L 9=true->∃b,x17=.pointer (some ⟨b,0,none⟩)∧Bk W b 93 [.string ⟨#[]⟩,.slice none 0 0]∧V.heap.size<=b
theorem XMid.go {V W W':World} {g j:Nat} {nm:ByteArray} {L:Nat->Bool} {x134 x135 x136 x137 x138 x139 x140 x141 x142 x17:Value} (h:XMid V g j nm L x134 x135 x136 x137 x138 x139 x140 x141 x142 x17 W) (k:GSt W W' g):XMid V g j nm L x134 x135 x136 x137 x138 x139 x140 x141 x142 x17 W' where
 st:=h.st.trans k
 l0:=fun e=>by obtain⟨b,e1,e2,e3⟩:=h.l0 e;exact⟨b,e1,k.bk e2 (by have:=h.st.lt;omega),e3⟩
 l1:=h.l1
 l2:=fun e=>by obtain⟨b,e1,e2,e3⟩:=h.l2 e;exact⟨b,e1,k.bk e2 (by have:=h.st.lt;omega),e3⟩
 l3:=h.l3
 l4:=h.l4
 l5:=h.l5
 l6:=h.l6
 l7:=fun e=>by obtain⟨b,p,e1,e2,e3,e4⟩:=h.l7 e;exact⟨b,p,e1,k.bk e2 (by have:=h.st.lt;omega),e3,e4⟩
 l8:=fun e=>by obtain⟨b,p,e1,e2,e3,e4⟩:=h.l8 e;exact⟨b,p,e1,k.bk e2 (by have:=h.st.lt;omega),e3,e4⟩
 l9:=fun e=>by obtain⟨b,e1,e2,e3⟩:=h.l9 e;exact⟨b,e1,k.bk e2 (by have:=h.st.lt;omega),e3⟩
def XMade (V W:World) (g:Nat) (nm:ByteArray) (x17:Value):Prop :=
 ∃xb b p,x17=.pointer (some ⟨xb,0,none⟩)∧0<=p∧p<2000∧TxAt V W g xb nm [(0,p)] ⟨some ⟨b,0,none⟩,1,1⟩
theorem own_bk2 {w:World} {b base:Nat} {x y:Int} (h:Bk w b 90 [.int .i64 x,.int .i64 y]) (hb:base<=b):w.ownsRow base 90 2 (.slice (some ⟨b,0,none⟩) 1 1) 1 (pcells [(x,y)]) :=
 ⟨rfl,.inr ⟨b,1,#[.int .i64 x,.int .i64 y],rfl,hb,h,by omega,by unfold maxLen;omega,rfl,rfl⟩⟩
theorem XMade.mk {V W:World} {g xb b:Nat} {nm:ByteArray} {p:Int} (st:GSt V W g) (hx:Bk W xb 93 [.string ⟨#[]⟩,.slice none 0 0]) (hg:V.heap.size<=xb) (hb:Bk W b 90 [.int .i64 0,.int .i64 p]) (hg2:V.heap.size<=b) (p0:0<=p) (p1:p<2000) :
 XMade V ((W.setCell ⟨xb,0,none⟩ (.string nm)).setCell ⟨xb,1,none⟩ (.slice (some ⟨b,0,none⟩) 1 1)) g nm (.pointer (some ⟨xb,0,none⟩)):=by
 have hne:b≠xb:=by
  intro e;subst e;unfold Bk at hx hb;rw[hx]at hb;cases hb
 have hb1:Bk (W.setCell ⟨xb,0,none⟩ (.string nm)) b 90 [.int .i64 0,.int .i64 p]:=hb.far hne _;have hb2:=hb1.far (p:=⟨xb,1,none⟩) hne (.slice (some ⟨b,0,none⟩) 1 1);exact⟨xb,b,p,rfl,p0,p1,⟨(st.set _ _ _ hg).set _ _ _ hg,(hx.set 0 _).set 1 _,hg,own_bk2 hb2 hg2⟩⟩
end
theorem lText4:text4.toList=[110,111,116,32,107,105,110,100,32,99,114,97,102,116,32,111,114,32,110,111,116,32,97,99,116,111,114,32,55,32,97,110,100,32,110,111,116,32,109,111,114,101,32,49,48,48,32,103,111,108,100]:=by decide +kernel
theorem two_kids {M:MkM} {w:World} {P:Nat->Prop} (h:M.Ok w 49 P) (hc:M.core=mark1):∃k0 k1 s,M=⟨sAnd,0,0,[k0,k1],s⟩∧s.n=2∧k0.a=4∧k1.op=sOr:=by
 obtain⟨op,a,b,ks,s⟩:=M;have hl:=h.len;have hcore:MkM.core ⟨op,a,b,ks,s⟩=.node op a b (ks.map MkM.core):=by simp[MkM.core,coreL_map]
 rw[hcore]at hc;unfold mark1 at hc;injection hc with h1 h2 h3 h4;subst h1 h2 h3;obtain⟨k0,ks1,rfl,e0,h4⟩:=List.map_eq_cons_iff.1 h4;obtain⟨k1,ks2,rfl,e1,h4⟩:=List.map_eq_cons_iff.1 h4;obtain rfl:=List.map_eq_nil_iff.1 h4;refine⟨k0,k1,s,rfl,hl,?_,?_⟩
 ·cases k0;simp only[MkM.core,Mk.node.injEq]at e0;exact e0.2.1
 ·cases k1;simp only[MkM.core,Mk.node.injEq]at e1;exact e1.1
theorem gold_its (W:World):ItsV (W.alloc (.cells #[.string ⟨#[103,111,108,100]⟩,.bool false,.bool false,.bool false,.int .i64 0,.int .i64 0,.int .i64 0] 76)) ⟨some ⟨W.heap.size,0,none⟩,1,1⟩ [goldIt] :=
 ⟨.inr ⟨W.heap.size,0,_,(0,0),rfl,Bk.new W 76 [.string ⟨#[103,111,108,100]⟩,.bool false,.bool false,.bool false,.int .i64 0,.int .i64 0,.int .i64 0],fun j u hu=>by rw[Nat.zero_add];rw[show[goldIt].flatMap It.cells=[.string ⟨#[103,111,108,100]⟩,.bool false,.bool false,.bool false,.int .i64 0,.int .i64 0,.int .i64 0] from rfl]at hu;simpa using hu⟩,rfl,(show(1:Nat)<=100000 by decide),by intro t ht;rw[List.mem_singleton.1 ht];decide⟩
theorem nil_rules (W:World):RulesV W sl0 []:=⟨.inl rfl,rfl,(show(0:Nat)<=100000 by decide),by intro t ht;cases ht⟩
def stepV:StepM:=⟨0,4,7,0,0,0,[],sl0⟩
theorem step_ok (W:World):stepV.Ok W:=⟨⟨.inl rfl,rfl,(show(0:Nat)<=1000 by decide)⟩,⟨by decide,by decide⟩,⟨by decide,by decide⟩,⟨by decide,by decide⟩,⟨by decide,by decide⟩,⟨by decide,by decide⟩⟩
theorem lives_any {W:World} (hT:Tab W) (hP:TabP W):Calls Tryz.prog 15 #[] W fun e w'=>e=.returned (.bool true)∧Below W.heap.size W w':=by
 have y0:Below W.heap.size W ((W.alloc (.cells #[.string ⟨#[103,111,108,100]⟩,.bool false,.bool false,.bool false,.int .i64 0,.int .i64 0,.int .i64 0] 76)).alloc (.cells #[.slice (some ⟨W.heap.size,0,none⟩) 1 1,.slice none 0 0,.slice none 0 0,.slice none 0 0] 28)):=((Below.refl _ _).alloc (Nat.le_refl _) _).alloc (by simp) _;have hg1:Below (W.alloc (.cells #[.string ⟨#[103,111,108,100]⟩,.bool false,.bool false,.bool false,.int .i64 0,.int .i64 0,.int .i64 0] 76)).heap.size (W.alloc (.cells #[.string ⟨#[103,111,108,100]⟩,.bool false,.bool false,.bool false,.int .i64 0,.int .i64 0,.int .i64 0] 76)) ((W.alloc (.cells #[.string ⟨#[103,111,108,100]⟩,.bool false,.bool false,.bool false,.int .i64 0,.int .i64 0,.int .i64 0] 76)).alloc (.cells #[.slice (some ⟨W.heap.size,0,none⟩) 1 1,.slice none 0 0,.slice none 0 0,.slice none 0 0] 28)):=(Below.refl _ _).alloc (Nat.le_refl _) _;have HG:=iH ((gold_its W).below hg1);have HCb0:Hid (Bk ((W.alloc (.cells #[.string ⟨#[103,111,108,100]⟩,.bool false,.bool false,.bool false,.int .i64 0,.int .i64 0,.int .i64 0] 76)).alloc (.cells #[.slice (some ⟨W.heap.size,0,none⟩) 1 1,.slice none 0 0,.slice none 0 0,.slice none 0 0] 28)) (W.heap.size+1) 28 [.slice (some ⟨W.heap.size,0,none⟩) 1 1,.slice none 0 0,.slice none 0 0,.slice none 0 0]):=by
  have:=Bk.new (W.alloc (.cells #[.string ⟨#[103,111,108,100]⟩,.bool false,.bool false,.bool false,.int .i64 0,.int .i64 0,.int .i64 0] 76)) 28 [.slice (some ⟨W.heap.size,0,none⟩) 1 1,.slice none 0 0,.slice none 0 0,.slice none 0 0];rw[World.size_alloc]at this;exact iH this
 have HIT:Hid (∀U,Below (((W.alloc (.cells #[.string ⟨#[103,111,108,100]⟩,.bool false,.bool false,.bool false,.int .i64 0,.int .i64 0,.int .i64 0] 76)).alloc (.cells #[.slice (some ⟨W.heap.size,0,none⟩) 1 1,.slice none 0 0,.slice none 0 0,.slice none 0 0] 28))).heap.size ((W.alloc (.cells #[.string ⟨#[103,111,108,100]⟩,.bool false,.bool false,.bool false,.int .i64 0,.int .i64 0,.int .i64 0] 76)).alloc (.cells #[.slice (some ⟨W.heap.size,0,none⟩) 1 1,.slice none 0 0,.slice none 0 0,.slice none 0 0] 28)) U->ItsV U ⟨some ⟨W.heap.size,0,none⟩,1,1⟩ [goldIt]):=iH fun U hU=>HG.out.below hU
 have HRU:Hid (∀U:World,RulesV U sl0 []):=iH nil_rules;have HT:=iH (hT.below y0 hT.1);have HP:=iH (hP.below y0 (by have:=hT.1;omega));have HY0:=iH y0;have K1:=iH (parse_any (m:=(⟨[goldIt],[],[],[],⟨some ⟨W.heap.size,0,none⟩,1,1⟩,sl0,sl0,sl0⟩:CatM)) text1 (by decide) (hT.below y0 hT.1) (HG.out) (nil_rules _));rw[lives1 (⟨[goldIt],[],[],[],⟨some ⟨W.heap.size,0,none⟩,1,1⟩,sl0,sl0,sl0⟩:CatM) rfl rfl]at K1;clear y0 hg1 hT hP;go_enter Tryz.func15,Tryz.ntmps15;go_wp2_with fail;refine K1.out.mono ?_;rintro e w1 ⟨M1,rfl,hc,hok,hb⟩;obtain⟨k0,k1,s,rfl,hn,ha0,ho1⟩:=two_kids hok hc;obtain⟨A,n,c⟩:=s;dsimp only at hn;subst hn;dsimp only;have HOK1:=iH hok;have HC1:=iH hc;have HMb:Hid (Bk (w1.alloc (.cells #[.string sAnd,.int .i64 0,.int .i64 0,.slice A 2 c] 49)) w1.heap.size 49 [.string sAnd,.int .i64 0,.int .i64 0,.slice A 2 c]):=iH (Bk.new w1 49 [.string sAnd,.int .i64 0,.int .i64 0,.slice A 2 c]);have hby:Below w1.heap.size w1 (w1.alloc (.cells #[.string sAnd,.int .i64 0,.int .i64 0,.slice A 2 c] 49)):=(Below.refl _ _).alloc (Nat.le_refl _) _;have HCb:=iH ((HCb0.out.below hb HCb0.out.lt).alloc (.cells #[.string sAnd,.int .i64 0,.int .i64 0,.slice A 2 c] 49));have HZ1:=iH (hb.trans (hby.mono hb.size));have HDN:Hid (Below ((w1.alloc (.cells #[.string sAnd,.int .i64 0,.int .i64 0,.slice A 2 c] 49))).heap.size (w1.alloc (.cells #[.string sAnd,.int .i64 0,.int .i64 0,.slice A 2 c] 49)) (((w1.alloc (.cells #[.string sAnd,.int .i64 0,.int .i64 0,.slice A 2 c] 49)).alloc (.cells #[.string sAnd,.int .i64 0,.int .i64 0,.slice A 2 c] 49)).drew)):=iH ((Below.refl _ _).alloc (Nat.le_refl _) _).drew;have HN:Hid (MkM.Ok (((w1.alloc (.cells #[.string sAnd,.int .i64 0,.int .i64 0,.slice A 2 c] 49)).alloc (.cells #[.string sAnd,.int .i64 0,.int .i64 0,.slice A 2 c] 49)).drew) 49 (fun _=>True) ⟨⟨#[110,111,116]⟩,0,0,[⟨sAnd,0,0,[k0,k1],⟨A,2,c⟩⟩],⟨some ⟨w1.heap.size+1,0,none⟩,1,1⟩⟩):=by
  refine iH (.mk _ _ _ _ _ ?_ rfl (show(1:Nat)<=100000 by decide) (by decide) ⟨by decide,by decide⟩ ⟨by decide,by decide⟩ fun k hk=>?_)
  ·have:=PRow.one (w:=(w1.alloc (.cells #[.string sAnd,.int .i64 0,.int .i64 0,.slice A 2 c] 49))) (⟨sAnd,0,0,[k0,k1],⟨A,2,c⟩⟩:MkM) (P:=fun _=>True) trivial;rw[World.size_alloc]at this;exact this
  ·rw[List.mem_singleton.1 hk];exact((hok.bel hby).bel HDN.out).any
 have HM1:=iH (hok.bel hby);clear hb hok hby K1 HCb0;go_wp2;refine wp_region_X (fun w'=>Bk w' (W.heap.size+1) 28 [.slice (some ⟨W.heap.size,0,none⟩) 1 1,.slice none 0 0,.slice none 0 0,.slice none 0 0]∧Bk w' w1.heap.size 49 [.string sAnd,.int .i64 0,.int .i64 0,.slice A 2 c]) 11 (n:=11) rfl (by kernel_rfl) (⟨HCb.out.drew,HMb.out.drew⟩) (fun hS=>?_);refine tU 0 (some 23) (v:=?_) rfl ⟨rfl,?_⟩ hS ?_;rotate_left
 ·intro w' hS';have e0:=hS'.1.k0;have e1:=hS'.1.k1;have e2:=hS'.1.k2;have e3:=hS'.1.k3;have el:=hS'.1.lt;(go_simp;try with_reducible rfl)
 refine tU 1 (some 24) (v:=?_) rfl ⟨rfl,?_⟩ hS ?_;rotate_left
 ·intro w' hS';have e0:=hS'.2.k0;have e1:=hS'.2.k1;have e2:=hS'.2.k2;have e3:=hS'.2.k3;have el:=hS'.2.lt;(go_simp;try with_reducible rfl)
 refine X_o 2 rfl fun K hK=>?_;go_simp;refine hK _ _ ⟨HCb.out.drew.alloc _,HMb.out.drew.alloc _⟩ ?_;clear hK;refine X_o 3 rfl fun K hK=>?_;go_simp;refine hK _ _ ⟨HCb.out.drew.alloc _,HMb.out.drew.alloc _⟩ ?_;clear hK;refine X_o 4 rfl fun K hK=>?_;go_simp;have K:Hid (Calls Tryz.prog 28 #[.agg #[.string ⟨#[110,111,116]⟩,.int .i64 0,.int .i64 0,.slice (some ⟨w1.heap.size+1,0,none⟩) 1 1]] _ _):=iH (normalM_any ⟨⟨#[110,111,116]⟩,0,0,[⟨sAnd,0,0,[k0,k1],⟨A,2,c⟩⟩],⟨some ⟨w1.heap.size+1,0,none⟩,1,1⟩⟩ _ _ HN.out);(with_reducible refine K.out.mono ?_);rintro e w2 ⟨M2,rfl,hcore,hok,hb⟩;have hgo:=HDN.out.trans (hb.mono HDN.out.size);have HCb2:=iH (HCb.out.below hgo HCb.out.lt);have HMb2:=iH (HMb.out.below hgo HMb.out.lt);have HZ2:=iH (HZ1.out.trans (hgo.mono HZ1.out.size));have HV2:=iH hgo;have HM2:=iH hok;have HC2:Hid (M2.core=(Mk.node sNot 0 0 [mark1]).norm false):=iH (by rw[hcore,<- HC1.out];rfl);refine hK _ _ ⟨HCb2.out,HMb2.out⟩ ?_;clear hK K hcore hok hb hgo;refine X_o 5 rfl fun K hK=>?_;go_simp;have K:=iH (print_any (m:=(⟨[goldIt],[],[],[],⟨some ⟨W.heap.size,0,none⟩,1,1⟩,sl0,sl0,sl0⟩:CatM)) (HT.out.below HZ2.out HT.out.1) (HP.out.below HZ2.out (by have:=HT.out.1;omega)) (HIT.out _ HZ2.out) (HRU.out _) HM2.out);(with_reducible refine K.out.mono ?_);rintro e w3 ⟨rfl,hb⟩;have HCb3:=iH (HCb2.out.below hb HCb2.out.lt);have HMb3:=iH (HMb2.out.below hb HMb2.out.lt);have HZ3:=iH (HZ2.out.trans (hb.mono HZ2.out.size));have HV3:=iH (HV2.out.trans (hb.mono HV2.out.size));refine hK _ _ ⟨HCb3.out,HMb3.out⟩ ?_;clear hK K hb;rw[show(List.map RuM.name ((⟨[goldIt],[],[],[],⟨some ⟨W.heap.size,0,none⟩,1,1⟩,sl0,sl0,sl0⟩:CatM)).rules)=[] from rfl,show(List.map It.name ((⟨[goldIt],[],[],[],⟨some ⟨W.heap.size,0,none⟩,1,1⟩,sl0,sl0,sl0⟩:CatM)).items)=[gold] from rfl,HC2.out,lives4,lives5];refine X_o 6 rfl fun K hK=>?_;go_simp;refine hK _ _ ⟨HCb3.out,HMb3.out⟩ ?_;clear hK;refine tU 7 (some 29) (v:=?_) rfl ⟨rfl,?_⟩ ⟨HCb3.out,HMb3.out⟩ ?_;rotate_left
 ·intro w' hS';(go_simp;try with_reducible rfl)
 refine tU 8 (some 30) (v:=?_) rfl ⟨rfl,?_⟩ ⟨HCb3.out,HMb3.out⟩ ?_;rotate_left
 ·intro w' hS';(go_simp;try with_reducible rfl)
 refine tU 9 (some 5) (v:=?_) rfl ⟨rfl,?_⟩ ⟨HCb3.out,HMb3.out⟩ ?_;rotate_left
 ·intro w' hS';(go_simp;try with_reducible rfl)
 refine tU 10 (some 6) (v:=?_) rfl ⟨rfl,?_⟩ ⟨HCb3.out,HMb3.out⟩ ?_;rotate_left
 ·intro w' hS';(go_simp;try with_reducible rfl)
 refine X_done (by kernel_rfl) ?_;clear hS;have d0:=HCb3.out.k0;have d1:=HCb3.out.k1;have d2:=HCb3.out.k2;have d3:=HCb3.out.k3;have dl:=HCb3.out.lt;have K2:=iH (parse_any (m:=(⟨[goldIt],[],[],[],⟨some ⟨W.heap.size,0,none⟩,1,1⟩,sl0,sl0,sl0⟩:CatM)) text2 (by decide) (HT.out.below HZ3.out HT.out.1) (HIT.out _ HZ3.out) (HRU.out _));rw[lives2 (⟨[goldIt],[],[],[],⟨some ⟨W.heap.size,0,none⟩,1,1⟩,sl0,sl0,sl0⟩:CatM) rfl rfl]at K2;go_wp2_with fail;refine K2.out.mono ?_;rintro e w4 ⟨rfl,hb⟩;have hb4:Below w3.heap.size w3 (w4.alloc (.cells #[.string ⟨#[]⟩,.int .i64 0,.int .i64 0,.slice none 0 0] 49)):=hb.alloc hb.size _;have HCb4:=iH (HCb3.out.below hb4 HCb3.out.lt);have HMb4:=iH (HMb3.out.below hb4 HMb3.out.lt);have HZ4:=iH (HZ3.out.trans (hb4.mono HZ3.out.size));have HV4:=iH (HV3.out.trans (hb4.mono HV3.out.size));clear K2 hb hb4 d0 d1 d2 d3 dl HCb3 HMb3;have d0:(w4.alloc (.cells #[.string ⟨#[]⟩,.int .i64 0,.int .i64 0,.slice none 0 0] 49)).cell? ⟨W.heap.size+1,0,none⟩=some (.slice (some ⟨W.heap.size,0,none⟩) 1 1):=HCb4.out.cell 0;have d1:(w4.alloc (.cells #[.string ⟨#[]⟩,.int .i64 0,.int .i64 0,.slice none 0 0] 49)).cell? ⟨W.heap.size+1,1,none⟩=some (.slice none 0 0):=HCb4.out.cell 1;have d2:(w4.alloc (.cells #[.string ⟨#[]⟩,.int .i64 0,.int .i64 0,.slice none 0 0] 49)).cell? ⟨W.heap.size+1,2,none⟩=some (.slice none 0 0):=HCb4.out.cell 2;have d3:(w4.alloc (.cells #[.string ⟨#[]⟩,.int .i64 0,.int .i64 0,.slice none 0 0] 49)).cell? ⟨W.heap.size+1,3,none⟩=some (.slice none 0 0):=HCb4.out.cell 3;have dl:=HCb4.out.lt;have K3:=iH (parse_any (m:=(⟨[goldIt],[],[],[],⟨some ⟨W.heap.size,0,none⟩,1,1⟩,sl0,sl0,sl0⟩:CatM)) text3 (by decide) (HT.out.below HZ4.out HT.out.1) (HIT.out _ HZ4.out) (HRU.out _));rw[lives3 (⟨[goldIt],[],[],[],⟨some ⟨W.heap.size,0,none⟩,1,1⟩,sl0,sl0,sl0⟩:CatM) rfl rfl]at K3;go_wp2_with fail;refine K3.out.mono ?_;rintro e w5 ⟨rfl,hb⟩;have hb5:Below (w4.alloc (.cells #[.string ⟨#[]⟩,.int .i64 0,.int .i64 0,.slice none 0 0] 49)).heap.size (w4.alloc (.cells #[.string ⟨#[]⟩,.int .i64 0,.int .i64 0,.slice none 0 0] 49)) (w5.alloc (.cells #[.string ⟨#[]⟩,.int .i64 0,.int .i64 0,.slice none 0 0] 49)):=hb.alloc hb.size _;have HMb5:=iH (HMb4.out.below hb5 HMb4.out.lt);have HZ5:=iH (HZ4.out.trans (hb5.mono HZ4.out.size));have HV5:=iH (HV4.out.trans (hb5.mono HV4.out.size));clear K3 hb hb5 d0 d1 d2 d3 dl HCb4 HMb4 HZ4 HZ3;have HM5:=iH (HM1.out.bel HV5.out);obtain⟨bb,off,hA,hbb,c0,c1,c2,c3⟩:=HM5.out.at_ 0 (by simp);obtain⟨bb',off',hA',_,e0,e1,e2,e3⟩:=HM5.out.at_ 1 (by simp);dsimp only[MkM.ks,MkM.s]at hA hA';rw[hA]at hA';cases hA';subst hA;simp only[Nat.zero_mul,Nat.add_zero,Nat.one_mul,List.getElem_cons_zero,List.getElem_cons_succ]at c0 c1 c2 c3 e0 e1 e2 e3;rw[ha0]at c1;rw[ho1]at e0;have m0:(w5.alloc (.cells #[.string ⟨#[]⟩,.int .i64 0,.int .i64 0,.slice none 0 0] 49)).cell? ⟨w1.heap.size,0,none⟩=some (.string sAnd):=HMb5.out.cell 0;have m1:(w5.alloc (.cells #[.string ⟨#[]⟩,.int .i64 0,.int .i64 0,.slice none 0 0] 49)).cell? ⟨w1.heap.size,1,none⟩=some (.int .i64 0):=HMb5.out.cell 1;have m2:(w5.alloc (.cells #[.string ⟨#[]⟩,.int .i64 0,.int .i64 0,.slice none 0 0] 49)).cell? ⟨w1.heap.size,2,none⟩=some (.int .i64 0):=HMb5.out.cell 2;have m3:(w5.alloc (.cells #[.string ⟨#[]⟩,.int .i64 0,.int .i64 0,.slice none 0 0] 49)).cell? ⟨w1.heap.size,3,none⟩=some (.slice (some ⟨bb,off,none⟩) 2 c):=HMb5.out.cell 3;have ml:=HMb5.out.lt;have q1:sAnd.toList=[97,110,100]:=lAnd;have q2:sOr.toList=[111,114]:=lOr;have q3:=lText4;have K6:=iH (matches_any stepV ⟨sAnd,0,0,[k0,k1],⟨some ⟨bb,off,none⟩,2,c⟩⟩ _ _ HM5.out (step_ok _));rw[HC1.out,lives6 stepV rfl rfl]at K6;have K7:Hid (Calls Tryz.prog 23 #[.agg #[.string sAnd,.int .i64 0,.int .i64 0,.slice (some ⟨bb,off,none⟩) 2 c],.agg #[.int .i64 0,.int .i64 4,.int .i64 7,.int .i64 0,.int .i64 0,.int .i64 0,.slice none 0 0]] _ _):=iH K6.out;have HYE:=iH (HY0.out.trans (HZ5.out.mono HY0.out.size));clear K6;go_wp2_with fail;refine K7.out.mono ?_;rintro e w6 ⟨rfl,hb⟩;have HYF:=iH (HYE.out.trans (hb.mono HYE.out.size));clear hb K7;go_wp2;go_ret;exact⟨rfl,HYF.out⟩
theorem row_str (l:List ByteArray) (j:Nat) (hj:j<l.length) (w:World):(w.alloc (.cells (l.map Value.string).toArray 9)).cell? ⟨w.heap.size,j,none⟩=some (.string l[j]):=by
 rw[(Bk.new w 9 (l.map Value.string)).cell j];simp[hj]
def words:List ByteArray:=[⟨#[32,97,110,100,32]⟩,⟨#[32,111,114,32]⟩,⟨#[32,110,111,116,32]⟩,⟨#[32,40,32]⟩,⟨#[32,41,32]⟩,⟨#[32,107,105,110,100,32,116,114,97,100,101,32]⟩,⟨#[32,97,99,116,111,114,32,51,32]⟩,⟨#[32,114,117,108,101,32,115,109,101,108,116,32]⟩,⟨#[32,116,105,99,107,32,50,46,46,57,32]⟩,⟨#[32,105,116,101,109,32,103,111,108,100,32]⟩,⟨#[32,109,111,114,101,32,53,32,103,111,108,100,32]⟩,⟨#[32,115,116,101,112,32,49,32,46,32,46,32,52,32]⟩,⟨#[32,97,99,99,111,117,110,116,32,49,48,55,51,55,52,49,56,50,53,32]⟩,⟨#[32,107,105,110,100,32,115,109,105,116,104,32]⟩,⟨#[32,105,116,101,109,32,110,111,116,104,105,110,103,32]⟩,⟨#[32,116,105,99,107,32,57,46,46,50,32]⟩,⟨#[32,55,32]⟩,⟨#[32,46,46,32]⟩,⟨#[32,35,32,99,10]⟩,⟨#[]⟩,⟨#[45]⟩,⟨#[32,120,32]⟩]
theorem pair_row (a b:ByteArray) (n:Nat) (ha:a.size<=n) (hb:b.size<=n) (j:Nat) (hj:j<2):∃x:ByteArray,x.size<=n∧∀w:World,(w.alloc (.cells #[.string a,.string b] 9)).cell? ⟨w.heap.size,j,none⟩=some (.string x) :=
 ⟨[a,b][j]'hj,by
  have:=List.getElem_mem (l:=[a,b]) hj
  simp only[List.mem_cons,List.not_mem_nil,or_false]at this
  rcases this with e|e <;> rw[e] <;> assumption,fun w=>row_str [a,b] j hj w⟩
def MInv (W:World) (q:Int) (wr:World) (v i:Value):Prop:=∃(s:ByteArray) (k:Nat),v=.string s∧i=.int .i64 k∧(k:Int)<=q∧s.size<=30*k∧Below W.heap.size W wr
theorem nil_its (W:World):ItsV W sl0 []:=⟨.inl rfl,rfl,(show(0:Nat)<=100000 by decide),by intro t ht;cases ht⟩
theorem many_walk {W:World} {n how:Int} (hn:In64 n) (hh:In64 how) (hT:Tab W) (hP:TabP W) :
 Calls Tryz.prog 4 #[.int .i64 n,.int .i64 how] W fun e w'=>e=.returned (.bool true)∧Below W.heap.size W w':=by
 have a1:=around_lo n 80 (by decide);have a2:=around_hi n 80 (by decide);have b1:=around_lo how 2 (by decide);have b2:=around_hi how 2 (by decide);have q1:In64 (wrap64 (how.tdiv 2)):=⟨by unfold wrap64;omega,by unfold wrap64;omega⟩;have c1:=around_lo (wrap64 (how.tdiv 2)) 21 (by decide);have c2:=around_hi (wrap64 (how.tdiv 2)) 21 (by decide);have KN:=iH fun w=>around_any n 80 w hn.1 hn.2 (by decide) (by decide)
 have KP:=iH fun w=>around_any how 2 w hh.1 hh.2 (by decide) (by decide)
 have KQ:=iH fun w=>around_any (wrap64 (how.tdiv 2)) 21 w q1.1 q1.2 (by decide) (by decide)
 have HT:=iH hT;have HP:=iH hP;obtain⟨j,hj⟩:∃j:Nat,around how 2=j:=⟨(around how 2).toNat,by omega⟩;rw[hj]at KP b1 b2;obtain⟨x,hx,hc⟩:=pair_row ⟨#[32,111,114,32]⟩ ⟨#[32,97,110,100,32]⟩ 5 (by decide) (by decide) j (by omega);have HX:=iH hx;have HC:=iH hc;have KE:Hid (∀(s:ByteArray) (U:World),s.size<=8192->Below W.heap.size W U->Calls Tryz.prog 14 #[.agg #[.slice none 0 0,.slice none 0 0,.slice none 0 0,.slice none 0 0],.string s] U fun e w'=>e=.returned (.bool true)∧Below U.heap.size U w') :=
  iH fun s U hs hb=>parses_any (m:={ si:=sl0,sr:=sl0,st:=sl0,sx:=sl0,items:=[],rules:=[],tables:=[],taxes:=[] }) s hs (HT.out.below hb HT.out.1) (nil_its U) (nil_rules U)
 clear hj hx hc hT hP hn hh q1;generalize around n 80=q at *;generalize around (wrap64 (how.tdiv 2)) 21=z at *;go_enter Tryz.func4,Tryz.ntmps4;go_wp2_with fail;refine(KN.out _).mono ?_;rintro e w' ⟨rfl,rfl⟩;clear KN;go_wp2_with fail;go_loopw [5,7] (fun v i wr=>MInv W (1+q) wr v i) (fun _ i _=>(1+q).toNat-(intOf i).toNat)
 case atStart=>exact⟨⟨#[]⟩,0,rfl,rfl,by omega,by decide,Below.refl _ _⟩
 case round =>
  obtain⟨s,k,rfl,rfl,hk,hs,hb⟩:=hrel;have HB:=iH hb;have HS:=iH hs;clear hb hs;by_cases hlt:(k:Int)<1+q
  ·rcases Nat.eq_zero_or_pos k with h0 | h0
   ·have hk0:decide (0<k)=false:=by simpa using h0
    have hs3:s.size<=2430:=by have:=HS.out;omega
    have Hk0:=iH h0;clear h0;go_wp2_with fail;refine(KQ.out _).mono ?_;rintro e w' ⟨rfl,rfl⟩;clear KQ;go_wp2_with fail
    all_goals
     go_roundw
     case rel=>exact⟨_,k+1,rfl,by go_num,by omega,by have z1:(⟨#[40]⟩:ByteArray).size=1:=rfl;have z2:(⟨#[97,99,116,111,114,32,49,41]⟩:ByteArray).size=8:=rfl;have z3:(⟨#[116,105,99,107,32,49,46,46,50]⟩:ByteArray).size=9:=rfl;have:=HS.out;simp only[ByteArray.size_append,z1,z2,z3];omega,HB.out⟩
     case measure=>simp[intOf];omega
   ·have h1:(0:Int)<k:=by omega
    have hcw:=HC.out wr;have hs3:s.size<=2430:=by have:=HS.out;omega
    have hx3:=HX.out;have HB2:=iH (HB.out.alloc HB.out.size (.cells #[.string ⟨#[32,111,114,32]⟩,.string ⟨#[32,97,110,100,32]⟩] 9));go_wp2_with fail;refine(KP.out _).mono ?_;rintro e w' ⟨rfl,rfl⟩;clear KP;go_wp2_with fail;refine(KQ.out _).mono ?_;rintro e w' ⟨rfl,rfl⟩;clear KQ;go_wp2_with fail
    all_goals
     go_roundw
     case rel=>exact⟨_,k+1,rfl,by go_num,by omega,by have z1:(⟨#[40]⟩:ByteArray).size=1:=rfl;have z2:(⟨#[97,99,116,111,114,32,49,41]⟩:ByteArray).size=8:=rfl;have z3:(⟨#[116,105,99,107,32,49,46,46,50]⟩:ByteArray).size=9:=rfl;have:=HS.out;have:=HX.out;simp only[ByteArray.size_append,z1,z2,z3];omega,HB2.out⟩
     case measure=>simp[intOf];omega
  ·have KEE:=iH (KE.out s wr (by have:=HS.out;omega) HB.out);go_wp2_with fail;refine KEE.out.mono ?_;rintro e w1 ⟨rfl,hb1⟩;have HB1:=iH (HB.out.trans (hb1.mono HB.out.size));have KL:=iH (lives_any (HT.out.below HB1.out HT.out.1) (HP.out.below HB1.out (by have:=HT.out.1;omega)));clear KE KEE hb1;go_wp2_with fail;refine KL.out.mono ?_;rintro e w2 ⟨rfl,hb2⟩;have HB2:=iH (HB1.out.trans (hb2.mono HB1.out.size));clear KL hb2;go_wp2;go_ret;exact⟨rfl,HB2.out⟩
section
open Go.ChangeAt Go.ChangeShapes Go.WideShapes
set_option linter.unusedVariables false
set_option linter.unusedSimpArgs false
section
theorem ownOff:ownKnob Tryz.prog.godebug=none:=by kernel_rfl
theorem gKinds : Tryz.prog.globalNamed "worldmint/lexer.kinds" = some 1 := by kernel_rfl
theorem kindsType:(Tryz.prog.globals[1]?).map (·.type)=some 222:=by kernel_rfl
theorem kindsU:Tryz.prog.underlying 222=some (.array 128 5):=by kernel_rfl
theorem u8U:Tryz.prog.underlying 5=some (.int .u8):=by kernel_rfl
theorem u8C:Tryz.prog.cellsOf 5=1:=by kernel_rfl
theorem kindsC:Tryz.prog.cellsOf 222=128:=by kernel_rfl
theorem table_of {W : World} (h : laidMetH Tryz.prog [("math/bits.deBruijn32tab", Rows.laid_math_bits_deBruijn32tab), ("math/bits.deBruijn64tab", Rows.laid_math_bits_deBruijn64tab), ("internal/strconv.uint64pow10", Rows.laid_internal_strconv_uint64pow10), ("worldmint/lexer.kinds", Rows.laid_worldmint_lexer_kinds)] W) : Tab W := by
 have h' := laidMetH.filter (fun x => x.1 == "worldmint/lexer.kinds") h
 have ht : Lib.TabIs Tryz.prog W "worldmint/lexer.kinds" .u8 kindL := Lib.tabIs_of_head (rest := []) gKinds kindsType kindsU u8U u8C kindsC h'
 have hc:∀i,i<128->W.cell? ⟨1,i,none⟩=some (.int .u8 (kindOf i)):=fun i hi=>by
  have:=ht.cell gKinds i hi;simpa[kindOf]using this
 refine⟨?_,hc⟩;have:=hc 0 (by omega);rcases Nat.lt_or_ge 1 W.heap.size with h|h
 ·exact h
 ·simp[World.cell?,Array.getElem?_eq_none h]at this
end
end
section
open Go.ChangeAt Go.ChangeShapes Go.WideShapes
theorem powType:(Tryz.prog.globals[0]?).map (·.type)=some 216:=by kernel_rfl
theorem powU:Tryz.prog.underlying 216=some (.array 20 208):=by kernel_rfl
theorem u64U:Tryz.prog.underlying 208=some (.int .u64):=by kernel_rfl
theorem u64C:Tryz.prog.cellsOf 208=1:=by kernel_rfl
theorem powC:Tryz.prog.cellsOf 216=20:=by kernel_rfl
theorem pow_of {W : World} (h : laidMetH Tryz.prog [("math/bits.deBruijn32tab", Rows.laid_math_bits_deBruijn32tab), ("math/bits.deBruijn64tab", Rows.laid_math_bits_deBruijn64tab), ("internal/strconv.uint64pow10", Rows.laid_internal_strconv_uint64pow10), ("worldmint/lexer.kinds", Rows.laid_worldmint_lexer_kinds)] W) : TabP W := by
 have h' := laidMetH.filter (fun x => x.1 == "internal/strconv.uint64pow10") h
 exact Lib.tabIs_of_head (rest:=[]) gPow powType powU u64U u64C powC h'
def litVals (d:DataW Unit):List Value:=match d with
 | .agg l=>l.filterMap fun | .lit (.int k z)=>some (Value.int k z) | _=>none
 | _=>[]
def putL (xs:List Value):Obj->Obj
 | .cells _ t frozen=>.cells xs.toArray t frozen
 | o=>o
noncomputable def laidW4 (os:Os):World :=
 { World.holding Tryz.prog os ⟨#[],#[],[]⟩with heap:=((((World.holding Tryz.prog os ⟨#[],#[],[]⟩).heap.modify 0 (putL (litVals Rows.laid_internal_strconv_uint64pow10))).modify 1 (putL (litVals Rows.laid_worldmint_lexer_kinds))).modify 2 (putL (litVals Rows.laid_math_bits_deBruijn32tab))).modify 3 (putL (litVals Rows.laid_math_bits_deBruijn64tab)) }
end
end Go.Proofs.YtocodlpgaamblaaGreatDoor
