/- The generator's rule: the region that makes it. -/
import Derived.Test.YtiecjoijnkghbaaGreatDoorY6
import Derived.Test.YtiecjoijnkghbaaGreatDoorY7
import Derived.Test.YtiecjoijnkghbaaGreatDoorY9
import Derived.RegionTactic
import Derived.Deep.DeepCutAuto
import Derived.Deep.CutBlock
import Derived.Deep.AppendLies
import Derived.Deep.RegionLaw
set_option linter.unusedVariables false
set_option linter.unusedSimpArgs false
set_option maxRecDepth 100000
set_option maxHeartbeats 8000000
open Go.RowKit
namespace Go.Proofs.YtiecjoijnkghbaaGreatDoor
section
set_option linter.unusedVariables false
set_option linter.unusedSimpArgs false
section
theorem own_base {W:World} {B B' e size n:Nat} {v:Value} {xs:List Value} (h:W.ownsRow B e size v n xs) (hB:B'<=B):W.ownsRow B' e size v n xs:=by
 refine⟨h.1,?_⟩;rcases h.2 with h0|⟨g,cap,cur,hv,hb,h1⟩
 ·exact .inl h0
 ·exact .inr ⟨g,cap,cur,hv,Nat.le_trans hB hb,h1⟩
def AmRow (V W:World) (n most:Nat) (x:Value):Prop:=∃l,W.ownsRow V.heap.size 151 2 x l.length (pcells l)∧Am n l∧l.length<=most
theorem AmRow.go {V W W':World} {g n most:Nat} {x:Value} (h:AmRow V W n most x) (k:GSt W W' g) (hg:g<V.heap.size):AmRow V W' n most x:=by
 obtain⟨l,h1,h2,h3⟩:=h;exact⟨l,k.own h1 (fun e=>by have:=row_base h1 g e;omega),h2,h3⟩
theorem row_neT {W:World} {base:Nat} {e t:TypeId} {size n g:Nat} {v:Value} {xs ys:List Value} (h:W.ownsRow base e size v n xs) (hg:Bk W g t ys) (hne:e≠t):v.ownBlock≠some g:=by
 intro hv;rcases h.2 with ⟨h0,_⟩|⟨g',cap,cur,h1,_,hc,_⟩
 ·rw[h0]at hv;cases hv
 ·rw[h1]at hv;cases hv;unfold Bk at hg;rw[hc]at hg;cases hg;exact hne rfl
theorem four_at (j:Nat) (h:j<4):∃a:Int,([.int .i64 0,.int .i64 3,.int .i64 5,.int .i64 20]:List Value)[j]? = some (.int .i64 a)∧0<=a∧a<=20:=by
 rcases(show j=0∨j=1∨j=2∨j=3 by omega)with rfl|rfl|rfl|rfl
 ·exact⟨0,rfl,by omega,by omega⟩
 ·exact⟨3,rfl,by omega,by omega⟩
 ·exact⟨5,rfl,by omega,by omega⟩
 ·exact⟨20,rfl,by omega,by omega⟩
structure RMid (V : World) (g : Nat) (nm : ByteArray) (n : Nat) (L : Nat -> Bool) (x7 x10 x11 x12 x13 x14 x15 x16 x17 x18 x19 x20 x21 x22 x23 x24 : Value) (W : World) : Prop where
 st:GSt V W g
 l0:L 0=true->x10=.string nm
 l1:L 1=true->x11=.pointer (some ⟨g,0,none⟩)
 l2:L 2=true->∃a,x12=.int .i64 a∧0<=a∧a<4
 l3:L 3=true->∃b,x13=.slice (some ⟨b,0,none⟩) 4 4∧Bk W b 3 [.int .i64 0,.int .i64 3,.int .i64 5,.int .i64 20]∧V.heap.size<=b
 l4:L 4=true->x14=.pointer (some ⟨g,0,none⟩)
 l5:L 5=true->∃j:Nat,x15=.int .i64 j∧j<4
 l6:L 6=true->∃b j,x16=.pointer (some ⟨b,j,none⟩)∧j<4∧Bk W b 3 [.int .i64 0,.int .i64 3,.int .i64 5,.int .i64 20]∧V.heap.size<=b
 l7:L 7=true->∃a,x17=.int .i64 a∧0<=a∧a<=20
 l8:L 8=true->x18=.pointer (some ⟨g,0,none⟩)
 l9:L 9=true->x19=.int .i64 (n:Int)
 l10:L 10=true->AmRow V W n 3 x20
 l11:L 11=true->x21=.pointer (some ⟨g,0,none⟩)
 l12:L 12=true->x22=.int .i64 (n:Int)
 l13:L 13=true->AmRow V W n 2 x23
 l14:L 14=true->∃a t v1 v2,x24=.agg #[.string nm,.bool false,.int .i64 a,.int .i64 t,.int .i64 1,.int .i64 1,v1,v2,.slice none 0 0]∧(0<=a∧a<4)∧(0<=t∧t<=20)∧AmRow V W n 3 v1∧AmRow V W n 2 v2
 l15:L 15=true->∃b,x7=.pointer (some ⟨b,0,none⟩)∧Bk W b 149 [.string ⟨#[]⟩,.bool false,.int .i64 0,.int .i64 0,.int .i64 0,.int .i64 0,.slice none 0 0,.slice none 0 0,.slice none 0 0]∧V.heap.size<=b
theorem RMid.go {V W W':World} {g:Nat} {nm:ByteArray} {n:Nat} {L:Nat->Bool} {x7 x10 x11 x12 x13 x14 x15 x16 x17 x18 x19 x20 x21 x22 x23 x24:Value} (h:RMid V g nm n L x7 x10 x11 x12 x13 x14 x15 x16 x17 x18 x19 x20 x21 x22 x23 x24 W) (k:GSt W W' g):RMid V g nm n L x7 x10 x11 x12 x13 x14 x15 x16 x17 x18 x19 x20 x21 x22 x23 x24 W' where
 st:=h.st.trans k
 l0:=h.l0
 l1:=h.l1
 l2:=h.l2
 l3:=fun e=>by obtain⟨b,e1,e2,e3⟩:=h.l3 e;exact⟨b,e1,k.bk e2 (by have:=h.st.lt;omega),e3⟩
 l4:=h.l4
 l5:=h.l5
 l6:=fun e=>by obtain⟨b,j,e1,e0,e2,e3⟩:=h.l6 e;exact⟨b,j,e1,e0,k.bk e2 (by have:=h.st.lt;omega),e3⟩
 l7:=h.l7
 l8:=h.l8
 l9:=h.l9
 l10:=fun e=>(h.l10 e).go k h.st.lt
 l11:=h.l11
 l12:=h.l12
 l13:=fun e=>(h.l13 e).go k h.st.lt
 l14:=fun e=>by obtain⟨a,t,v1,v2,e1,e2,e3,e4,e5⟩:=h.l14 e;exact⟨a,t,v1,v2,e1,e2,e3,e4.go k h.st.lt,e5.go k h.st.lt⟩
 l15:=fun e=>by obtain⟨b,e1,e2,e3⟩:=h.l15 e;exact⟨b,e1,k.bk e2 (by have:=h.st.lt;omega),e3⟩
def RMade (V W:World) (g:Nat) (nm:ByteArray) (n:Nat) (x7:Value):Prop :=
 ∃b a t v1 v2,x7=.pointer (some ⟨b,0,none⟩)∧Bk W b 149 [.string nm,.bool false,.int .i64 a,.int .i64 t,.int .i64 1,.int .i64 1,v1,v2,.slice none 0 0]∧V.heap.size<=b∧(0<=a∧a<4)∧(0<=t∧t<=20)∧AmRow V W n 3 v1∧AmRow V W n 2 v2∧GSt V W g
theorem AmRow.slice {V W:World} {n m:Nat} {x:Value} (h:AmRow V W n m x):∃A k c,x=.slice A k c:=by
 obtain⟨l,h1,_⟩:=h;obtain⟨A,c,h2,_⟩:=row_of_owns h1;exact⟨A,_,c,h2⟩
theorem AmRow.set {V W:World} {n m b k:Nat} {x u:Value} {xs:List Value} (h:AmRow V W n m x) (hb:Bk W b 149 xs):AmRow V (W.setCell ⟨b,k,none⟩ u) n m x:=by
 obtain⟨l,h1,h2,h3⟩:=h;exact⟨l,h1.kept (grown_setCell W b k u) (.inr (row_neT h1 hb (by decide))),h2,h3⟩
structure RuAt (V W : World) (B0 g rb b : Nat) (nm : ByteArray) (le ti ch of_ : Int) (s1 s2 : Sl) (vb : Value) (tk gv bk : List P2) : Prop where
 st:GSt V W g
 res:Bk W rb 149 [.string ⟨#[]⟩,.bool false,.int .i64 0,.int .i64 0,.int .i64 0,.int .i64 0,.slice none 0 0,.slice none 0 0,.slice none 0 0]
 rlt:rb<V.heap.size
 rne:rb≠g
 bx:Bk W b 149 [.string nm,.bool false,.int .i64 le,.int .i64 ti,.int .i64 ch,.int .i64 of_,.slice s1.A s1.n s1.c,.slice s2.A s2.n s2.c,vb]
 ge:V.heap.size<=b
 take:PrV W 151 s1 tk
 give:PrV W 151 s2 gv
 tfar:∀b' o,s1.A=some ⟨b',o,none⟩->b'<B0
 gfar:∀b' o,s2.A=some ⟨b',o,none⟩->b'<B0
 own:W.ownsRow B0 151 2 vb bk.length (pcells bk)
 b0:V.heap.size<=B0
 b1:B0<=W.heap.size
theorem prV_own {W:World} {base n:Nat} {A:Option Addr} {c:Nat} {l:List P2} (h:W.ownsRow base 151 2 (.slice A l.length c) l.length (pcells l)) (hA:Am n l) (hn:n<=1000) (hl:l.length<=100000):PrV W 151 ⟨A,l.length,c⟩ l :=
 ⟨TRow.of_own h,rfl,hl,fun p hp=>by have:=hA.2 p hp;omega⟩
section
variable {V W W' : World} {B0 g rb b : Nat} {nm : ByteArray} {le ti ch of_ : Int} {s1 s2 : Sl} {vb : Value} {tk gv bk : List P2}
theorem RuAt.gb (h:RuAt V W B0 g rb b nm le ti ch of_ s1 s2 vb tk gv bk):b≠g:=by have:=h.st.lt;have:=h.ge;omega
theorem RuAt.next (h:RuAt V W B0 g rb b nm le ti ch of_ s1 s2 vb tk gv bk) (k:GSt W W' g):RuAt V W' B0 g rb b nm le ti ch of_ s1 s2 vb tk gv bk:=by
 have hk:=k.keep h.st.ok 151 (by decide);have hlt:=h.st.lt;have h0:=h.b0;exact⟨h.st.trans k,k.bk h.res h.rne,h.rlt,h.rne,k.bk h.bx h.gb,h.ge,h.take.keep hk,h.give.keep hk,h.tfar,h.gfar,k.own h.own (fun e=>by have:=row_base h.own g e;omega),h.b0,Nat.le_trans h.b1 k.size⟩
theorem RuAt.setAny (h:RuAt V W B0 g rb b nm le ti ch of_ s1 s2 vb tk gv bk) (j:Nat) (u:Value) {le' ti' ch' of':Int} {vb':Value} {bk':List P2}
 (hu:[Value.string nm,.bool false,.int .i64 le,.int .i64 ti,.int .i64 ch,.int .i64 of_,.slice s1.A s1.n s1.c,.slice s2.A s2.n s2.c,vb].set j u=[.string nm,.bool false,.int .i64 le',.int .i64 ti',.int .i64 ch',.int .i64 of',.slice s1.A s1.n s1.c,.slice s2.A s2.n s2.c,vb']) (hv:W.ownsRow B0 151 2 vb' bk'.length (pcells bk')) :
 RuAt V (W.setCell ⟨b,j,none⟩ u) B0 g rb b nm le' ti' ch' of' s1 s2 vb' tk gv bk':=by
 have hg:=grown_setCell W b j u;have hk:Keep 151 W (W.setCell ⟨b,j,none⟩ u):=Keep.setCell h.bx (by decide) u;have h1:=h.ge;have h2:=h.rlt;exact⟨h.st.set _ _ _ h.ge,h.res.far (by simp;omega) _,h.rlt,h.rne,by rw[<- hu];exact h.bx.set j u,h.ge,h.take.keep hk,h.give.keep hk,h.tfar,h.gfar,hv.kept hg (.inr (row_neT hv h.bx (by decide))),h.b0,Nat.le_trans h.b1 hg.size⟩
theorem RuAt.set5 (h:RuAt V W B0 g rb b nm le ti ch of_ s1 s2 vb tk gv bk) (x:Int):RuAt V (W.setCell ⟨b,5,none⟩ (.int .i64 x)) B0 g rb b nm le ti ch x s1 s2 vb tk gv bk:=h.setAny 5 _ rfl h.own
theorem RuAt.set4 (h:RuAt V W B0 g rb b nm le ti ch of_ s1 s2 vb tk gv bk) (x:Int):RuAt V (W.setCell ⟨b,4,none⟩ (.int .i64 x)) B0 g rb b nm le ti x of_ s1 s2 vb tk gv bk:=h.setAny 4 _ rfl h.own
theorem RuAt.set3 (h:RuAt V W B0 g rb b nm le ti ch of_ s1 s2 vb tk gv bk) (x:Int):RuAt V (W.setCell ⟨b,3,none⟩ (.int .i64 x)) B0 g rb b nm le x ch of_ s1 s2 vb tk gv bk:=h.setAny 3 _ rfl h.own
theorem RuAt.app (h:RuAt V W B0 g rb b nm le ti ch of_ s1 s2 vb tk gv bk) {bk':List P2} {vb':Value} (hg:W.grownBy W' vb.ownBlock) (hv:W'.ownsRow B0 151 2 vb' bk'.length (pcells bk')) :
 Bk W' b 149 [.string nm,.bool false,.int .i64 le,.int .i64 ti,.int .i64 ch,.int .i64 of_,.slice s1.A s1.n s1.c,.slice s2.A s2.n s2.c,vb] ∧
 RuAt V (W'.setCell ⟨b,8,none⟩ vb') B0 g rb b nm le ti ch of_ s1 s2 vb' tk gv bk':=by
 have hbase:=row_base h.own;have h0:=h.b0;have h2:=h.rlt;have kb:=h.bx.grown hg (fun e=>row_neT h.own h.bx (by decide) e.symm);refine⟨kb,?_⟩;have kp:∀ {s:Sl} {l:List P2},PrV W 151 s l->(∀b' o,s.A=some ⟨b',o,none⟩->b'<B0)->PrV W' 151 s l:=fun{s l} hp hf=>by
  refine⟨?_,hp.len,hp.small,hp.wf⟩;rcases hp.row with h1|⟨b1,off,cur,fl,e1,e2,e3⟩
  ·exact .inl h1
  ·refine .inr ⟨b1,off,cur,fl,e1,(hg.block b1 (Array.getElem?_eq_some_iff.1 e2).1 (fun e=>?_)).trans e2,e3⟩;have h3:=hf b1 off e1;have h4:=hbase b1 e.symm;omega
 have st':GSt V W' g:=h.st.grow hg (fun b1 e=>Nat.le_trans h0 (hbase b1 e));have hR':RuAt V W' B0 g rb b nm le ti ch of_ s1 s2 vb tk gv bk∨True:=.inr trivial;have hg2:=grown_setCell W' b 8 vb';have hk:Keep 151 W' (W'.setCell ⟨b,8,none⟩ vb'):=Keep.setCell kb (by decide) vb';have res':Bk W' rb 149 [.string ⟨#[]⟩,.bool false,.int .i64 0,.int .i64 0,.int .i64 0,.int .i64 0,.slice none 0 0,.slice none 0 0,.slice none 0 0]:=h.res.grown hg (fun e=>by have:=hbase rb e.symm;omega);have h1:=h.ge;exact⟨st'.set _ _ _ h.ge,res'.far (by simp;omega) _,h.rlt,h.rne,kb.set 8 vb',h.ge,(kp h.take h.tfar).keep hk,(kp h.give h.gfar).keep hk,h.tfar,h.gfar,hv.kept hg2 (.inr (row_neT hv kb (by decide))),h.b0,Nat.le_trans h.b1 (Nat.le_trans hg.size hg2.size)⟩
end
def ruSmall (n:Nat) (r:RuM):Prop:=r.take.length<=n∧r.give.length<=n∧r.back.length<=n
def RuleG (V:World) (g n:Nat) (nm:ByteArray) (e:Ending) (W:World):Prop :=
 ∃r:RuM,e=.returned r.val∧r.Ok W∧r.name=nm∧wfR n r=true∧rgR r=true∧ruLim r=true∧ruSmall 3 r∧GSt V W g
theorem RuAt.done {w V W:World} {B0 g rb b n:Nat} {nm:ByteArray} {le ti ch of_:Int} {s1 s2 s3:Sl} {tk gv bk:List P2} (h:RuAt V W B0 g rb b nm le ti ch of_ s1 s2 (.slice s3.A s3.n s3.c) tk gv bk) (hs3:s3.n=bk.length) (hV:GSt w V g) (hrb:w.heap.size<=rb) (hnm:nm.size<=8192) (hn:n<=1000)
 (hA1:Am n tk) (hA2:Am n gv) (l1:tk.length<=3) (l2:gv.length<=2) (hS:SubA tk bk) (hle:0<=le∧le<4) (hti:0<=ti∧ti<=20) (hch:1<=ch∧ch<=of_∧of_<=10) (hnt:tk.length=0->ti≠0) (hne:bk≠[]->ch<of_) :
 RuleG w g n nm (.returned (.agg #[.string nm,.bool false,.int .i64 le,.int .i64 ti,.int .i64 ch,.int .i64 of_,.slice s1.A s1.n s1.c,.slice s2.A s2.n s2.c,.slice s3.A s3.n s3.c])) (((((((((W.setCell ⟨rb,0,none⟩ (.string nm)).setCell ⟨rb,1,none⟩ (.bool false)).setCell ⟨rb,2,none⟩ (.int .i64 le)).setCell ⟨rb,3,none⟩ (.int .i64 ti)).setCell ⟨rb,4,none⟩ (.int .i64 ch)).setCell ⟨rb,5,none⟩ (.int .i64 of_)).setCell ⟨rb,6,none⟩ (.slice s1.A s1.n s1.c)).setCell ⟨rb,7,none⟩ (.slice s2.A s2.n s2.c)).setCell ⟨rb,8,none⟩ (.slice s3.A s3.n s3.c)) ∧
 (((((((((W.setCell ⟨rb,0,none⟩ (.string nm)).setCell ⟨rb,1,none⟩ (.bool false)).setCell ⟨rb,2,none⟩ (.int .i64 le)).setCell ⟨rb,3,none⟩ (.int .i64 ti)).setCell ⟨rb,4,none⟩ (.int .i64 ch)).setCell ⟨rb,5,none⟩ (.int .i64 of_)).setCell ⟨rb,6,none⟩ (.slice s1.A s1.n s1.c)).setCell ⟨rb,7,none⟩ (.slice s2.A s2.n s2.c)).setCell ⟨rb,8,none⟩ (.slice s3.A s3.n s3.c)).heap[rb]? = some (.cells #[.string nm,.bool false,.int .i64 le,.int .i64 ti,.int .i64 ch,.int .i64 of_,.slice s1.A s1.n s1.c,.slice s2.A s2.n s2.c,.slice s3.A s3.n s3.c] 149 (0,0)):=by
 have hb3:=hS.len;obtain⟨hA3,_⟩:=hS.am hA1;have p3:PrV W 151 s3 bk:=⟨by have:=h.own;rw[<- hs3]at this;exact TRow.of_own this,hs3,by omega,fun p hp=>by have:=hA3.2 p hp;omega⟩;have q0:=h.res;have q1:=q0.set 0 (.string nm);have q2:=q1.set 1 (.bool false);have q3:=q2.set 2 (.int .i64 le);have q4:=q3.set 3 (.int .i64 ti);have q5:=q4.set 4 (.int .i64 ch);have q6:=q5.set 5 (.int .i64 of_);have q7:=q6.set 6 (.slice s1.A s1.n s1.c);have q8:=q7.set 7 (.slice s2.A s2.n s2.c);have q9:=q8.set 8 (.slice s3.A s3.n s3.c);have hk:Keep 151 W (((((((((W.setCell ⟨rb,0,none⟩ (.string nm)).setCell ⟨rb,1,none⟩ (.bool false)).setCell ⟨rb,2,none⟩ (.int .i64 le)).setCell ⟨rb,3,none⟩ (.int .i64 ti)).setCell ⟨rb,4,none⟩ (.int .i64 ch)).setCell ⟨rb,5,none⟩ (.int .i64 of_)).setCell ⟨rb,6,none⟩ (.slice s1.A s1.n s1.c)).setCell ⟨rb,7,none⟩ (.slice s2.A s2.n s2.c)).setCell ⟨rb,8,none⟩ (.slice s3.A s3.n s3.c)) :=
  ((((((((Keep.setCell q0 (by decide) _).trans (Keep.setCell q1 (by decide) _)).trans (Keep.setCell q2 (by decide) _)).trans (Keep.setCell q3 (by decide) _)).trans (Keep.setCell q4 (by decide) _)).trans (Keep.setCell q5 (by decide) _)).trans (Keep.setCell q6 (by decide) _)).trans (Keep.setCell q7 (by decide) _)).trans (Keep.setCell q8 (by decide) _)
 have st:=((((((((((hV.trans h.st).set rb 0 (.string nm) hrb).set rb 1 (.bool false) hrb).set rb 2 (.int .i64 le) hrb).set rb 3 (.int .i64 ti) hrb).set rb 4 (.int .i64 ch) hrb).set rb 5 (.int .i64 of_) hrb).set rb 6 (.slice s1.A s1.n s1.c) hrb).set rb 7 (.slice s2.A s2.n s2.c) hrb).set rb 8 (.slice s3.A s3.n s3.c) hrb);refine⟨⟨⟨nm,false,le,ti,ch,of_,tk,gv,bk,s1,s2,s3⟩,rfl,⟨h.take.keep hk,h.give.keep hk,p3.keep hk,hnm⟩,rfl,?_,?_,?_,⟨l1,Nat.le_trans l2 (by omega),Nat.le_trans hb3 l1⟩,st⟩,q9⟩
 ·have hf:ruFormed ⟨nm,false,le,ti,ch,of_,tk,gv,bk,s1,s2,s3⟩=true:=by
   show formR tk.length bk.length false le ti ch of_=true;unfold formR;have e1:(decide (0<bk.length) && (ch == of_))=false:=by
    by_cases e:bk=[]
    ·simp[e]
    ·have h1:=hne e;have h2:(ch == of_)=false:=by simp;omega
     rw[h2,Bool.and_false]
   rw[e1];have e2:(decide (0<tk.length) || (ti != 0))=true:=by
    rcases Nat.eq_zero_or_pos tk.length with e|e
    ·have h3:(ti != 0)=true:=by simpa using hnt e
     rw[h3,Bool.or_true]
    ·rw[decide_eq_true e,Bool.true_or]
   rw[e2];rfl
  show(sortB n tk && sortB n gv && sortB n bk && ruFormed _ && contB tk bk)=true;rw[hA1.sort,hA2.sort,hA3.sort,hf,hS.cont hA1];rfl
 ·show(tk.all unitP && gv.all unitP && bk.all unitP && ruRange _)=true;have hr:ruRange ⟨nm,false,le,ti,ch,of_,tk,gv,bk,s1,s2,s3⟩=true:=by
   show(decide (0<=le) && decide (le<=100) && decide (0<=ti) && decide (ti<=1000000) && decide (1<=of_) && decide (of_<=1000000) && decide (1<=ch) && decide (ch<=of_))=true;rw[decide_eq_true (show 0<=le by omega),decide_eq_true (show le<=100 by omega),decide_eq_true (show 0<=ti by omega),decide_eq_true (show ti<=1000000 by omega),decide_eq_true (show 1<=of_ by omega),decide_eq_true (show of_<=1000000 by omega),decide_eq_true (show 1<=ch by omega),decide_eq_true (show ch<=of_ by omega)];rfl
  rw[hA1.units,hA2.units,hA3.units,hr];rfl
 ·show(decide (tk.length+gv.length<=64) && decide (tk.length+bk.length<=64))=true;rw[decide_eq_true (show tk.length+gv.length<=64 by omega),decide_eq_true (show tk.length+bk.length<=64 by omega)];rfl
theorem rule_g {w : World} {g : Nat} (nm : ByteArray) (n : Nat) (h : GOk w g) (hn : n <= 1000) (hnm : nm.size <= 8192) : Calls Tryz.prog 94 #[.pointer (some ⟨g, 0, none⟩), .string nm, .int .i64 n] w (RuleG w g n nm) := by
 obtain⟨i0,hinf,hz0,hz1,hz2⟩:=info_parts info151;obtain⟨V,hV⟩:∃V,w.alloc (.cells #[.string ⟨#[]⟩,.bool false,.int .i64 0,.int .i64 0,.int .i64 0,.int .i64 0,.slice none 0 0,.slice none 0 0,.slice none 0 0] 149)=V:=⟨_,rfl⟩;have HV0:Hid (GOk V g):=by show GOk V g;rw[<- hV];exact((GSt.refl h).alloc _).ok
 have HK0:Hid (Bk V w.heap.size 149 [.string ⟨#[]⟩,.bool false,.int .i64 0,.int .i64 0,.int .i64 0,.int .i64 0,.slice none 0 0,.slice none 0 0,.slice none 0 0]):=by show Bk V _ _ _;rw[<- hV];exact Bk.new w 149 _
 have HwV:Hid (GSt w V g):=by show GSt w V g;rw[<- hV];exact(GSt.refl h).alloc _
 have hgw:w.heap.size≠g:=by have:=h.lt;omega
 go_enter Tryz.func94,Tryz.ntmps94;go_wp2_with fail;(try rw[hV]);clear hV h;refine wp_region_inv (by kernel_rfl) (by kernel_rfl) (fun L a W=>∃x7 x10 x11 x12 x13 x14 x15 x16 x17 x18 x19 x20 x21 x22 x23 x24,a=⟨#[.pointer (some ⟨g,0,none⟩),.string nm,.int .i64 n,undef,undef,undef,.pointer (some ⟨w.heap.size,0,none⟩),x7,undef,undef,x10,x11,x12,x13,x14,x15,x16,x17,x18,x19,x20,x21,x22,x23,x24,undef,undef,undef,undef,undef,undef,undef,undef,undef,undef,undef,undef,undef,undef,undef,undef,undef,undef,undef,undef,undef,undef,undef,undef,undef,undef,undef,undef,undef,undef,undef,undef,undef,undef,undef,undef,undef,undef,undef,undef,undef,undef,undef,undef,undef,undef,undef,undef,undef,undef,undef,undef,undef,undef,undef,undef,undef,undef,undef,undef,undef,undef,undef,undef,undef],[]⟩∧(L 16=false->RMid V g nm n L x7 x10 x11 x12 x13 x14 x15 x16 x17 x18 x19 x20 x21 x22 x23 x24 W)∧(L 16=true->(∀j,j<16->L j=true)∧RMade V W g nm n x7)) ?_ ?_ ?_
 ·exact⟨undef,undef,undef,undef,undef,undef,undef,undef,undef,undef,undef,undef,undef,undef,undef,undef,rfl,fun _=>⟨(GSt.refl HV0.out).below (bel_drewN (Below.refl _ _) 1),by simp,by simp,by simp,by simp,by simp,by simp,by simp,by simp,by simp,by simp,by simp,by simp,by simp,by simp,by simp,by simp⟩,by simp⟩
 ·intro i o L a W ho hL hdep hI;obtain⟨x7,x10,x11,x12,x13,x14,x15,x16,x17,x18,x19,x20,x21,x22,x23,x24,rfl,hpre,hfin⟩:=hI;have hi17:i<17:=(Array.getElem?_eq_some_iff.1 ho).1;rcases(show i=0∨i=1∨i=2∨i=3∨i=4∨i=5∨i=6∨i=7∨i=8∨i=9∨i=10∨i=11∨i=12∨i=13∨i=14∨i=15∨i=16 by omega)with rfl|rfl|rfl|rfl|rfl|rfl|rfl|rfl|rfl|rfl|rfl|rfl|rfl|rfl|rfl|rfl|rfl
  ·have h16:L 16=false:=by
    cases h:L 16 with
    | false=>rfl
    | true=>exact absurd ((hfin h).1 0 (by omega)) (by rw[hL];simp)
   have M:=hpre h16;obtain rfl:=Option.some.inj ho;refine wpOp_step rfl (fun K hK=>?_);go_simp;exact hK _ _ ⟨x7,_,x11,x12,x13,x14,x15,x16,x17,x18,x19,x20,x21,x22,x23,x24,rfl,fun _=>⟨M.st,fun _=>rfl,fun e=>M.l1 (by simpa using e),fun e=>M.l2 (by simpa using e),fun e=>M.l3 (by simpa using e),fun e=>M.l4 (by simpa using e),fun e=>M.l5 (by simpa using e),fun e=>M.l6 (by simpa using e),fun e=>M.l7 (by simpa using e),fun e=>M.l8 (by simpa using e),fun e=>M.l9 (by simpa using e),fun e=>M.l10 (by simpa using e),fun e=>M.l11 (by simpa using e),fun e=>M.l12 (by simpa using e),fun e=>M.l13 (by simpa using e),fun e=>M.l14 (by simpa using e),fun e=>M.l15 (by simpa using e)⟩,fun e=>by simp[h16]at e⟩
  ·have h16:L 16=false:=by
    cases h:L 16 with
    | false=>rfl
    | true=>exact absurd ((hfin h).1 1 (by omega)) (by rw[hL];simp)
   have M:=hpre h16;obtain rfl:=Option.some.inj ho;refine wpOp_step rfl (fun K hK=>?_);go_simp;exact hK _ _ ⟨x7,x10,_,x12,x13,x14,x15,x16,x17,x18,x19,x20,x21,x22,x23,x24,rfl,fun _=>⟨M.st,fun e=>M.l0 (by simpa using e),fun _=>rfl,fun e=>M.l2 (by simpa using e),fun e=>M.l3 (by simpa using e),fun e=>M.l4 (by simpa using e),fun e=>M.l5 (by simpa using e),fun e=>M.l6 (by simpa using e),fun e=>M.l7 (by simpa using e),fun e=>M.l8 (by simpa using e),fun e=>M.l9 (by simpa using e),fun e=>M.l10 (by simpa using e),fun e=>M.l11 (by simpa using e),fun e=>M.l12 (by simpa using e),fun e=>M.l13 (by simpa using e),fun e=>M.l14 (by simpa using e),fun e=>M.l15 (by simpa using e)⟩,fun e=>by simp[h16]at e⟩
  ·have h16:L 16=false:=by
    cases h:L 16 with
    | false=>rfl
    | true=>exact absurd ((hfin h).1 2 (by omega)) (by rw[hL];simp)
   have M:=hpre h16;obtain rfl:=Option.some.inj ho;obtain rfl:=M.l1 (hdep { on:=1,ground:=.data } (by simp) (by rfl));refine wpOp_step rfl (fun K hK=>?_);go_simp;(with_reducible refine(next_g 4 M.st.ok (by omega) (by omega)).mono ?_);rintro e w2 ⟨a,rfl,a0,a1,hs⟩;have M:=M.go hs;exact hK _ _ ⟨x7,x10,_,_,x13,x14,x15,x16,x17,x18,x19,x20,x21,x22,x23,x24,rfl,fun _=>⟨M.st,fun e=>M.l0 (by simpa using e),fun e=>M.l1 (by simpa using e),fun _=>⟨a,rfl,a0,a1⟩,fun e=>M.l3 (by simpa using e),fun e=>M.l4 (by simpa using e),fun e=>M.l5 (by simpa using e),fun e=>M.l6 (by simpa using e),fun e=>M.l7 (by simpa using e),fun e=>M.l8 (by simpa using e),fun e=>M.l9 (by simpa using e),fun e=>M.l10 (by simpa using e),fun e=>M.l11 (by simpa using e),fun e=>M.l12 (by simpa using e),fun e=>M.l13 (by simpa using e),fun e=>M.l14 (by simpa using e),fun e=>M.l15 (by simpa using e)⟩,fun e=>by simp[h16]at e⟩
  ·have h16:L 16=false:=by
    cases h:L 16 with
    | false=>rfl
    | true=>exact absurd ((hfin h).1 3 (by omega)) (by rw[hL];simp)
   have M:=hpre h16;obtain rfl:=Option.some.inj ho;refine wpOp_step rfl (fun K hK=>?_);go_simp;have hge:=M.st.size;have M:=M.go ((GSt.refl M.st.ok).alloc (.cells #[.int .i64 0,.int .i64 3,.int .i64 5,.int .i64 20] 3));exact hK _ _ ⟨x7,x10,x11,x12,_,x14,x15,x16,x17,x18,x19,x20,x21,x22,x23,x24,rfl,fun _=>⟨M.st,fun e=>M.l0 (by simpa using e),fun e=>M.l1 (by simpa using e),fun e=>M.l2 (by simpa using e),fun _=>⟨W.heap.size,rfl,Bk.new W 3 [.int .i64 0,.int .i64 3,.int .i64 5,.int .i64 20],hge⟩,fun e=>M.l4 (by simpa using e),fun e=>M.l5 (by simpa using e),fun e=>M.l6 (by simpa using e),fun e=>M.l7 (by simpa using e),fun e=>M.l8 (by simpa using e),fun e=>M.l9 (by simpa using e),fun e=>M.l10 (by simpa using e),fun e=>M.l11 (by simpa using e),fun e=>M.l12 (by simpa using e),fun e=>M.l13 (by simpa using e),fun e=>M.l14 (by simpa using e),fun e=>M.l15 (by simpa using e)⟩,fun e=>by simp[h16]at e⟩
  ·have h16:L 16=false:=by
    cases h:L 16 with
    | false=>rfl
    | true=>exact absurd ((hfin h).1 4 (by omega)) (by rw[hL];simp)
   have M:=hpre h16;obtain rfl:=Option.some.inj ho;refine wpOp_step rfl (fun K hK=>?_);go_simp;exact hK _ _ ⟨x7,x10,x11,x12,x13,_,x15,x16,x17,x18,x19,x20,x21,x22,x23,x24,rfl,fun _=>⟨M.st,fun e=>M.l0 (by simpa using e),fun e=>M.l1 (by simpa using e),fun e=>M.l2 (by simpa using e),fun e=>M.l3 (by simpa using e),fun _=>rfl,fun e=>M.l5 (by simpa using e),fun e=>M.l6 (by simpa using e),fun e=>M.l7 (by simpa using e),fun e=>M.l8 (by simpa using e),fun e=>M.l9 (by simpa using e),fun e=>M.l10 (by simpa using e),fun e=>M.l11 (by simpa using e),fun e=>M.l12 (by simpa using e),fun e=>M.l13 (by simpa using e),fun e=>M.l14 (by simpa using e),fun e=>M.l15 (by simpa using e)⟩,fun e=>by simp[h16]at e⟩
  ·have h16:L 16=false:=by
    cases h:L 16 with
    | false=>rfl
    | true=>exact absurd ((hfin h).1 5 (by omega)) (by rw[hL];simp)
   have M:=hpre h16;obtain rfl:=Option.some.inj ho;obtain rfl:=M.l4 (hdep { on:=4,ground:=.data } (by simp) (by rfl));refine wpOp_step rfl (fun K hK=>?_);go_simp;(with_reducible refine(next_g 4 M.st.ok (by omega) (by omega)).mono ?_);rintro e w2 ⟨a,rfl,a0,a1,hs⟩;have M:=M.go hs;obtain⟨j,rfl⟩:=Int.eq_ofNat_of_zero_le a0;exact hK _ _ ⟨x7,x10,x11,x12,x13,_,_,x16,x17,x18,x19,x20,x21,x22,x23,x24,rfl,fun _=>⟨M.st,fun e=>M.l0 (by simpa using e),fun e=>M.l1 (by simpa using e),fun e=>M.l2 (by simpa using e),fun e=>M.l3 (by simpa using e),fun e=>M.l4 (by simpa using e),fun _=>⟨j,rfl,by omega⟩,fun e=>M.l6 (by simpa using e),fun e=>M.l7 (by simpa using e),fun e=>M.l8 (by simpa using e),fun e=>M.l9 (by simpa using e),fun e=>M.l10 (by simpa using e),fun e=>M.l11 (by simpa using e),fun e=>M.l12 (by simpa using e),fun e=>M.l13 (by simpa using e),fun e=>M.l14 (by simpa using e),fun e=>M.l15 (by simpa using e)⟩,fun e=>by simp[h16]at e⟩
  ·have h16:L 16=false:=by
    cases h:L 16 with
    | false=>rfl
    | true=>exact absurd ((hfin h).1 6 (by omega)) (by rw[hL];simp)
   have M:=hpre h16;obtain rfl:=Option.some.inj ho;obtain⟨b,rfl,hb,hge⟩:=M.l3 (hdep { on:=3,ground:=.data } (by simp) (by rfl));obtain⟨j,rfl,hj⟩:=M.l5 (hdep { on:=5,ground:=.data } (by simp) (by rfl));have j0:(0:Int)<=(j:Int):=by omega
   have j1:(j:Int)<4:=by omega
   refine wpOp_step rfl (fun K hK=>?_);go_simp;exact hK _ _ ⟨x7,x10,x11,x12,_,x14,_,_,x17,x18,x19,x20,x21,x22,x23,x24,rfl,fun _=>⟨M.st,fun e=>M.l0 (by simpa using e),fun e=>M.l1 (by simpa using e),fun e=>M.l2 (by simpa using e),fun e=>M.l3 (by simpa using e),fun e=>M.l4 (by simpa using e),fun e=>M.l5 (by simpa using e),fun _=>⟨b,j,rfl,hj,hb,hge⟩,fun e=>M.l7 (by simpa using e),fun e=>M.l8 (by simpa using e),fun e=>M.l9 (by simpa using e),fun e=>M.l10 (by simpa using e),fun e=>M.l11 (by simpa using e),fun e=>M.l12 (by simpa using e),fun e=>M.l13 (by simpa using e),fun e=>M.l14 (by simpa using e),fun e=>M.l15 (by simpa using e)⟩,fun e=>by simp[h16]at e⟩
  ·have h16:L 16=false:=by
    cases h:L 16 with
    | false=>rfl
    | true=>exact absurd ((hfin h).1 7 (by omega)) (by rw[hL];simp)
   have M:=hpre h16;obtain rfl:=Option.some.inj ho;obtain⟨b,j,rfl,hj,hb,hge⟩:=M.l6 (hdep { on:=6,ground:=.data } (by simp) (by rfl));obtain⟨a,ha,a0,a1⟩:=four_at j hj;have hc:=(hb.cell j).trans ha;clear ha;refine wpOp_step rfl (fun K hK=>?_);go_simp;exact hK _ _ ⟨x7,x10,x11,x12,x13,x14,x15,_,_,x18,x19,x20,x21,x22,x23,x24,rfl,fun _=>⟨M.st,fun e=>M.l0 (by simpa using e),fun e=>M.l1 (by simpa using e),fun e=>M.l2 (by simpa using e),fun e=>M.l3 (by simpa using e),fun e=>M.l4 (by simpa using e),fun e=>M.l5 (by simpa using e),fun e=>M.l6 (by simpa using e),fun _=>⟨a,rfl,a0,a1⟩,fun e=>M.l8 (by simpa using e),fun e=>M.l9 (by simpa using e),fun e=>M.l10 (by simpa using e),fun e=>M.l11 (by simpa using e),fun e=>M.l12 (by simpa using e),fun e=>M.l13 (by simpa using e),fun e=>M.l14 (by simpa using e),fun e=>M.l15 (by simpa using e)⟩,fun e=>by simp[h16]at e⟩
  ·have h16:L 16=false:=by
    cases h:L 16 with
    | false=>rfl
    | true=>exact absurd ((hfin h).1 8 (by omega)) (by rw[hL];simp)
   have M:=hpre h16;obtain rfl:=Option.some.inj ho;refine wpOp_step rfl (fun K hK=>?_);go_simp;exact hK _ _ ⟨x7,x10,x11,x12,x13,x14,x15,x16,x17,_,x19,x20,x21,x22,x23,x24,rfl,fun _=>⟨M.st,fun e=>M.l0 (by simpa using e),fun e=>M.l1 (by simpa using e),fun e=>M.l2 (by simpa using e),fun e=>M.l3 (by simpa using e),fun e=>M.l4 (by simpa using e),fun e=>M.l5 (by simpa using e),fun e=>M.l6 (by simpa using e),fun e=>M.l7 (by simpa using e),fun _=>rfl,fun e=>M.l9 (by simpa using e),fun e=>M.l10 (by simpa using e),fun e=>M.l11 (by simpa using e),fun e=>M.l12 (by simpa using e),fun e=>M.l13 (by simpa using e),fun e=>M.l14 (by simpa using e),fun e=>M.l15 (by simpa using e)⟩,fun e=>by simp[h16]at e⟩
  ·have h16:L 16=false:=by
    cases h:L 16 with
    | false=>rfl
    | true=>exact absurd ((hfin h).1 9 (by omega)) (by rw[hL];simp)
   have M:=hpre h16;obtain rfl:=Option.some.inj ho;refine wpOp_step rfl (fun K hK=>?_);go_simp;exact hK _ _ ⟨x7,x10,x11,x12,x13,x14,x15,x16,x17,x18,_,x20,x21,x22,x23,x24,rfl,fun _=>⟨M.st,fun e=>M.l0 (by simpa using e),fun e=>M.l1 (by simpa using e),fun e=>M.l2 (by simpa using e),fun e=>M.l3 (by simpa using e),fun e=>M.l4 (by simpa using e),fun e=>M.l5 (by simpa using e),fun e=>M.l6 (by simpa using e),fun e=>M.l7 (by simpa using e),fun e=>M.l8 (by simpa using e),fun _=>rfl,fun e=>M.l10 (by simpa using e),fun e=>M.l11 (by simpa using e),fun e=>M.l12 (by simpa using e),fun e=>M.l13 (by simpa using e),fun e=>M.l14 (by simpa using e),fun e=>M.l15 (by simpa using e)⟩,fun e=>by simp[h16]at e⟩
  ·have h16:L 16=false:=by
    cases h:L 16 with
    | false=>rfl
    | true=>exact absurd ((hfin h).1 10 (by omega)) (by rw[hL];simp)
   have M:=hpre h16;obtain rfl:=Option.some.inj ho;obtain rfl:=M.l8 (hdep { on:=8,ground:=.data } (by simp) (by rfl));obtain rfl:=M.l9 (hdep { on:=9,ground:=.data } (by simp) (by rfl));have hsz:=M.st.size;refine wpOp_step rfl (fun K hK=>?_);go_simp;have KA:Calls Tryz.prog 95 #[.pointer (some ⟨g,0,none⟩),.int .i64 (n:Int),.int .i64 3] W (AmtsG W g n 3):=amounts_g n 3 M.st.ok hn (by omega);(with_reducible refine KA.mono ?_);rintro e w2 ⟨v,l,rfl,ho,hA,hl,hs⟩;have M:=M.go hs;have ho2:=own_base ho hsz;exact hK _ _ ⟨x7,x10,x11,x12,x13,x14,x15,x16,x17,_,_,_,x21,x22,x23,x24,rfl,fun _=>⟨M.st,fun e=>M.l0 (by simpa using e),fun e=>M.l1 (by simpa using e),fun e=>M.l2 (by simpa using e),fun e=>M.l3 (by simpa using e),fun e=>M.l4 (by simpa using e),fun e=>M.l5 (by simpa using e),fun e=>M.l6 (by simpa using e),fun e=>M.l7 (by simpa using e),fun e=>M.l8 (by simpa using e),fun e=>M.l9 (by simpa using e),fun _=>⟨l,ho2,hA,hl⟩,fun e=>M.l11 (by simpa using e),fun e=>M.l12 (by simpa using e),fun e=>M.l13 (by simpa using e),fun e=>M.l14 (by simpa using e),fun e=>M.l15 (by simpa using e)⟩,fun e=>by simp[h16]at e⟩
  ·have h16:L 16=false:=by
    cases h:L 16 with
    | false=>rfl
    | true=>exact absurd ((hfin h).1 11 (by omega)) (by rw[hL];simp)
   have M:=hpre h16;obtain rfl:=Option.some.inj ho;refine wpOp_step rfl (fun K hK=>?_);go_simp;exact hK _ _ ⟨x7,x10,x11,x12,x13,x14,x15,x16,x17,x18,x19,x20,_,x22,x23,x24,rfl,fun _=>⟨M.st,fun e=>M.l0 (by simpa using e),fun e=>M.l1 (by simpa using e),fun e=>M.l2 (by simpa using e),fun e=>M.l3 (by simpa using e),fun e=>M.l4 (by simpa using e),fun e=>M.l5 (by simpa using e),fun e=>M.l6 (by simpa using e),fun e=>M.l7 (by simpa using e),fun e=>M.l8 (by simpa using e),fun e=>M.l9 (by simpa using e),fun e=>M.l10 (by simpa using e),fun _=>rfl,fun e=>M.l12 (by simpa using e),fun e=>M.l13 (by simpa using e),fun e=>M.l14 (by simpa using e),fun e=>M.l15 (by simpa using e)⟩,fun e=>by simp[h16]at e⟩
  ·have h16:L 16=false:=by
    cases h:L 16 with
    | false=>rfl
    | true=>exact absurd ((hfin h).1 12 (by omega)) (by rw[hL];simp)
   have M:=hpre h16;obtain rfl:=Option.some.inj ho;refine wpOp_step rfl (fun K hK=>?_);go_simp;exact hK _ _ ⟨x7,x10,x11,x12,x13,x14,x15,x16,x17,x18,x19,x20,x21,_,x23,x24,rfl,fun _=>⟨M.st,fun e=>M.l0 (by simpa using e),fun e=>M.l1 (by simpa using e),fun e=>M.l2 (by simpa using e),fun e=>M.l3 (by simpa using e),fun e=>M.l4 (by simpa using e),fun e=>M.l5 (by simpa using e),fun e=>M.l6 (by simpa using e),fun e=>M.l7 (by simpa using e),fun e=>M.l8 (by simpa using e),fun e=>M.l9 (by simpa using e),fun e=>M.l10 (by simpa using e),fun e=>M.l11 (by simpa using e),fun _=>rfl,fun e=>M.l13 (by simpa using e),fun e=>M.l14 (by simpa using e),fun e=>M.l15 (by simpa using e)⟩,fun e=>by simp[h16]at e⟩
  ·have h16:L 16=false:=by
    cases h:L 16 with
    | false=>rfl
    | true=>exact absurd ((hfin h).1 13 (by omega)) (by rw[hL];simp)
   have M:=hpre h16;obtain rfl:=Option.some.inj ho;obtain rfl:=M.l11 (hdep { on:=11,ground:=.data } (by simp) (by rfl));obtain rfl:=M.l12 (hdep { on:=12,ground:=.data } (by simp) (by rfl));have hsz:=M.st.size;refine wpOp_step rfl (fun K hK=>?_);go_simp;have KA:Calls Tryz.prog 95 #[.pointer (some ⟨g,0,none⟩),.int .i64 (n:Int),.int .i64 2] W (AmtsG W g n 2):=amounts_g n 2 M.st.ok hn (by omega);(with_reducible refine KA.mono ?_);rintro e w2 ⟨v,l,rfl,ho,hA,hl,hs⟩;have M:=M.go hs;have ho2:=own_base ho hsz;exact hK _ _ ⟨x7,x10,x11,x12,x13,x14,x15,x16,x17,x18,x19,x20,_,_,_,x24,rfl,fun _=>⟨M.st,fun e=>M.l0 (by simpa using e),fun e=>M.l1 (by simpa using e),fun e=>M.l2 (by simpa using e),fun e=>M.l3 (by simpa using e),fun e=>M.l4 (by simpa using e),fun e=>M.l5 (by simpa using e),fun e=>M.l6 (by simpa using e),fun e=>M.l7 (by simpa using e),fun e=>M.l8 (by simpa using e),fun e=>M.l9 (by simpa using e),fun e=>M.l10 (by simpa using e),fun e=>M.l11 (by simpa using e),fun e=>M.l12 (by simpa using e),fun _=>⟨l,ho2,hA,hl⟩,fun e=>M.l14 (by simpa using e),fun e=>M.l15 (by simpa using e)⟩,fun e=>by simp[h16]at e⟩
  ·have h16:L 16=false:=by
    cases h:L 16 with
    | false=>rfl
    | true=>exact absurd ((hfin h).1 14 (by omega)) (by rw[hL];simp)
   have M:=hpre h16;obtain rfl:=Option.some.inj ho;obtain rfl:=M.l0 (hdep { on:=0,ground:=.data } (by simp) (by rfl));obtain⟨a,rfl,a0,a1⟩:=M.l2 (hdep { on:=2,ground:=.data } (by simp) (by rfl));obtain⟨t,rfl,t0,t1⟩:=M.l7 (hdep { on:=7,ground:=.data } (by simp) (by rfl));have h20:=M.l10 (hdep { on:=10,ground:=.data } (by simp) (by rfl));have h23:=M.l13 (hdep { on:=13,ground:=.data } (by simp) (by rfl));obtain⟨A1,k1,c1,rfl⟩:=h20.slice;obtain⟨A2,k2,c2,rfl⟩:=h23.slice;refine wpOp_step rfl (fun K hK=>?_);go_simp;exact hK _ _ ⟨x7,_,x11,_,x13,x14,x15,x16,_,x18,x19,_,x21,x22,_,_,rfl,fun _=>⟨M.st,fun e=>M.l0 (by simpa using e),fun e=>M.l1 (by simpa using e),fun e=>M.l2 (by simpa using e),fun e=>M.l3 (by simpa using e),fun e=>M.l4 (by simpa using e),fun e=>M.l5 (by simpa using e),fun e=>M.l6 (by simpa using e),fun e=>M.l7 (by simpa using e),fun e=>M.l8 (by simpa using e),fun e=>M.l9 (by simpa using e),fun e=>M.l10 (by simpa using e),fun e=>M.l11 (by simpa using e),fun e=>M.l12 (by simpa using e),fun e=>M.l13 (by simpa using e),fun _=>⟨a,t,_,_,rfl,⟨a0,a1⟩,⟨t0,t1⟩,h20,h23⟩,fun e=>M.l15 (by simpa using e)⟩,fun e=>by simp[h16]at e⟩
  ·have h16:L 16=false:=by
    cases h:L 16 with
    | false=>rfl
    | true=>exact absurd ((hfin h).1 15 (by omega)) (by rw[hL];simp)
   have M:=hpre h16;obtain rfl:=Option.some.inj ho;refine wpOp_step rfl (fun K hK=>?_);go_simp;have hge:=M.st.size;have M:=M.go ((GSt.refl M.st.ok).alloc (.cells #[.string ⟨#[]⟩,.bool false,.int .i64 0,.int .i64 0,.int .i64 0,.int .i64 0,.slice none 0 0,.slice none 0 0,.slice none 0 0] 149));exact hK _ _ ⟨_,x10,x11,x12,x13,x14,x15,x16,x17,x18,x19,x20,x21,x22,x23,x24,rfl,fun _=>⟨M.st,fun e=>M.l0 (by simpa using e),fun e=>M.l1 (by simpa using e),fun e=>M.l2 (by simpa using e),fun e=>M.l3 (by simpa using e),fun e=>M.l4 (by simpa using e),fun e=>M.l5 (by simpa using e),fun e=>M.l6 (by simpa using e),fun e=>M.l7 (by simpa using e),fun e=>M.l8 (by simpa using e),fun e=>M.l9 (by simpa using e),fun e=>M.l10 (by simpa using e),fun e=>M.l11 (by simpa using e),fun e=>M.l12 (by simpa using e),fun e=>M.l13 (by simpa using e),fun e=>M.l14 (by simpa using e),fun _=>⟨W.heap.size,rfl,Bk.new W 149 [.string ⟨#[]⟩,.bool false,.int .i64 0,.int .i64 0,.int .i64 0,.int .i64 0,.slice none 0 0,.slice none 0 0,.slice none 0 0],hge⟩⟩,fun e=>by simp[h16]at e⟩
  ·have M:=hpre hL;obtain rfl:=Option.some.inj ho;obtain⟨b,rfl,hb,hge⟩:=M.l15 (hdep { on:=15,ground:=.data } (by simp) (by rfl));obtain⟨a,t,v1,v2,rfl,ha,ht,h1,h2⟩:=M.l14 (hdep { on:=14,ground:=.data } (by simp) (by rfl));obtain⟨A1,k1,c1,rfl⟩:=h1.slice;obtain⟨A2,k2,c2,rfl⟩:=h2.slice;have hall:∀j,j<16->(L j || j == 16)=true:=fun j hj=>by
    rcases(show j=0∨j=1∨j=2∨j=3∨j=4∨j=5∨j=6∨j=7∨j=8∨j=9∨j=10∨j=11∨j=12∨j=13∨j=14∨j=15 by omega)with rfl|rfl|rfl|rfl|rfl|rfl|rfl|rfl|rfl|rfl|rfl|rfl|rfl|rfl|rfl|rfl
    ·rw[hdep { on:=0,ground:=.phase } (by simp) (by rfl)];rfl
    ·rw[hdep { on:=1,ground:=.phase } (by simp) (by rfl)];rfl
    ·rw[hdep { on:=2,ground:=.phase } (by simp) (by rfl)];rfl
    ·rw[hdep { on:=3,ground:=.phase } (by simp) (by rfl)];rfl
    ·rw[hdep { on:=4,ground:=.phase } (by simp) (by rfl)];rfl
    ·rw[hdep { on:=5,ground:=.phase } (by simp) (by rfl)];rfl
    ·rw[hdep { on:=6,ground:=.phase } (by simp) (by rfl)];rfl
    ·rw[hdep { on:=7,ground:=.phase } (by simp) (by rfl)];rfl
    ·rw[hdep { on:=8,ground:=.phase } (by simp) (by rfl)];rfl
    ·rw[hdep { on:=9,ground:=.phase } (by simp) (by rfl)];rfl
    ·rw[hdep { on:=10,ground:=.phase } (by simp) (by rfl)];rfl
    ·rw[hdep { on:=11,ground:=.phase } (by simp) (by rfl)];rfl
    ·rw[hdep { on:=12,ground:=.phase } (by simp) (by rfl)];rfl
    ·rw[hdep { on:=13,ground:=.phase } (by simp) (by rfl)];rfl
    ·rw[hdep { on:=14,ground:=.phase } (by simp) (by rfl)];rfl
    ·rw[hdep { on:=15,ground:=.phase } (by simp) (by rfl)];rfl
   have z0:=hb.k0;have f0:=hb.frozen 0;have z1:=hb.k1;have f1:=hb.frozen 1;have z2:=hb.k2;have f2:=hb.frozen 2;have z3:=hb.k3;have f3:=hb.frozen 3;have z4:=hb.k4;have f4:=hb.frozen 4;have z5:=hb.k5;have f5:=hb.frozen 5;have z6:=hb.k6;have f6:=hb.frozen 6;have z7:=hb.k7;have f7:=hb.frozen 7;have z8:=hb.k8;have f8:=hb.frozen 8;have gl:=hb.lt;have q0:=hb;have s0:=M.st;have p0:=h1;have r0:=h2;have q1:=q0.set 0 (.string nm);have s1:=s0.set b 0 (.string nm) hge;have p1:=p0.set (k:=0) (u:=.string nm) q0;have r1:=r0.set (k:=0) (u:=.string nm) q0;have q2:=q1.set 1 (.bool false);have s2:=s1.set b 1 (.bool false) hge;have p2:=p1.set (k:=1) (u:=.bool false) q1;have r2:=r1.set (k:=1) (u:=.bool false) q1;have q3:=q2.set 2 (.int .i64 a);have s3:=s2.set b 2 (.int .i64 a) hge;have p3:=p2.set (k:=2) (u:=.int .i64 a) q2;have r3:=r2.set (k:=2) (u:=.int .i64 a) q2;have q4:=q3.set 3 (.int .i64 t);have s4:=s3.set b 3 (.int .i64 t) hge;have p4:=p3.set (k:=3) (u:=.int .i64 t) q3;have r4:=r3.set (k:=3) (u:=.int .i64 t) q3;have q5:=q4.set 4 (.int .i64 1);have s5:=s4.set b 4 (.int .i64 1) hge;have p5:=p4.set (k:=4) (u:=.int .i64 1) q4;have r5:=r4.set (k:=4) (u:=.int .i64 1) q4;have q6:=q5.set 5 (.int .i64 1);have s6:=s5.set b 5 (.int .i64 1) hge;have p6:=p5.set (k:=5) (u:=.int .i64 1) q5;have r6:=r5.set (k:=5) (u:=.int .i64 1) q5;have q7:=q6.set 6 (.slice A1 k1 c1);have s7:=s6.set b 6 (.slice A1 k1 c1) hge;have p7:=p6.set (k:=6) (u:=.slice A1 k1 c1) q6;have r7:=r6.set (k:=6) (u:=.slice A1 k1 c1) q6;have q8:=q7.set 7 (.slice A2 k2 c2);have s8:=s7.set b 7 (.slice A2 k2 c2) hge;have p8:=p7.set (k:=7) (u:=.slice A2 k2 c2) q7;have r8:=r7.set (k:=7) (u:=.slice A2 k2 c2) q7;have q9:=q8.set 8 (.slice none 0 0);have s9:=s8.set b 8 (.slice none 0 0) hge;have p9:=p8.set (k:=8) (u:=.slice none 0 0) q8;have r9:=r8.set (k:=8) (u:=.slice none 0 0) q8;have HF:=iH (show RMade V _ g nm n (.pointer (some ⟨b,0,none⟩)) from⟨b,a,t,_,_,rfl,q9,hge,ha,ht,p9,r9,s9⟩);clear q0 s0 p0 r0 q1 s1 p1 r1 q2 s2 p2 r2 q3 s3 p3 r3 q4 s4 p4 r4 q5 s5 p5 r5 q6 s6 p6 r6 q7 s7 p7 r7 q8 s8 p8 r8 q9 s9 p9 r9 M;refine wpOp_step rfl (fun K hK=>?_);go_simp;exact hK _ _ ⟨_,x10,x11,x12,x13,x14,x15,x16,x17,x18,x19,x20,x21,x22,x23,_,rfl,fun e=>by simp at e,fun _=>⟨hall,HF.out⟩⟩
 ·intro L a W hall hI;obtain⟨x7,x10,x11,x12,x13,x14,x15,x16,x17,x18,x19,x20,x21,x22,x23,x24,rfl,hpre,hfin⟩:=hI;obtain⟨b,le,ti,v1,v2,rfl,hbk,hge,hle,hti,h1,h2,hst⟩:=(hfin (hall 16 (by decide))).2;obtain⟨tk,o1,hA1,hl1⟩:=h1;obtain⟨gv,o2,hA2,hl2⟩:=h2;obtain⟨A1,c1,rfl,_⟩:=row_of_owns o1;obtain⟨A2,c2,rfl,_⟩:=row_of_owns o2;have HR0:Hid (RuAt V W W.heap.size g w.heap.size b nm le ti 1 1 ⟨A1,tk.length,c1⟩ ⟨A2,gv.length,c2⟩ (.slice none 0 0) tk gv []):=by
   refine⟨hst,hst.bk HK0.out ?_,HK0.out.lt,?_,hbk,hge,prV_own o1 hA1 hn (by omega),prV_own o2 hA2 hn (by omega),?_,?_,World.ownsRow_nil _ _ _ _,hst.size,Nat.le_refl _⟩
   ·exact hgw
   ·exact hgw
   ·intro b' o' e;have:=o1.lt b' (by dsimp only at e;rw[e];rfl);omega
   ·intro b' o' e;have:=o2.lt b' (by dsimp only at e;rw[e];rfl);omega
  have HA1:=iH hA1;have HA2:=iH hA2;clear hpre hfin hall hbk o1 o2 hst hA1 hA2;obtain⟨B0,hB0⟩:∃B0,W.heap.size=B0:=⟨_,rfl⟩;rw[hB0]at HR0;clear hB0;obtain⟨nt,hnt⟩:∃nt,tk.length=nt:=⟨_,rfl⟩;have Hnt:=iH hnt;rw[hnt]at HR0 hl1;clear hnt;go_wp2_with fail;(with_reducible refine(next_g 3 HR0.out.st.ok (by omega) (by omega)).mono ?_);rintro e w2 ⟨x,rfl,x0,x1,hs⟩;have HR1:=iH (HR0.out.next hs);clear hs HR0;go_upto_if 27 with fail;go_cut [7] (fun v wx=>v=.pointer (some ⟨b,0,none⟩)∧∃ch of_,(1<=ch∧ch<=of_∧of_<=10)∧RuAt V wx B0 g w.heap.size b nm le ti ch of_ ⟨A1,nt,c1⟩ ⟨A2,gv.length,c2⟩ (.slice none 0 0) tk gv [])
  case first =>
   by_cases hx:x=0
   ·subst hx;go_wp2_with fail;(with_reducible refine(next_g 9 HR1.out.st.ok (by omega) (by omega)).mono ?_);rintro e w3 ⟨p,rfl,p0,p1,hs⟩;have HR2:=iH (HR1.out.next hs);have z:=HR2.out.bx.k5;have f:=HR2.out.bx.frozen 5;have l:=HR2.out.bx.lt;have HR3:=iH (HR2.out.set5 (2+p));clear hs HR1;go_upto_region 4 with fail;obtain⟨W3,hW3⟩:∃W3,w3.setCell ⟨b,5,none⟩ (.int .i64 (2+p))=W3:=⟨_,rfl⟩;rw[hW3]at HR3⊢;clear hW3 z f l HR2;have z:=HR3.out.bx.k5;have l:=HR3.out.bx.lt;go_wp2_with fail;(with_reducible refine(next_g (2+p) HR3.out.st.ok (by omega) (by omega)).mono ?_);rintro e w4 ⟨q,rfl,q0,q1,hs⟩;have HR4:=iH (HR3.out.next hs);clear hs HR3 z l;have z:=HR4.out.bx.k4;have f:=HR4.out.bx.frozen 4;have l:=HR4.out.bx.lt;have HR5:=iH (HR4.out.set4 (1+q));go_wp2;go_meet;exact⟨rfl,1+q,2+p,⟨by omega,by omega,by omega⟩,HR5.out⟩
   ·have e1:(x == 0)=false:=by simpa using hx
    go_wp2;go_meet;exact⟨rfl,1,1,⟨by omega,by omega,by omega⟩,HR1.out⟩
  case rest =>
   obtain⟨rfl,ch,of_,hch,hR⟩:=hcut;have HR:=iH hR;clear hR HR1;obtain⟨W5,hW5⟩:∃W5,wc=W5:=⟨_,rfl⟩;rw[hW5]at HR⊢;clear hW5;go_upto_region 5 with fail;go_cut [47] (fun v wx=>∃q:Bool,v=.bool q∧(q=true->ch<of_)∧RuAt V wx B0 g w.heap.size b nm le ti ch of_ ⟨A1,nt,c1⟩ ⟨A2,gv.length,c2⟩ (.slice none 0 0) tk gv [])
   case first =>
    have z4:=HR.out.bx.k4;have z5:=HR.out.bx.k5;have l:=HR.out.bx.lt;by_cases hlt:ch<of_
    ·have e1:decide (ch<of_)=true:=decide_eq_true hlt;go_wp2_with fail;(with_reducible refine(next_g 3 HR.out.st.ok (by omega) (by omega)).mono ?_);rintro e w6 ⟨y,rfl,y0,y1,hs⟩;have HR6:=iH (HR.out.next hs);clear hs HR z4 z5 l;go_wp2;go_meet;exact⟨_,rfl,fun _=>hlt,HR6.out⟩
    ·have e1:decide (ch<of_)=false:=decide_eq_false hlt;go_wp2;go_meet;exact⟨false,rfl,fun e=>by simp at e,HR.out⟩
   case rest =>
    obtain⟨q,rfl,hq,hR⟩:=hcut;clear HR;have HR:=iH hR;have Hq:=iH hq;clear hR hq;obtain⟨W6,hW6⟩:∃W6,wc=W6:=⟨_,rfl⟩;rw[hW6]at HR⊢;clear hW6;go_upto_if 47 with fail;go_cut [7] (fun v wx=>v=.pointer (some ⟨b,0,none⟩)∧∃vb bk,SubA tk bk∧(bk≠[]->ch<of_)∧RuAt V wx B0 g w.heap.size b nm le ti ch of_ ⟨A1,nt,c1⟩ ⟨A2,gv.length,c2⟩ vb tk gv bk)
    case first =>
     cases q
     ·have HE:=iH (SubA.empty tk);go_wp2;go_meet;exact⟨rfl,_,[],HE.out,fun e=>absurd rfl e,HR.out⟩
     have hlt:=Hq.out rfl;go_wp2_with fail;go_loopw [8] (fun i wx=>∃(k:Nat) (vb:Value) (bk:List P2),k<=nt∧i=.int .i64 k∧SubA (tk.take k) bk∧RuAt V wx B0 g w.heap.size b nm le ti ch of_ ⟨A1,nt,c1⟩ ⟨A2,gv.length,c2⟩ vb tk gv bk) (fun i _=>nt-(intOf i).toNat)
     case atStart=>exact⟨0,_,[],Nat.zero_le _,rfl,.nil,HR.out⟩
     case round =>
      clear HR;obtain⟨k,vb,bk,hk,rfl,hS,hR⟩:=hrel;have HR:=iH hR;have HSu:=iH hS;have hbl:bk.length<=k:=by have:=hS.len;rw[List.length_take]at this;omega
      clear hR hS;have z6:=HR.out.bx.k6;have l:=HR.out.bx.lt;by_cases hkt:k<nt
      ·have hkl:k<tk.length:=by rw[Hnt.out];exact hkt
       have hAt:=HR.out.take.at_ k hkl;dsimp only at hAt;obtain⟨bt,ot,hAt1,hbt,t0,t1⟩:=hAt;have hp:=HA1.out.2 _ (List.getElem_mem hkl);have HTk:=iH (List.take_succ_eq_append_getElem hkl);obtain⟨p,hp0⟩:∃p,tk[k]=p:=⟨_,rfl⟩;rw[hp0]at t0 t1 hp HTk;have Hkk:=iH hp0;clear hp0;obtain⟨x,N⟩:=p;dsimp only at *;subst hAt1;have kk0:(0:Int)<=(k:Int):=by omega
       have kk1:(k:Int)<(nt:Int):=by omega
       go_wp2_with fail;(with_reducible refine(next_g (N+1) HR.out.st.ok (by omega) (by omega)).mono ?_);rintro e w7 ⟨m,rfl,m0,m1,hs⟩;have HR7:=iH (HR.out.next hs);clear hs HR z6 l t0 t1;by_cases hm:0<m
       ·have HS2:Hid (SubA (tk.take (k+1)) (bk ++ [(x,m)])):=by show SubA _ _;rw[HTk.out];exact .take _ _ _ HSu.out (by omega) (by omega)
        obtain⟨Ab,cb,rfl,_⟩:=row_of_owns HR7.out.own;obtain⟨nb,hnb⟩:∃nb,bk.length=nb:=⟨_,rfl⟩;have HRx:Hid (RuAt V (w7.drew.alloc (.cells #[.int .i64 x,.int .i64 m] 151)) B0 g w.heap.size b nm le ti ch of_ ⟨some ⟨bt,ot,none⟩,nt,c1⟩ ⟨A2,gv.length,c2⟩ (.slice Ab bk.length cb) tk gv bk):=HR7.out.next ((GSt.refl HR7.out.st.ok).below ((Below.refl _ _).drew.alloc (Nat.le_refl _) _));have FIN:Hid (∀(g' cap:Nat) (w8:World),w8.ownsRow B0 151 2 (.slice (some ⟨g',0,none⟩) (nb+1) cap) (nb+1) (pcells bk ++ [.int .i64 x,.int .i64 m])->(w7.drew.alloc (.cells #[.int .i64 x,.int .i64 m] 151)).grownBy w8 (Value.slice Ab nb cb).ownBlock ->
         (w8.cell? ⟨b,8,none⟩=some (.slice Ab nb cb)∧w8.frozen? ⟨b,8,none⟩=false∧b<w8.heap.size)∧RuAt V (w8.setCell ⟨b,8,none⟩ (.slice (some ⟨g',0,none⟩) (nb+1) cap)) B0 g w.heap.size b nm le ti ch of_ ⟨some ⟨bt,ot,none⟩,nt,c1⟩ ⟨A2,gv.length,c2⟩ (.slice (some ⟨g',0,none⟩) (nb+1) cap) tk gv (bk ++ [(x,m)])):=fun g' cap w8 ho hgr=>by
         have h1:=HRx.out;rw[hnb]at h1;have h2:=h1.app (bk':=bk ++ [(x,m)]) (vb':=.slice (some ⟨g',0,none⟩) (nb+1) cap) hgr (by rw[List.length_append,hnb,pcells_snoc];exact ho);exact⟨⟨h2.1.cell 8,h2.1.frozen 8,h2.1.lt⟩,h2.2⟩
        have OWN:Hid ((w7.drew.alloc (.cells #[.int .i64 x,.int .i64 m] 151)).ownsRow B0 151 2 (.slice Ab nb cb) nb (pcells bk)):=by have h1:=HRx.out.own;rw[hnb]at h1;exact h1
        have C1:=iH (new2 w7.drew 151 (.int .i64 x) (.int .i64 m));have C3:Hid (nb+1<=maxLen):=by show nb+1<=maxLen;unfold maxLen;omega
        have C4:Hid ((nb+1)*16<=140737488355328):=by show(nb+1)*16<=140737488355328;omega
        have C5:Hid (B0<=(w7.drew.alloc (.cells #[.int .i64 x,.int .i64 m] 151)).heap.size):=by show B0<=_;have:=HR7.out.b1;simp;omega
        have C6:Hid ((w7.drew.alloc (.cells #[.int .i64 x,.int .i64 m] 151)).heap.size=w7.heap.size+1):=by show _=_;simp
        have hAt:=HR7.out.take.at_ k (by rw[Hnt.out];exact hkt);have z6:=HR7.out.bx.k6;have z8:w7.cell? ⟨b,8,none⟩=some (.slice Ab nb cb):=by have h1:=HR7.out.bx.k8;rw[hnb]at h1;exact h1
        have t0:w7.cell? ⟨bt,ot+k*2,none⟩=some (.int .i64 x):=by
         dsimp only at hAt;obtain⟨b',o',e',_,q0,_⟩:=hAt;cases e';have e2:tk[k]'(by rw[Hnt.out];exact hkt)=(x,N):=Hkk.out;rw[e2]at q0;exact q0
        have l:=HR7.out.bx.lt;have HB7:=iH hbt;rw[hnb]at hbl;clear hAt HRx hnb HR7;go_wp2_with fail
        go_region_law (refine step_append_lies _ rfl (.tmp 67) (.tmp 76) 147 rfl B0 151 i0 (.agg #[.int .i64 0,.int .i64 0]) 2 16 Tryz.underlying147 hinf hz0 hz1 hz2 rfl (by decide) _ nb (pcells bk) rfl OWN.out ⟨w7.heap.size,0,none⟩ 1 1 [.int .i64 x,.int .i64 m] rfl rfl C1.out (one2 x m) (by omega) C3.out C4.out C5.out (w7.heap.size+1) C6.out ?_;intro g' cap w8 hown hgr hat hlt8;obtain⟨⟨k3,f3,l3⟩,hpost⟩:=FIN.out _ _ _ hown hgr;have HP:=iH hpost;clear hpost hown hgr hat)
        all_goals
         go_wp2;go_roundw
         case rel=>exact⟨k+1,_,_,by omega,by go_num,HS2.out,HP.out⟩
         case measure=>simp[intOf];omega
       ·have HS2:Hid (SubA (tk.take (k+1)) bk):=by show SubA _ _;rw[HTk.out];exact .skip _ HSu.out
        go_wp2;go_roundw
        case rel=>exact⟨k+1,vb,bk,by omega,by go_num,HS2.out,HR7.out⟩
        case measure=>simp[intOf];omega
      ·obtain rfl:nt=k:=by omega
       have HS2:Hid (SubA tk bk):=by
        have h1:=HSu.out;rw[List.take_of_length_le (by rw[Hnt.out];omega)]at h1;exact h1
       go_wp2;go_meet;exact⟨rfl,vb,bk,HS2.out,fun _=>hlt,HR.out⟩
    case rest =>
     obtain⟨rfl,vb,bk,hS,hne,hR⟩:=hcut;clear HR;have HR:=iH hR;have HSu:=iH hS;have Hne:=iH hne;clear hR hS hne Hq;obtain⟨W8,hW8⟩:∃W8,wc=W8:=⟨_,rfl⟩;rw[hW8]at HR⊢;clear hW8;go_upto_region 12 with fail;go_cut [87] (fun v wx=>v=.bool (((nt:Int) == 0) && (ti == 0))∧W8=wx)
     case first =>
      have z6:=HR.out.bx.k6;have z3:=HR.out.bx.k3;have l:=HR.out.bx.lt;cases hq:((nt:Int) == 0)
      ·go_wp2;go_meet;exact⟨by rw[hq];rfl,rfl⟩
      ·go_wp2;go_meet;exact⟨by rw[hq];rfl,rfl⟩
     case rest =>
      obtain⟨rfl,rfl⟩:=hcut;go_upto_if 87 with fail;go_cut [7] (fun v wx=>v=.pointer (some ⟨b,0,none⟩)∧∃ti',(0<=ti'∧ti'<=20)∧(nt=0->ti'≠0)∧RuAt V wx B0 g w.heap.size b nm le ti' ch of_ ⟨A1,nt,c1⟩ ⟨A2,gv.length,c2⟩ vb tk gv bk)
      case first =>
       cases hq:(((nt:Int) == 0) && (ti == 0))
       ·have hq2:nt=0->ti≠0:=fun e e2=>by subst e e2;simp at hq
        have Hq2:=iH hq2;clear hq2;go_wp2;go_meet;exact⟨rfl,ti,hti,Hq2.out,HR.out⟩
       ·have z:=HR.out.bx.k3;have f:=HR.out.bx.frozen 3;have l:=HR.out.bx.lt;have HR9:=iH (HR.out.set3 1);go_wp2;go_meet;exact⟨rfl,1,⟨by omega,by omega⟩,fun _=>by omega,HR9.out⟩
      case rest =>
       obtain⟨rfl,ti',ht',hnt',hR⟩:=hcut;clear HR;have HR:=iH hR;have Hnt':=iH hnt';clear hR hnt';obtain⟨W9,hW9⟩:∃W9,wc=W9:=⟨_,rfl⟩;rw[hW9]at HR⊢;clear hW9;obtain⟨Ab,cb,rfl,_⟩:=row_of_owns HR.out.own;have HD:=iH (HR.out.done (s3:=⟨Ab,bk.length,cb⟩) rfl HwV.out (Nat.le_refl _) hnm hn HA1.out HA2.out (by rw[Hnt.out];exact hl1) hl2 HSu.out hle ht' hch (fun e=>Hnt'.out (by rw[<- Hnt.out];exact e)) Hne.out);dsimp only at HD;obtain⟨nb,hnb⟩:∃nb,bk.length=nb:=⟨_,rfl⟩;obtain⟨ng,hng⟩:∃ng,gv.length=ng:=⟨_,rfl⟩;have hbx:=HR.out.bx;dsimp only at hbx;rw[hnb,hng]at hbx;rw[hnb,hng]at HD;clear hnb hng;have x0':W9.cell? ⟨b,0,none⟩=some (.string nm):=hbx.cell 0;have r0':W9.cell? ⟨w.heap.size,0,none⟩=some (.string ⟨#[]⟩):=HR.out.res.cell 0;have f0':=HR.out.res.frozen 0;have x1':W9.cell? ⟨b,1,none⟩=some (.bool false):=hbx.cell 1;have r1':W9.cell? ⟨w.heap.size,1,none⟩=some (.bool false):=HR.out.res.cell 1;have f1':=HR.out.res.frozen 1;have x2':W9.cell? ⟨b,2,none⟩=some (.int .i64 le):=hbx.cell 2;have r2':W9.cell? ⟨w.heap.size,2,none⟩=some (.int .i64 0):=HR.out.res.cell 2;have f2':=HR.out.res.frozen 2;have x3':W9.cell? ⟨b,3,none⟩=some (.int .i64 ti'):=hbx.cell 3;have r3':W9.cell? ⟨w.heap.size,3,none⟩=some (.int .i64 0):=HR.out.res.cell 3;have f3':=HR.out.res.frozen 3;have x4':W9.cell? ⟨b,4,none⟩=some (.int .i64 ch):=hbx.cell 4;have r4':W9.cell? ⟨w.heap.size,4,none⟩=some (.int .i64 0):=HR.out.res.cell 4;have f4':=HR.out.res.frozen 4;have x5':W9.cell? ⟨b,5,none⟩=some (.int .i64 of_):=hbx.cell 5;have r5':W9.cell? ⟨w.heap.size,5,none⟩=some (.int .i64 0):=HR.out.res.cell 5;have f5':=HR.out.res.frozen 5;have x6':W9.cell? ⟨b,6,none⟩=some (.slice A1 nt c1):=hbx.cell 6;have r6':W9.cell? ⟨w.heap.size,6,none⟩=some (.slice none 0 0):=HR.out.res.cell 6;have f6':=HR.out.res.frozen 6;have x7':W9.cell? ⟨b,7,none⟩=some (.slice A2 ng c2):=hbx.cell 7;have r7':W9.cell? ⟨w.heap.size,7,none⟩=some (.slice none 0 0):=HR.out.res.cell 7;have f7':=HR.out.res.frozen 7;have x8':W9.cell? ⟨b,8,none⟩=some (.slice Ab nb cb):=hbx.cell 8;have r8':W9.cell? ⟨w.heap.size,8,none⟩=some (.slice none 0 0):=HR.out.res.cell 8;have f8':=HR.out.res.frozen 8;have hl9:=HR.out.bx.lt;have hl0:=HR.out.res.lt;clear hbx HR;go_wp2;have t1:=HD.out.2;refine bodyPost_ret (v:=.agg #[.string nm,.bool false,.int .i64 le,.int .i64 ti',.int .i64 ch,.int .i64 of_,.slice A1 nt c1,.slice A2 ng c2,.slice Ab nb cb]) (by simp[results,Tryz.results94,go_sem,World.cell?,t1]) rfl HD.out.1
end
end
end Go.Proofs.YtiecjoijnkghbaaGreatDoor
