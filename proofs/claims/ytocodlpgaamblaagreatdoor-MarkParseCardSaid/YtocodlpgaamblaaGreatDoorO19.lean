/- What the example of the section reads as. The generator's rule: the region that makes it. The memory of the generator of catalogs: a catalog in its box, and its rows as they grow. The memory of the generator of catalogs: a catalog in its box, one of its rows being made. The generator of catalogs: what its rows are; a table and a tax in the making; names. The generator of catalogs: a tax and its first bracket, between the operations that make them. The example of the section. -/
import Derived.Test.YtocodlpgaamblaaGreatDoorO4
import Derived.Test.YtocodlpgaamblaaGreatDoorO5
import Derived.Test.YtocodlpgaamblaaGreatDoorO10
import Derived.Test.YtocodlpgaamblaaGreatDoorO17
import Derived.Test.YtocodlpgaamblaaGreatDoorO18
import Derived.RegionTactic
import Derived.Deep.DeepCutAuto
import Derived.Deep.CutBlock
import Derived.Deep.AppendLies
import Derived.Deep.RegionLaw
import Derived.Maps.AppendAt
set_option linter.unusedVariables false
set_option linter.unusedSimpArgs false
set_option maxRecDepth 100000
set_option maxHeartbeats 8000000
open Go.RowKit
namespace Go.Proofs.YtocodlpgaamblaaGreatDoor
def gold:ByteArray:=⟨#[103,111,108,100]⟩
def goldIt:It:=⟨gold,false,false,false,0,0,0⟩
def text1:ByteArray:=⟨#[107,105,110,100,32,99,114,97,102,116,32,97,110,100,32,40,97,99,116,111,114,32,55,32,111,114,32,109,111,114,101,32,49,48,48,32,103,111,108,100,41]⟩
def text2:ByteArray:=⟨#[116,105,99,107,32,57,46,46,53]⟩
def text3:ByteArray:=⟨#[107,105,110,100,32,115,109,105,116,104]⟩
def text4:ByteArray:=⟨#[110,111,116,32,107,105,110,100,32,99,114,97,102,116,32,111,114,32,110,111,116,32,97,99,116,111,114,32,55,32,97,110,100,32,110,111,116,32,109,111,114,101,32,49,48,48,32,103,111,108,100]⟩
def mark1:Mk:=.node sAnd 0 0 [.node sKind 4 0 [],.node sOr 0 0 [.node sActor 7 0 [],.node sMore 100 0 []]]
theorem lives1 (m:CatM) (hr:m.rules=[]) (hi:m.items.map It.name=[gold]):parseAll m text1=.mark mark1:=by
 unfold parseAll;rw[hr,hi];kernel_rfl
theorem lives2 (m:CatM) (hr:m.rules=[]) (hi:m.items.map It.name=[gold]):parseAll m text2=.err 8 5:=by
 unfold parseAll;rw[hr,hi];kernel_rfl
theorem lives3 (m:CatM) (hr:m.rules=[]) (hi:m.items.map It.name=[gold]):parseAll m text3=.err 5 6:=by
 unfold parseAll;rw[hr,hi];kernel_rfl
theorem lives4:printE [] [gold] ((Mk.node sNot 0 0 [mark1]).norm false)=0:=by kernel_rfl
theorem lives5:printS [] [gold] ((Mk.node sNot 0 0 [mark1]).norm false)=text4:=by kernel_rfl
theorem lives6 (s:StepM) (h1:s.kind=4) (h2:s.actor=7):mark1.val (condV s)=true:=by
 unfold mark1;simp[Mk.val,Mk.allV,Mk.anyV,sAnd,sOr,condV,sKind,sActor,h1,h2]
section
set_option linter.unusedVariables false
set_option linter.unusedSimpArgs false
section
theorem own_base {W:World} {B B' e size n:Nat} {v:Value} {xs:List Value} (h:W.ownsRow B e size v n xs) (hB:B'<=B):W.ownsRow B' e size v n xs:=by
 refine⟨h.1,?_⟩;rcases h.2 with h0|⟨g,cap,cur,hv,hb,h1⟩
 ·exact .inl h0
 ·exact .inr ⟨g,cap,cur,hv,Nat.le_trans hB hb,h1⟩
def AmRow (V W:World) (n most:Nat) (x:Value):Prop:=∃l,W.ownsRow V.heap.size 132 2 x l.length (pcells l)∧Am n l∧l.length<=most
theorem AmRow.go {V W W':World} {g n most:Nat} {x:Value} (h:AmRow V W n most x) (k:GSt W W' g) (hg:g<V.heap.size):AmRow V W' n most x:=by
 obtain⟨l,h1,h2,h3⟩:=h;exact⟨l,k.own h1 (fun e=>by have:=row_base h1 g e;omega),h2,h3⟩
theorem row_neT {W:World} {base:Nat} {e t:TypeId} {size n g:Nat} {v:Value} {xs ys:List Value} (h:W.ownsRow base e size v n xs) (hg:Bk W g t ys) (hne:e≠t):v.ownBlock≠some g:=by
 intro hv;rcases h.2 with ⟨h0,_⟩|⟨g',cap,cur,h1,_,hc,_⟩
 ·rw[h0]at hv;cases hv
 ·rw[h1]at hv;cases hv;unfold Bk at hg;rw[hc]at hg;cases hg;exact hne rfl
theorem four_at (j:Nat) (h:j<4):∃a:Int,([.int .i64 0,.int .i64 3,.int .i64 5,.int .i64 20]:List Value)[j]? = some (.int .i64 a)∧0<=a∧a<=20:=by
 rcases(show j=0∨j=1∨j=2∨j=3 by omega)with rfl|rfl|rfl|rfl
 ·exact⟨0,rfl,by omega,by omega⟩
 ·exact⟨3,rfl,by omega,by omega⟩
 ·exact⟨5,rfl,by omega,by omega⟩
 ·exact⟨20,rfl,by omega,by omega⟩
structure RMid (V : World) (g : Nat) (nm : ByteArray) (n : Nat) (L : Nat -> Bool) (x7 x10 x11 x12 x13 x14 x15 x16 x17 x18 x19 x20 x21 x22 x23 x24 : Value) (W : World) : Prop where
 st:GSt V W g
 l0:L 0=true->x10=.string nm
 l1:L 1=true->x11=.pointer (some ⟨g,0,none⟩)
 l2:L 2=true->∃a,x12=.int .i64 a∧0<=a∧a<4
 l3:L 3=true->∃b,x13=.slice (some ⟨b,0,none⟩) 4 4∧Bk W b 3 [.int .i64 0,.int .i64 3,.int .i64 5,.int .i64 20]∧V.heap.size<=b
 l4:L 4=true->x14=.pointer (some ⟨g,0,none⟩)
 l5:L 5=true->∃j:Nat,x15=.int .i64 j∧j<4
 l6:L 6=true->∃b j,x16=.pointer (some ⟨b,j,none⟩)∧j<4∧Bk W b 3 [.int .i64 0,.int .i64 3,.int .i64 5,.int .i64 20]∧V.heap.size<=b
 l7:L 7=true->∃a,x17=.int .i64 a∧0<=a∧a<=20
 l8:L 8=true->x18=.pointer (some ⟨g,0,none⟩)
 l9:L 9=true->x19=.int .i64 (n:Int)
 l10:L 10=true->AmRow V W n 3 x20
 l11:L 11=true->x21=.pointer (some ⟨g,0,none⟩)
 l12:L 12=true->x22=.int .i64 (n:Int)
 l13:L 13=true->AmRow V W n 2 x23
 l14:L 14=true->∃a t v1 v2,x24=.agg #[.string nm,.bool false,.int .i64 a,.int .i64 t,.int .i64 1,.int .i64 1,v1,v2,.slice none 0 0]∧(0<=a∧a<4)∧(0<=t∧t<=20)∧AmRow V W n 3 v1∧AmRow V W n 2 v2
 l15:L 15=true->∃b,x7=.pointer (some ⟨b,0,none⟩)∧Bk W b 80 [.string ⟨#[]⟩,.bool false,.int .i64 0,.int .i64 0,.int .i64 0,.int .i64 0,.slice none 0 0,.slice none 0 0,.slice none 0 0]∧V.heap.size<=b
theorem RMid.go {V W W':World} {g:Nat} {nm:ByteArray} {n:Nat} {L:Nat->Bool} {x7 x10 x11 x12 x13 x14 x15 x16 x17 x18 x19 x20 x21 x22 x23 x24:Value} (h:RMid V g nm n L x7 x10 x11 x12 x13 x14 x15 x16 x17 x18 x19 x20 x21 x22 x23 x24 W) (k:GSt W W' g):RMid V g nm n L x7 x10 x11 x12 x13 x14 x15 x16 x17 x18 x19 x20 x21 x22 x23 x24 W' where
 st:=h.st.trans k
 l0:=h.l0
 l1:=h.l1
 l2:=h.l2
 l3:=fun e=>by obtain⟨b,e1,e2,e3⟩:=h.l3 e;exact⟨b,e1,k.bk e2 (by have:=h.st.lt;omega),e3⟩
 l4:=h.l4
 l5:=h.l5
 l6:=fun e=>by obtain⟨b,j,e1,e0,e2,e3⟩:=h.l6 e;exact⟨b,j,e1,e0,k.bk e2 (by have:=h.st.lt;omega),e3⟩
 l7:=h.l7
 l8:=h.l8
 l9:=h.l9
 l10:=fun e=>(h.l10 e).go k h.st.lt
 l11:=h.l11
 l12:=h.l12
 l13:=fun e=>(h.l13 e).go k h.st.lt
 l14:=fun e=>by obtain⟨a,t,v1,v2,e1,e2,e3,e4,e5⟩:=h.l14 e;exact⟨a,t,v1,v2,e1,e2,e3,e4.go k h.st.lt,e5.go k h.st.lt⟩
 l15:=fun e=>by obtain⟨b,e1,e2,e3⟩:=h.l15 e;exact⟨b,e1,k.bk e2 (by have:=h.st.lt;omega),e3⟩
def RMade (V W:World) (g:Nat) (nm:ByteArray) (n:Nat) (x7:Value):Prop :=
 ∃b a t v1 v2,x7=.pointer (some ⟨b,0,none⟩)∧Bk W b 80 [.string nm,.bool false,.int .i64 a,.int .i64 t,.int .i64 1,.int .i64 1,v1,v2,.slice none 0 0]∧V.heap.size<=b∧(0<=a∧a<4)∧(0<=t∧t<=20)∧AmRow V W n 3 v1∧AmRow V W n 2 v2∧GSt V W g
theorem AmRow.slice {V W:World} {n m:Nat} {x:Value} (h:AmRow V W n m x):∃A k c,x=.slice A k c:=by
 obtain⟨l,h1,_⟩:=h;obtain⟨A,c,h2,_⟩:=row_of_owns h1;exact⟨A,_,c,h2⟩
theorem AmRow.set {V W:World} {n m b k:Nat} {x u:Value} {xs:List Value} (h:AmRow V W n m x) (hb:Bk W b 80 xs):AmRow V (W.setCell ⟨b,k,none⟩ u) n m x:=by
 obtain⟨l,h1,h2,h3⟩:=h;exact⟨l,h1.kept (grown_setCell W b k u) (.inr (row_neT h1 hb (by decide))),h2,h3⟩
structure RuAt (V W : World) (B0 g rb b : Nat) (nm : ByteArray) (le ti ch of_ : Int) (s1 s2 : Sl) (vb : Value) (tk gv bk : List P2) : Prop where
 st:GSt V W g
 res:Bk W rb 80 [.string ⟨#[]⟩,.bool false,.int .i64 0,.int .i64 0,.int .i64 0,.int .i64 0,.slice none 0 0,.slice none 0 0,.slice none 0 0]
 rlt:rb<V.heap.size
 rne:rb≠g
 bx:Bk W b 80 [.string nm,.bool false,.int .i64 le,.int .i64 ti,.int .i64 ch,.int .i64 of_,.slice s1.A s1.n s1.c,.slice s2.A s2.n s2.c,vb]
 ge:V.heap.size<=b
 take:PrV W 132 s1 tk
 give:PrV W 132 s2 gv
 tfar:∀b' o,s1.A=some ⟨b',o,none⟩->b'<B0
 gfar:∀b' o,s2.A=some ⟨b',o,none⟩->b'<B0
 own:W.ownsRow B0 132 2 vb bk.length (pcells bk)
 b0:V.heap.size<=B0
 b1:B0<=W.heap.size
theorem prV_own {W:World} {base n:Nat} {A:Option Addr} {c:Nat} {l:List P2} (h:W.ownsRow base 132 2 (.slice A l.length c) l.length (pcells l)) (hA:Am n l) (hn:n<=1000) (hl:l.length<=100000):PrV W 132 ⟨A,l.length,c⟩ l :=
 ⟨TRow.of_own h,rfl,hl,fun p hp=>by have:=hA.2 p hp;omega⟩
section
variable {V W W' : World} {B0 g rb b : Nat} {nm : ByteArray} {le ti ch of_ : Int} {s1 s2 : Sl} {vb : Value} {tk gv bk : List P2}
theorem RuAt.gb (h:RuAt V W B0 g rb b nm le ti ch of_ s1 s2 vb tk gv bk):b≠g:=by have:=h.st.lt;have:=h.ge;omega
theorem RuAt.next (h:RuAt V W B0 g rb b nm le ti ch of_ s1 s2 vb tk gv bk) (k:GSt W W' g):RuAt V W' B0 g rb b nm le ti ch of_ s1 s2 vb tk gv bk:=by
 have hk:=k.keep h.st.ok 132 (by decide);have hlt:=h.st.lt;have h0:=h.b0;exact⟨h.st.trans k,k.bk h.res h.rne,h.rlt,h.rne,k.bk h.bx h.gb,h.ge,h.take.keep hk,h.give.keep hk,h.tfar,h.gfar,k.own h.own (fun e=>by have:=row_base h.own g e;omega),h.b0,Nat.le_trans h.b1 k.size⟩
theorem RuAt.setAny (h:RuAt V W B0 g rb b nm le ti ch of_ s1 s2 vb tk gv bk) (j:Nat) (u:Value) {le' ti' ch' of':Int} {vb':Value} {bk':List P2}
 (hu:[Value.string nm,.bool false,.int .i64 le,.int .i64 ti,.int .i64 ch,.int .i64 of_,.slice s1.A s1.n s1.c,.slice s2.A s2.n s2.c,vb].set j u=[.string nm,.bool false,.int .i64 le',.int .i64 ti',.int .i64 ch',.int .i64 of',.slice s1.A s1.n s1.c,.slice s2.A s2.n s2.c,vb']) (hv:W.ownsRow B0 132 2 vb' bk'.length (pcells bk')) :
 RuAt V (W.setCell ⟨b,j,none⟩ u) B0 g rb b nm le' ti' ch' of' s1 s2 vb' tk gv bk':=by
 have hg:=grown_setCell W b j u;have hk:Keep 132 W (W.setCell ⟨b,j,none⟩ u):=Keep.setCell h.bx (by decide) u;have h1:=h.ge;have h2:=h.rlt;exact⟨h.st.set _ _ _ h.ge,h.res.far (by simp;omega) _,h.rlt,h.rne,by rw[<- hu];exact h.bx.set j u,h.ge,h.take.keep hk,h.give.keep hk,h.tfar,h.gfar,hv.kept hg (.inr (row_neT hv h.bx (by decide))),h.b0,Nat.le_trans h.b1 hg.size⟩
theorem RuAt.set5 (h:RuAt V W B0 g rb b nm le ti ch of_ s1 s2 vb tk gv bk) (x:Int):RuAt V (W.setCell ⟨b,5,none⟩ (.int .i64 x)) B0 g rb b nm le ti ch x s1 s2 vb tk gv bk:=h.setAny 5 _ rfl h.own
theorem RuAt.set4 (h:RuAt V W B0 g rb b nm le ti ch of_ s1 s2 vb tk gv bk) (x:Int):RuAt V (W.setCell ⟨b,4,none⟩ (.int .i64 x)) B0 g rb b nm le ti x of_ s1 s2 vb tk gv bk:=h.setAny 4 _ rfl h.own
theorem RuAt.set3 (h:RuAt V W B0 g rb b nm le ti ch of_ s1 s2 vb tk gv bk) (x:Int):RuAt V (W.setCell ⟨b,3,none⟩ (.int .i64 x)) B0 g rb b nm le x ch of_ s1 s2 vb tk gv bk:=h.setAny 3 _ rfl h.own
theorem RuAt.app (h:RuAt V W B0 g rb b nm le ti ch of_ s1 s2 vb tk gv bk) {bk':List P2} {vb':Value} (hg:W.grownBy W' vb.ownBlock) (hv:W'.ownsRow B0 132 2 vb' bk'.length (pcells bk')) :
 Bk W' b 80 [.string nm,.bool false,.int .i64 le,.int .i64 ti,.int .i64 ch,.int .i64 of_,.slice s1.A s1.n s1.c,.slice s2.A s2.n s2.c,vb] ∧
 RuAt V (W'.setCell ⟨b,8,none⟩ vb') B0 g rb b nm le ti ch of_ s1 s2 vb' tk gv bk':=by
 have hbase:=row_base h.own;have h0:=h.b0;have h2:=h.rlt;have kb:=h.bx.grown hg (fun e=>row_neT h.own h.bx (by decide) e.symm);refine⟨kb,?_⟩;have kp:∀ {s:Sl} {l:List P2},PrV W 132 s l->(∀b' o,s.A=some ⟨b',o,none⟩->b'<B0)->PrV W' 132 s l:=fun{s l} hp hf=>by
  refine⟨?_,hp.len,hp.small,hp.wf⟩;rcases hp.row with h1|⟨b1,off,cur,fl,e1,e2,e3⟩
  ·exact .inl h1
  ·refine .inr ⟨b1,off,cur,fl,e1,(hg.block b1 (Array.getElem?_eq_some_iff.1 e2).1 (fun e=>?_)).trans e2,e3⟩;have h3:=hf b1 off e1;have h4:=hbase b1 e.symm;omega
 have st':GSt V W' g:=h.st.grow hg (fun b1 e=>Nat.le_trans h0 (hbase b1 e));have hR':RuAt V W' B0 g rb b nm le ti ch of_ s1 s2 vb tk gv bk∨True:=.inr trivial;have hg2:=grown_setCell W' b 8 vb';have hk:Keep 132 W' (W'.setCell ⟨b,8,none⟩ vb'):=Keep.setCell kb (by decide) vb';have res':Bk W' rb 80 [.string ⟨#[]⟩,.bool false,.int .i64 0,.int .i64 0,.int .i64 0,.int .i64 0,.slice none 0 0,.slice none 0 0,.slice none 0 0]:=h.res.grown hg (fun e=>by have:=hbase rb e.symm;omega);have h1:=h.ge;exact⟨st'.set _ _ _ h.ge,res'.far (by simp;omega) _,h.rlt,h.rne,kb.set 8 vb',h.ge,(kp h.take h.tfar).keep hk,(kp h.give h.gfar).keep hk,h.tfar,h.gfar,hv.kept hg2 (.inr (row_neT hv kb (by decide))),h.b0,Nat.le_trans h.b1 (Nat.le_trans hg.size hg2.size)⟩
end
def ruSmall (n:Nat) (r:RuM):Prop:=r.take.length<=n∧r.give.length<=n∧r.back.length<=n
def RuleG (V:World) (g n:Nat) (nm:ByteArray) (e:Ending) (W:World):Prop :=
 ∃r:RuM,e=.returned r.val∧r.Ok W∧r.name=nm∧wfR n r=true∧rgR r=true∧ruLim r=true∧ruSmall 3 r∧GSt V W g
theorem RuAt.done {w V W:World} {B0 g rb b n:Nat} {nm:ByteArray} {le ti ch of_:Int} {s1 s2 s3:Sl} {tk gv bk:List P2} (h:RuAt V W B0 g rb b nm le ti ch of_ s1 s2 (.slice s3.A s3.n s3.c) tk gv bk) (hs3:s3.n=bk.length) (hV:GSt w V g) (hrb:w.heap.size<=rb) (hnm:nm.size<=8192) (hn:n<=1000)
 (hA1:Am n tk) (hA2:Am n gv) (l1:tk.length<=3) (l2:gv.length<=2) (hS:SubA tk bk) (hle:0<=le∧le<4) (hti:0<=ti∧ti<=20) (hch:1<=ch∧ch<=of_∧of_<=10) (hnt:tk.length=0->ti≠0) (hne:bk≠[]->ch<of_) :
 RuleG w g n nm (.returned (.agg #[.string nm,.bool false,.int .i64 le,.int .i64 ti,.int .i64 ch,.int .i64 of_,.slice s1.A s1.n s1.c,.slice s2.A s2.n s2.c,.slice s3.A s3.n s3.c])) (((((((((W.setCell ⟨rb,0,none⟩ (.string nm)).setCell ⟨rb,1,none⟩ (.bool false)).setCell ⟨rb,2,none⟩ (.int .i64 le)).setCell ⟨rb,3,none⟩ (.int .i64 ti)).setCell ⟨rb,4,none⟩ (.int .i64 ch)).setCell ⟨rb,5,none⟩ (.int .i64 of_)).setCell ⟨rb,6,none⟩ (.slice s1.A s1.n s1.c)).setCell ⟨rb,7,none⟩ (.slice s2.A s2.n s2.c)).setCell ⟨rb,8,none⟩ (.slice s3.A s3.n s3.c)) ∧
 (((((((((W.setCell ⟨rb,0,none⟩ (.string nm)).setCell ⟨rb,1,none⟩ (.bool false)).setCell ⟨rb,2,none⟩ (.int .i64 le)).setCell ⟨rb,3,none⟩ (.int .i64 ti)).setCell ⟨rb,4,none⟩ (.int .i64 ch)).setCell ⟨rb,5,none⟩ (.int .i64 of_)).setCell ⟨rb,6,none⟩ (.slice s1.A s1.n s1.c)).setCell ⟨rb,7,none⟩ (.slice s2.A s2.n s2.c)).setCell ⟨rb,8,none⟩ (.slice s3.A s3.n s3.c)).heap[rb]? = some (.cells #[.string nm,.bool false,.int .i64 le,.int .i64 ti,.int .i64 ch,.int .i64 of_,.slice s1.A s1.n s1.c,.slice s2.A s2.n s2.c,.slice s3.A s3.n s3.c] 80 (0,0)):=by
 have hb3:=hS.len;obtain⟨hA3,_⟩:=hS.am hA1;have p3:PrV W 132 s3 bk:=⟨by have:=h.own;rw[<- hs3]at this;exact TRow.of_own this,hs3,by omega,fun p hp=>by have:=hA3.2 p hp;omega⟩;have q0:=h.res;have q1:=q0.set 0 (.string nm);have q2:=q1.set 1 (.bool false);have q3:=q2.set 2 (.int .i64 le);have q4:=q3.set 3 (.int .i64 ti);have q5:=q4.set 4 (.int .i64 ch);have q6:=q5.set 5 (.int .i64 of_);have q7:=q6.set 6 (.slice s1.A s1.n s1.c);have q8:=q7.set 7 (.slice s2.A s2.n s2.c);have q9:=q8.set 8 (.slice s3.A s3.n s3.c);have hk:Keep 132 W (((((((((W.setCell ⟨rb,0,none⟩ (.string nm)).setCell ⟨rb,1,none⟩ (.bool false)).setCell ⟨rb,2,none⟩ (.int .i64 le)).setCell ⟨rb,3,none⟩ (.int .i64 ti)).setCell ⟨rb,4,none⟩ (.int .i64 ch)).setCell ⟨rb,5,none⟩ (.int .i64 of_)).setCell ⟨rb,6,none⟩ (.slice s1.A s1.n s1.c)).setCell ⟨rb,7,none⟩ (.slice s2.A s2.n s2.c)).setCell ⟨rb,8,none⟩ (.slice s3.A s3.n s3.c)) :=
  ((((((((Keep.setCell q0 (by decide) _).trans (Keep.setCell q1 (by decide) _)).trans (Keep.setCell q2 (by decide) _)).trans (Keep.setCell q3 (by decide) _)).trans (Keep.setCell q4 (by decide) _)).trans (Keep.setCell q5 (by decide) _)).trans (Keep.setCell q6 (by decide) _)).trans (Keep.setCell q7 (by decide) _)).trans (Keep.setCell q8 (by decide) _)
 have st:=((((((((((hV.trans h.st).set rb 0 (.string nm) hrb).set rb 1 (.bool false) hrb).set rb 2 (.int .i64 le) hrb).set rb 3 (.int .i64 ti) hrb).set rb 4 (.int .i64 ch) hrb).set rb 5 (.int .i64 of_) hrb).set rb 6 (.slice s1.A s1.n s1.c) hrb).set rb 7 (.slice s2.A s2.n s2.c) hrb).set rb 8 (.slice s3.A s3.n s3.c) hrb);refine⟨⟨⟨nm,false,le,ti,ch,of_,tk,gv,bk,s1,s2,s3⟩,rfl,⟨h.take.keep hk,h.give.keep hk,p3.keep hk,hnm⟩,rfl,?_,?_,?_,⟨l1,Nat.le_trans l2 (by omega),Nat.le_trans hb3 l1⟩,st⟩,q9⟩
 ·have hf:ruFormed ⟨nm,false,le,ti,ch,of_,tk,gv,bk,s1,s2,s3⟩=true:=by
   show formR tk.length bk.length false le ti ch of_=true;unfold formR;have e1:(decide (0<bk.length) && (ch == of_))=false:=by
    by_cases e:bk=[]
    ·simp[e]
    ·have h1:=hne e;have h2:(ch == of_)=false:=by simp;omega
     rw[h2,Bool.and_false]
   rw[e1];have e2:(decide (0<tk.length) || (ti != 0))=true:=by
    rcases Nat.eq_zero_or_pos tk.length with e|e
    ·have h3:(ti != 0)=true:=by simpa using hnt e
     rw[h3,Bool.or_true]
    ·rw[decide_eq_true e,Bool.true_or]
   rw[e2];rfl
  show(sortB n tk && sortB n gv && sortB n bk && ruFormed _ && contB tk bk)=true;rw[hA1.sort,hA2.sort,hA3.sort,hf,hS.cont hA1];rfl
 ·show(tk.all unitP && gv.all unitP && bk.all unitP && ruRange _)=true;have hr:ruRange ⟨nm,false,le,ti,ch,of_,tk,gv,bk,s1,s2,s3⟩=true:=by
   show(decide (0<=le) && decide (le<=100) && decide (0<=ti) && decide (ti<=1000000) && decide (1<=of_) && decide (of_<=1000000) && decide (1<=ch) && decide (ch<=of_))=true;rw[decide_eq_true (show 0<=le by omega),decide_eq_true (show le<=100 by omega),decide_eq_true (show 0<=ti by omega),decide_eq_true (show ti<=1000000 by omega),decide_eq_true (show 1<=of_ by omega),decide_eq_true (show of_<=1000000 by omega),decide_eq_true (show 1<=ch by omega),decide_eq_true (show ch<=of_ by omega)];rfl
  rw[hA1.units,hA2.units,hA3.units,hr];rfl
 ·show(decide (tk.length+gv.length<=64) && decide (tk.length+bk.length<=64))=true;rw[decide_eq_true (show tk.length+gv.length<=64 by omega),decide_eq_true (show tk.length+bk.length<=64 by omega)];rfl
theorem rule_g {w : World} {g : Nat} (nm : ByteArray) (n : Nat) (h : GOk w g) (hn : n <= 1000) (hnm : nm.size <= 8192) : Calls Tryz.prog 35 #[.pointer (some ⟨g, 0, none⟩), .string nm, .int .i64 n] w (RuleG w g n nm) := by
 obtain⟨i0,hinf,hz0,hz1,hz2⟩:=info_parts info132;obtain⟨V,hV⟩:∃V,w.alloc (.cells #[.string ⟨#[]⟩,.bool false,.int .i64 0,.int .i64 0,.int .i64 0,.int .i64 0,.slice none 0 0,.slice none 0 0,.slice none 0 0] 80)=V:=⟨_,rfl⟩;have HV0:Hid (GOk V g):=by show GOk V g;rw[<- hV];exact((GSt.refl h).alloc _).ok
 have HK0:Hid (Bk V w.heap.size 80 [.string ⟨#[]⟩,.bool false,.int .i64 0,.int .i64 0,.int .i64 0,.int .i64 0,.slice none 0 0,.slice none 0 0,.slice none 0 0]):=by show Bk V _ _ _;rw[<- hV];exact Bk.new w 80 _
 have HwV:Hid (GSt w V g):=by show GSt w V g;rw[<- hV];exact(GSt.refl h).alloc _
 have hgw:w.heap.size≠g:=by have:=h.lt;omega
 go_enter Tryz.func35,Tryz.ntmps35;go_wp2_with fail;(try rw[hV]);clear hV h;refine wp_region_inv (by kernel_rfl) (by kernel_rfl) (fun L a W=>∃x7 x10 x11 x12 x13 x14 x15 x16 x17 x18 x19 x20 x21 x22 x23 x24,a=⟨#[.pointer (some ⟨g,0,none⟩),.string nm,.int .i64 n,undef,undef,undef,.pointer (some ⟨w.heap.size,0,none⟩),x7,undef,undef,x10,x11,x12,x13,x14,x15,x16,x17,x18,x19,x20,x21,x22,x23,x24,undef,undef,undef,undef,undef,undef,undef,undef,undef,undef,undef,undef,undef,undef,undef,undef,undef,undef,undef,undef,undef,undef,undef,undef,undef,undef,undef,undef,undef,undef,undef,undef,undef,undef,undef,undef,undef,undef,undef,undef,undef,undef,undef,undef,undef,undef,undef,undef,undef,undef,undef,undef,undef,undef,undef,undef,undef,undef,undef,undef,undef,undef,undef,undef,undef],[]⟩∧(L 16=false->RMid V g nm n L x7 x10 x11 x12 x13 x14 x15 x16 x17 x18 x19 x20 x21 x22 x23 x24 W)∧(L 16=true->(∀j,j<16->L j=true)∧RMade V W g nm n x7)) ?_ ?_ ?_
 ·exact⟨undef,undef,undef,undef,undef,undef,undef,undef,undef,undef,undef,undef,undef,undef,undef,undef,rfl,fun _=>⟨(GSt.refl HV0.out).below (bel_drewN (Below.refl _ _) 1),by simp,by simp,by simp,by simp,by simp,by simp,by simp,by simp,by simp,by simp,by simp,by simp,by simp,by simp,by simp,by simp⟩,by simp⟩
 ·intro i o L a W ho hL hdep hI;obtain⟨x7,x10,x11,x12,x13,x14,x15,x16,x17,x18,x19,x20,x21,x22,x23,x24,rfl,hpre,hfin⟩:=hI;have hi17:i<17:=(Array.getElem?_eq_some_iff.1 ho).1;rcases(show i=0∨i=1∨i=2∨i=3∨i=4∨i=5∨i=6∨i=7∨i=8∨i=9∨i=10∨i=11∨i=12∨i=13∨i=14∨i=15∨i=16 by omega)with rfl|rfl|rfl|rfl|rfl|rfl|rfl|rfl|rfl|rfl|rfl|rfl|rfl|rfl|rfl|rfl|rfl
  ·have h16:L 16=false:=by
    cases h:L 16 with
    | false=>rfl
    | true=>exact absurd ((hfin h).1 0 (by omega)) (by rw[hL];simp)
   have M:=hpre h16;obtain rfl:=Option.some.inj ho;refine wpOp_step rfl (fun K hK=>?_);go_simp;exact hK _ _ ⟨x7,_,x11,x12,x13,x14,x15,x16,x17,x18,x19,x20,x21,x22,x23,x24,rfl,fun _=>⟨M.st,fun _=>rfl,fun e=>M.l1 (by simpa using e),fun e=>M.l2 (by simpa using e),fun e=>M.l3 (by simpa using e),fun e=>M.l4 (by simpa using e),fun e=>M.l5 (by simpa using e),fun e=>M.l6 (by simpa using e),fun e=>M.l7 (by simpa using e),fun e=>M.l8 (by simpa using e),fun e=>M.l9 (by simpa using e),fun e=>M.l10 (by simpa using e),fun e=>M.l11 (by simpa using e),fun e=>M.l12 (by simpa using e),fun e=>M.l13 (by simpa using e),fun e=>M.l14 (by simpa using e),fun e=>M.l15 (by simpa using e)⟩,fun e=>by simp[h16]at e⟩
  ·have h16:L 16=false:=by
    cases h:L 16 with
    | false=>rfl
    | true=>exact absurd ((hfin h).1 1 (by omega)) (by rw[hL];simp)
   have M:=hpre h16;obtain rfl:=Option.some.inj ho;refine wpOp_step rfl (fun K hK=>?_);go_simp;exact hK _ _ ⟨x7,x10,_,x12,x13,x14,x15,x16,x17,x18,x19,x20,x21,x22,x23,x24,rfl,fun _=>⟨M.st,fun e=>M.l0 (by simpa using e),fun _=>rfl,fun e=>M.l2 (by simpa using e),fun e=>M.l3 (by simpa using e),fun e=>M.l4 (by simpa using e),fun e=>M.l5 (by simpa using e),fun e=>M.l6 (by simpa using e),fun e=>M.l7 (by simpa using e),fun e=>M.l8 (by simpa using e),fun e=>M.l9 (by simpa using e),fun e=>M.l10 (by simpa using e),fun e=>M.l11 (by simpa using e),fun e=>M.l12 (by simpa using e),fun e=>M.l13 (by simpa using e),fun e=>M.l14 (by simpa using e),fun e=>M.l15 (by simpa using e)⟩,fun e=>by simp[h16]at e⟩
  ·have h16:L 16=false:=by
    cases h:L 16 with
    | false=>rfl
    | true=>exact absurd ((hfin h).1 2 (by omega)) (by rw[hL];simp)
   have M:=hpre h16;obtain rfl:=Option.some.inj ho;obtain rfl:=M.l1 (hdep { on:=1,ground:=.data } (by simp) (by rfl));refine wpOp_step rfl (fun K hK=>?_);go_simp;(with_reducible refine(next_g 4 M.st.ok (by omega) (by omega)).mono ?_);rintro e w2 ⟨a,rfl,a0,a1,hs⟩;have M:=M.go hs;exact hK _ _ ⟨x7,x10,_,_,x13,x14,x15,x16,x17,x18,x19,x20,x21,x22,x23,x24,rfl,fun _=>⟨M.st,fun e=>M.l0 (by simpa using e),fun e=>M.l1 (by simpa using e),fun _=>⟨a,rfl,a0,a1⟩,fun e=>M.l3 (by simpa using e),fun e=>M.l4 (by simpa using e),fun e=>M.l5 (by simpa using e),fun e=>M.l6 (by simpa using e),fun e=>M.l7 (by simpa using e),fun e=>M.l8 (by simpa using e),fun e=>M.l9 (by simpa using e),fun e=>M.l10 (by simpa using e),fun e=>M.l11 (by simpa using e),fun e=>M.l12 (by simpa using e),fun e=>M.l13 (by simpa using e),fun e=>M.l14 (by simpa using e),fun e=>M.l15 (by simpa using e)⟩,fun e=>by simp[h16]at e⟩
  ·have h16:L 16=false:=by
    cases h:L 16 with
    | false=>rfl
    | true=>exact absurd ((hfin h).1 3 (by omega)) (by rw[hL];simp)
   have M:=hpre h16;obtain rfl:=Option.some.inj ho;refine wpOp_step rfl (fun K hK=>?_);go_simp;have hge:=M.st.size;have M:=M.go ((GSt.refl M.st.ok).alloc (.cells #[.int .i64 0,.int .i64 3,.int .i64 5,.int .i64 20] 3));exact hK _ _ ⟨x7,x10,x11,x12,_,x14,x15,x16,x17,x18,x19,x20,x21,x22,x23,x24,rfl,fun _=>⟨M.st,fun e=>M.l0 (by simpa using e),fun e=>M.l1 (by simpa using e),fun e=>M.l2 (by simpa using e),fun _=>⟨W.heap.size,rfl,Bk.new W 3 [.int .i64 0,.int .i64 3,.int .i64 5,.int .i64 20],hge⟩,fun e=>M.l4 (by simpa using e),fun e=>M.l5 (by simpa using e),fun e=>M.l6 (by simpa using e),fun e=>M.l7 (by simpa using e),fun e=>M.l8 (by simpa using e),fun e=>M.l9 (by simpa using e),fun e=>M.l10 (by simpa using e),fun e=>M.l11 (by simpa using e),fun e=>M.l12 (by simpa using e),fun e=>M.l13 (by simpa using e),fun e=>M.l14 (by simpa using e),fun e=>M.l15 (by simpa using e)⟩,fun e=>by simp[h16]at e⟩
  ·have h16:L 16=false:=by
    cases h:L 16 with
    | false=>rfl
    | true=>exact absurd ((hfin h).1 4 (by omega)) (by rw[hL];simp)
   have M:=hpre h16;obtain rfl:=Option.some.inj ho;refine wpOp_step rfl (fun K hK=>?_);go_simp;exact hK _ _ ⟨x7,x10,x11,x12,x13,_,x15,x16,x17,x18,x19,x20,x21,x22,x23,x24,rfl,fun _=>⟨M.st,fun e=>M.l0 (by simpa using e),fun e=>M.l1 (by simpa using e),fun e=>M.l2 (by simpa using e),fun e=>M.l3 (by simpa using e),fun _=>rfl,fun e=>M.l5 (by simpa using e),fun e=>M.l6 (by simpa using e),fun e=>M.l7 (by simpa using e),fun e=>M.l8 (by simpa using e),fun e=>M.l9 (by simpa using e),fun e=>M.l10 (by simpa using e),fun e=>M.l11 (by simpa using e),fun e=>M.l12 (by simpa using e),fun e=>M.l13 (by simpa using e),fun e=>M.l14 (by simpa using e),fun e=>M.l15 (by simpa using e)⟩,fun e=>by simp[h16]at e⟩
  ·have h16:L 16=false:=by
    cases h:L 16 with
    | false=>rfl
    | true=>exact absurd ((hfin h).1 5 (by omega)) (by rw[hL];simp)
   have M:=hpre h16;obtain rfl:=Option.some.inj ho;obtain rfl:=M.l4 (hdep { on:=4,ground:=.data } (by simp) (by rfl));refine wpOp_step rfl (fun K hK=>?_);go_simp;(with_reducible refine(next_g 4 M.st.ok (by omega) (by omega)).mono ?_);rintro e w2 ⟨a,rfl,a0,a1,hs⟩;have M:=M.go hs;obtain⟨j,rfl⟩:=Int.eq_ofNat_of_zero_le a0;exact hK _ _ ⟨x7,x10,x11,x12,x13,_,_,x16,x17,x18,x19,x20,x21,x22,x23,x24,rfl,fun _=>⟨M.st,fun e=>M.l0 (by simpa using e),fun e=>M.l1 (by simpa using e),fun e=>M.l2 (by simpa using e),fun e=>M.l3 (by simpa using e),fun e=>M.l4 (by simpa using e),fun _=>⟨j,rfl,by omega⟩,fun e=>M.l6 (by simpa using e),fun e=>M.l7 (by simpa using e),fun e=>M.l8 (by simpa using e),fun e=>M.l9 (by simpa using e),fun e=>M.l10 (by simpa using e),fun e=>M.l11 (by simpa using e),fun e=>M.l12 (by simpa using e),fun e=>M.l13 (by simpa using e),fun e=>M.l14 (by simpa using e),fun e=>M.l15 (by simpa using e)⟩,fun e=>by simp[h16]at e⟩
  ·have h16:L 16=false:=by
    cases h:L 16 with
    | false=>rfl
    | true=>exact absurd ((hfin h).1 6 (by omega)) (by rw[hL];simp)
   have M:=hpre h16;obtain rfl:=Option.some.inj ho;obtain⟨b,rfl,hb,hge⟩:=M.l3 (hdep { on:=3,ground:=.data } (by simp) (by rfl));obtain⟨j,rfl,hj⟩:=M.l5 (hdep { on:=5,ground:=.data } (by simp) (by rfl));have j0:(0:Int)<=(j:Int):=by omega
   have j1:(j:Int)<4:=by omega
   refine wpOp_step rfl (fun K hK=>?_);go_simp;exact hK _ _ ⟨x7,x10,x11,x12,_,x14,_,_,x17,x18,x19,x20,x21,x22,x23,x24,rfl,fun _=>⟨M.st,fun e=>M.l0 (by simpa using e),fun e=>M.l1 (by simpa using e),fun e=>M.l2 (by simpa using e),fun e=>M.l3 (by simpa using e),fun e=>M.l4 (by simpa using e),fun e=>M.l5 (by simpa using e),fun _=>⟨b,j,rfl,hj,hb,hge⟩,fun e=>M.l7 (by simpa using e),fun e=>M.l8 (by simpa using e),fun e=>M.l9 (by simpa using e),fun e=>M.l10 (by simpa using e),fun e=>M.l11 (by simpa using e),fun e=>M.l12 (by simpa using e),fun e=>M.l13 (by simpa using e),fun e=>M.l14 (by simpa using e),fun e=>M.l15 (by simpa using e)⟩,fun e=>by simp[h16]at e⟩
  ·have h16:L 16=false:=by
    cases h:L 16 with
    | false=>rfl
    | true=>exact absurd ((hfin h).1 7 (by omega)) (by rw[hL];simp)
   have M:=hpre h16;obtain rfl:=Option.some.inj ho;obtain⟨b,j,rfl,hj,hb,hge⟩:=M.l6 (hdep { on:=6,ground:=.data } (by simp) (by rfl));obtain⟨a,ha,a0,a1⟩:=four_at j hj;have hc:=(hb.cell j).trans ha;clear ha;refine wpOp_step rfl (fun K hK=>?_);go_simp;exact hK _ _ ⟨x7,x10,x11,x12,x13,x14,x15,_,_,x18,x19,x20,x21,x22,x23,x24,rfl,fun _=>⟨M.st,fun e=>M.l0 (by simpa using e),fun e=>M.l1 (by simpa using e),fun e=>M.l2 (by simpa using e),fun e=>M.l3 (by simpa using e),fun e=>M.l4 (by simpa using e),fun e=>M.l5 (by simpa using e),fun e=>M.l6 (by simpa using e),fun _=>⟨a,rfl,a0,a1⟩,fun e=>M.l8 (by simpa using e),fun e=>M.l9 (by simpa using e),fun e=>M.l10 (by simpa using e),fun e=>M.l11 (by simpa using e),fun e=>M.l12 (by simpa using e),fun e=>M.l13 (by simpa using e),fun e=>M.l14 (by simpa using e),fun e=>M.l15 (by simpa using e)⟩,fun e=>by simp[h16]at e⟩
  ·have h16:L 16=false:=by
    cases h:L 16 with
    | false=>rfl
    | true=>exact absurd ((hfin h).1 8 (by omega)) (by rw[hL];simp)
   have M:=hpre h16;obtain rfl:=Option.some.inj ho;refine wpOp_step rfl (fun K hK=>?_);go_simp;exact hK _ _ ⟨x7,x10,x11,x12,x13,x14,x15,x16,x17,_,x19,x20,x21,x22,x23,x24,rfl,fun _=>⟨M.st,fun e=>M.l0 (by simpa using e),fun e=>M.l1 (by simpa using e),fun e=>M.l2 (by simpa using e),fun e=>M.l3 (by simpa using e),fun e=>M.l4 (by simpa using e),fun e=>M.l5 (by simpa using e),fun e=>M.l6 (by simpa using e),fun e=>M.l7 (by simpa using e),fun _=>rfl,fun e=>M.l9 (by simpa using e),fun e=>M.l10 (by simpa using e),fun e=>M.l11 (by simpa using e),fun e=>M.l12 (by simpa using e),fun e=>M.l13 (by simpa using e),fun e=>M.l14 (by simpa using e),fun e=>M.l15 (by simpa using e)⟩,fun e=>by simp[h16]at e⟩
  ·have h16:L 16=false:=by
    cases h:L 16 with
    | false=>rfl
    | true=>exact absurd ((hfin h).1 9 (by omega)) (by rw[hL];simp)
   have M:=hpre h16;obtain rfl:=Option.some.inj ho;refine wpOp_step rfl (fun K hK=>?_);go_simp;exact hK _ _ ⟨x7,x10,x11,x12,x13,x14,x15,x16,x17,x18,_,x20,x21,x22,x23,x24,rfl,fun _=>⟨M.st,fun e=>M.l0 (by simpa using e),fun e=>M.l1 (by simpa using e),fun e=>M.l2 (by simpa using e),fun e=>M.l3 (by simpa using e),fun e=>M.l4 (by simpa using e),fun e=>M.l5 (by simpa using e),fun e=>M.l6 (by simpa using e),fun e=>M.l7 (by simpa using e),fun e=>M.l8 (by simpa using e),fun _=>rfl,fun e=>M.l10 (by simpa using e),fun e=>M.l11 (by simpa using e),fun e=>M.l12 (by simpa using e),fun e=>M.l13 (by simpa using e),fun e=>M.l14 (by simpa using e),fun e=>M.l15 (by simpa using e)⟩,fun e=>by simp[h16]at e⟩
  ·have h16:L 16=false:=by
    cases h:L 16 with
    | false=>rfl
    | true=>exact absurd ((hfin h).1 10 (by omega)) (by rw[hL];simp)
   have M:=hpre h16;obtain rfl:=Option.some.inj ho;obtain rfl:=M.l8 (hdep { on:=8,ground:=.data } (by simp) (by rfl));obtain rfl:=M.l9 (hdep { on:=9,ground:=.data } (by simp) (by rfl));have hsz:=M.st.size;refine wpOp_step rfl (fun K hK=>?_);go_simp;have KA:Calls Tryz.prog 36 #[.pointer (some ⟨g,0,none⟩),.int .i64 (n:Int),.int .i64 3] W (AmtsG W g n 3):=amounts_g n 3 M.st.ok hn (by omega);(with_reducible refine KA.mono ?_);rintro e w2 ⟨v,l,rfl,ho,hA,hl,hs⟩;have M:=M.go hs;have ho2:=own_base ho hsz;exact hK _ _ ⟨x7,x10,x11,x12,x13,x14,x15,x16,x17,_,_,_,x21,x22,x23,x24,rfl,fun _=>⟨M.st,fun e=>M.l0 (by simpa using e),fun e=>M.l1 (by simpa using e),fun e=>M.l2 (by simpa using e),fun e=>M.l3 (by simpa using e),fun e=>M.l4 (by simpa using e),fun e=>M.l5 (by simpa using e),fun e=>M.l6 (by simpa using e),fun e=>M.l7 (by simpa using e),fun e=>M.l8 (by simpa using e),fun e=>M.l9 (by simpa using e),fun _=>⟨l,ho2,hA,hl⟩,fun e=>M.l11 (by simpa using e),fun e=>M.l12 (by simpa using e),fun e=>M.l13 (by simpa using e),fun e=>M.l14 (by simpa using e),fun e=>M.l15 (by simpa using e)⟩,fun e=>by simp[h16]at e⟩
  ·have h16:L 16=false:=by
    cases h:L 16 with
    | false=>rfl
    | true=>exact absurd ((hfin h).1 11 (by omega)) (by rw[hL];simp)
   have M:=hpre h16;obtain rfl:=Option.some.inj ho;refine wpOp_step rfl (fun K hK=>?_);go_simp;exact hK _ _ ⟨x7,x10,x11,x12,x13,x14,x15,x16,x17,x18,x19,x20,_,x22,x23,x24,rfl,fun _=>⟨M.st,fun e=>M.l0 (by simpa using e),fun e=>M.l1 (by simpa using e),fun e=>M.l2 (by simpa using e),fun e=>M.l3 (by simpa using e),fun e=>M.l4 (by simpa using e),fun e=>M.l5 (by simpa using e),fun e=>M.l6 (by simpa using e),fun e=>M.l7 (by simpa using e),fun e=>M.l8 (by simpa using e),fun e=>M.l9 (by simpa using e),fun e=>M.l10 (by simpa using e),fun _=>rfl,fun e=>M.l12 (by simpa using e),fun e=>M.l13 (by simpa using e),fun e=>M.l14 (by simpa using e),fun e=>M.l15 (by simpa using e)⟩,fun e=>by simp[h16]at e⟩
  ·have h16:L 16=false:=by
    cases h:L 16 with
    | false=>rfl
    | true=>exact absurd ((hfin h).1 12 (by omega)) (by rw[hL];simp)
   have M:=hpre h16;obtain rfl:=Option.some.inj ho;refine wpOp_step rfl (fun K hK=>?_);go_simp;exact hK _ _ ⟨x7,x10,x11,x12,x13,x14,x15,x16,x17,x18,x19,x20,x21,_,x23,x24,rfl,fun _=>⟨M.st,fun e=>M.l0 (by simpa using e),fun e=>M.l1 (by simpa using e),fun e=>M.l2 (by simpa using e),fun e=>M.l3 (by simpa using e),fun e=>M.l4 (by simpa using e),fun e=>M.l5 (by simpa using e),fun e=>M.l6 (by simpa using e),fun e=>M.l7 (by simpa using e),fun e=>M.l8 (by simpa using e),fun e=>M.l9 (by simpa using e),fun e=>M.l10 (by simpa using e),fun e=>M.l11 (by simpa using e),fun _=>rfl,fun e=>M.l13 (by simpa using e),fun e=>M.l14 (by simpa using e),fun e=>M.l15 (by simpa using e)⟩,fun e=>by simp[h16]at e⟩
  ·have h16:L 16=false:=by
    cases h:L 16 with
    | false=>rfl
    | true=>exact absurd ((hfin h).1 13 (by omega)) (by rw[hL];simp)
   have M:=hpre h16;obtain rfl:=Option.some.inj ho;obtain rfl:=M.l11 (hdep { on:=11,ground:=.data } (by simp) (by rfl));obtain rfl:=M.l12 (hdep { on:=12,ground:=.data } (by simp) (by rfl));have hsz:=M.st.size;refine wpOp_step rfl (fun K hK=>?_);go_simp;have KA:Calls Tryz.prog 36 #[.pointer (some ⟨g,0,none⟩),.int .i64 (n:Int),.int .i64 2] W (AmtsG W g n 2):=amounts_g n 2 M.st.ok hn (by omega);(with_reducible refine KA.mono ?_);rintro e w2 ⟨v,l,rfl,ho,hA,hl,hs⟩;have M:=M.go hs;have ho2:=own_base ho hsz;exact hK _ _ ⟨x7,x10,x11,x12,x13,x14,x15,x16,x17,x18,x19,x20,_,_,_,x24,rfl,fun _=>⟨M.st,fun e=>M.l0 (by simpa using e),fun e=>M.l1 (by simpa using e),fun e=>M.l2 (by simpa using e),fun e=>M.l3 (by simpa using e),fun e=>M.l4 (by simpa using e),fun e=>M.l5 (by simpa using e),fun e=>M.l6 (by simpa using e),fun e=>M.l7 (by simpa using e),fun e=>M.l8 (by simpa using e),fun e=>M.l9 (by simpa using e),fun e=>M.l10 (by simpa using e),fun e=>M.l11 (by simpa using e),fun e=>M.l12 (by simpa using e),fun _=>⟨l,ho2,hA,hl⟩,fun e=>M.l14 (by simpa using e),fun e=>M.l15 (by simpa using e)⟩,fun e=>by simp[h16]at e⟩
  ·have h16:L 16=false:=by
    cases h:L 16 with
    | false=>rfl
    | true=>exact absurd ((hfin h).1 14 (by omega)) (by rw[hL];simp)
   have M:=hpre h16;obtain rfl:=Option.some.inj ho;obtain rfl:=M.l0 (hdep { on:=0,ground:=.data } (by simp) (by rfl));obtain⟨a,rfl,a0,a1⟩:=M.l2 (hdep { on:=2,ground:=.data } (by simp) (by rfl));obtain⟨t,rfl,t0,t1⟩:=M.l7 (hdep { on:=7,ground:=.data } (by simp) (by rfl));have h20:=M.l10 (hdep { on:=10,ground:=.data } (by simp) (by rfl));have h23:=M.l13 (hdep { on:=13,ground:=.data } (by simp) (by rfl));obtain⟨A1,k1,c1,rfl⟩:=h20.slice;obtain⟨A2,k2,c2,rfl⟩:=h23.slice;refine wpOp_step rfl (fun K hK=>?_);go_simp;exact hK _ _ ⟨x7,_,x11,_,x13,x14,x15,x16,_,x18,x19,_,x21,x22,_,_,rfl,fun _=>⟨M.st,fun e=>M.l0 (by simpa using e),fun e=>M.l1 (by simpa using e),fun e=>M.l2 (by simpa using e),fun e=>M.l3 (by simpa using e),fun e=>M.l4 (by simpa using e),fun e=>M.l5 (by simpa using e),fun e=>M.l6 (by simpa using e),fun e=>M.l7 (by simpa using e),fun e=>M.l8 (by simpa using e),fun e=>M.l9 (by simpa using e),fun e=>M.l10 (by simpa using e),fun e=>M.l11 (by simpa using e),fun e=>M.l12 (by simpa using e),fun e=>M.l13 (by simpa using e),fun _=>⟨a,t,_,_,rfl,⟨a0,a1⟩,⟨t0,t1⟩,h20,h23⟩,fun e=>M.l15 (by simpa using e)⟩,fun e=>by simp[h16]at e⟩
  ·have h16:L 16=false:=by
    cases h:L 16 with
    | false=>rfl
    | true=>exact absurd ((hfin h).1 15 (by omega)) (by rw[hL];simp)
   have M:=hpre h16;obtain rfl:=Option.some.inj ho;refine wpOp_step rfl (fun K hK=>?_);go_simp;have hge:=M.st.size;have M:=M.go ((GSt.refl M.st.ok).alloc (.cells #[.string ⟨#[]⟩,.bool false,.int .i64 0,.int .i64 0,.int .i64 0,.int .i64 0,.slice none 0 0,.slice none 0 0,.slice none 0 0] 80));exact hK _ _ ⟨_,x10,x11,x12,x13,x14,x15,x16,x17,x18,x19,x20,x21,x22,x23,x24,rfl,fun _=>⟨M.st,fun e=>M.l0 (by simpa using e),fun e=>M.l1 (by simpa using e),fun e=>M.l2 (by simpa using e),fun e=>M.l3 (by simpa using e),fun e=>M.l4 (by simpa using e),fun e=>M.l5 (by simpa using e),fun e=>M.l6 (by simpa using e),fun e=>M.l7 (by simpa using e),fun e=>M.l8 (by simpa using e),fun e=>M.l9 (by simpa using e),fun e=>M.l10 (by simpa using e),fun e=>M.l11 (by simpa using e),fun e=>M.l12 (by simpa using e),fun e=>M.l13 (by simpa using e),fun e=>M.l14 (by simpa using e),fun _=>⟨W.heap.size,rfl,Bk.new W 80 [.string ⟨#[]⟩,.bool false,.int .i64 0,.int .i64 0,.int .i64 0,.int .i64 0,.slice none 0 0,.slice none 0 0,.slice none 0 0],hge⟩⟩,fun e=>by simp[h16]at e⟩
  ·have M:=hpre hL;obtain rfl:=Option.some.inj ho;obtain⟨b,rfl,hb,hge⟩:=M.l15 (hdep { on:=15,ground:=.data } (by simp) (by rfl));obtain⟨a,t,v1,v2,rfl,ha,ht,h1,h2⟩:=M.l14 (hdep { on:=14,ground:=.data } (by simp) (by rfl));obtain⟨A1,k1,c1,rfl⟩:=h1.slice;obtain⟨A2,k2,c2,rfl⟩:=h2.slice;have hall:∀j,j<16->(L j || j == 16)=true:=fun j hj=>by
    rcases(show j=0∨j=1∨j=2∨j=3∨j=4∨j=5∨j=6∨j=7∨j=8∨j=9∨j=10∨j=11∨j=12∨j=13∨j=14∨j=15 by omega)with rfl|rfl|rfl|rfl|rfl|rfl|rfl|rfl|rfl|rfl|rfl|rfl|rfl|rfl|rfl|rfl
    ·rw[hdep { on:=0,ground:=.phase } (by simp) (by rfl)];rfl
    ·rw[hdep { on:=1,ground:=.phase } (by simp) (by rfl)];rfl
    ·rw[hdep { on:=2,ground:=.phase } (by simp) (by rfl)];rfl
    ·rw[hdep { on:=3,ground:=.phase } (by simp) (by rfl)];rfl
    ·rw[hdep { on:=4,ground:=.phase } (by simp) (by rfl)];rfl
    ·rw[hdep { on:=5,ground:=.phase } (by simp) (by rfl)];rfl
    ·rw[hdep { on:=6,ground:=.phase } (by simp) (by rfl)];rfl
    ·rw[hdep { on:=7,ground:=.phase } (by simp) (by rfl)];rfl
    ·rw[hdep { on:=8,ground:=.phase } (by simp) (by rfl)];rfl
    ·rw[hdep { on:=9,ground:=.phase } (by simp) (by rfl)];rfl
    ·rw[hdep { on:=10,ground:=.phase } (by simp) (by rfl)];rfl
    ·rw[hdep { on:=11,ground:=.phase } (by simp) (by rfl)];rfl
    ·rw[hdep { on:=12,ground:=.phase } (by simp) (by rfl)];rfl
    ·rw[hdep { on:=13,ground:=.phase } (by simp) (by rfl)];rfl
    ·rw[hdep { on:=14,ground:=.phase } (by simp) (by rfl)];rfl
    ·rw[hdep { on:=15,ground:=.phase } (by simp) (by rfl)];rfl
   have z0:=hb.k0;have f0:=hb.frozen 0;have z1:=hb.k1;have f1:=hb.frozen 1;have z2:=hb.k2;have f2:=hb.frozen 2;have z3:=hb.k3;have f3:=hb.frozen 3;have z4:=hb.k4;have f4:=hb.frozen 4;have z5:=hb.k5;have f5:=hb.frozen 5;have z6:=hb.k6;have f6:=hb.frozen 6;have z7:=hb.k7;have f7:=hb.frozen 7;have z8:=hb.k8;have f8:=hb.frozen 8;have gl:=hb.lt;have q0:=hb;have s0:=M.st;have p0:=h1;have r0:=h2;have q1:=q0.set 0 (.string nm);have s1:=s0.set b 0 (.string nm) hge;have p1:=p0.set (k:=0) (u:=.string nm) q0;have r1:=r0.set (k:=0) (u:=.string nm) q0;have q2:=q1.set 1 (.bool false);have s2:=s1.set b 1 (.bool false) hge;have p2:=p1.set (k:=1) (u:=.bool false) q1;have r2:=r1.set (k:=1) (u:=.bool false) q1;have q3:=q2.set 2 (.int .i64 a);have s3:=s2.set b 2 (.int .i64 a) hge;have p3:=p2.set (k:=2) (u:=.int .i64 a) q2;have r3:=r2.set (k:=2) (u:=.int .i64 a) q2;have q4:=q3.set 3 (.int .i64 t);have s4:=s3.set b 3 (.int .i64 t) hge;have p4:=p3.set (k:=3) (u:=.int .i64 t) q3;have r4:=r3.set (k:=3) (u:=.int .i64 t) q3;have q5:=q4.set 4 (.int .i64 1);have s5:=s4.set b 4 (.int .i64 1) hge;have p5:=p4.set (k:=4) (u:=.int .i64 1) q4;have r5:=r4.set (k:=4) (u:=.int .i64 1) q4;have q6:=q5.set 5 (.int .i64 1);have s6:=s5.set b 5 (.int .i64 1) hge;have p6:=p5.set (k:=5) (u:=.int .i64 1) q5;have r6:=r5.set (k:=5) (u:=.int .i64 1) q5;have q7:=q6.set 6 (.slice A1 k1 c1);have s7:=s6.set b 6 (.slice A1 k1 c1) hge;have p7:=p6.set (k:=6) (u:=.slice A1 k1 c1) q6;have r7:=r6.set (k:=6) (u:=.slice A1 k1 c1) q6;have q8:=q7.set 7 (.slice A2 k2 c2);have s8:=s7.set b 7 (.slice A2 k2 c2) hge;have p8:=p7.set (k:=7) (u:=.slice A2 k2 c2) q7;have r8:=r7.set (k:=7) (u:=.slice A2 k2 c2) q7;have q9:=q8.set 8 (.slice none 0 0);have s9:=s8.set b 8 (.slice none 0 0) hge;have p9:=p8.set (k:=8) (u:=.slice none 0 0) q8;have r9:=r8.set (k:=8) (u:=.slice none 0 0) q8;have HF:=iH (show RMade V _ g nm n (.pointer (some ⟨b,0,none⟩)) from⟨b,a,t,_,_,rfl,q9,hge,ha,ht,p9,r9,s9⟩);clear q0 s0 p0 r0 q1 s1 p1 r1 q2 s2 p2 r2 q3 s3 p3 r3 q4 s4 p4 r4 q5 s5 p5 r5 q6 s6 p6 r6 q7 s7 p7 r7 q8 s8 p8 r8 q9 s9 p9 r9 M;refine wpOp_step rfl (fun K hK=>?_);go_simp;exact hK _ _ ⟨_,x10,x11,x12,x13,x14,x15,x16,x17,x18,x19,x20,x21,x22,x23,_,rfl,fun e=>by simp at e,fun _=>⟨hall,HF.out⟩⟩
 ·intro L a W hall hI;obtain⟨x7,x10,x11,x12,x13,x14,x15,x16,x17,x18,x19,x20,x21,x22,x23,x24,rfl,hpre,hfin⟩:=hI;obtain⟨b,le,ti,v1,v2,rfl,hbk,hge,hle,hti,h1,h2,hst⟩:=(hfin (hall 16 (by decide))).2;obtain⟨tk,o1,hA1,hl1⟩:=h1;obtain⟨gv,o2,hA2,hl2⟩:=h2;obtain⟨A1,c1,rfl,_⟩:=row_of_owns o1;obtain⟨A2,c2,rfl,_⟩:=row_of_owns o2;have HR0:Hid (RuAt V W W.heap.size g w.heap.size b nm le ti 1 1 ⟨A1,tk.length,c1⟩ ⟨A2,gv.length,c2⟩ (.slice none 0 0) tk gv []):=by
   refine⟨hst,hst.bk HK0.out ?_,HK0.out.lt,?_,hbk,hge,prV_own o1 hA1 hn (by omega),prV_own o2 hA2 hn (by omega),?_,?_,World.ownsRow_nil _ _ _ _,hst.size,Nat.le_refl _⟩
   ·exact hgw
   ·exact hgw
   ·intro b' o' e;have:=o1.lt b' (by dsimp only at e;rw[e];rfl);omega
   ·intro b' o' e;have:=o2.lt b' (by dsimp only at e;rw[e];rfl);omega
  have HA1:=iH hA1;have HA2:=iH hA2;clear hpre hfin hall hbk o1 o2 hst hA1 hA2;obtain⟨B0,hB0⟩:∃B0,W.heap.size=B0:=⟨_,rfl⟩;rw[hB0]at HR0;clear hB0;obtain⟨nt,hnt⟩:∃nt,tk.length=nt:=⟨_,rfl⟩;have Hnt:=iH hnt;rw[hnt]at HR0 hl1;clear hnt;go_wp2_with fail;(with_reducible refine(next_g 3 HR0.out.st.ok (by omega) (by omega)).mono ?_);rintro e w2 ⟨x,rfl,x0,x1,hs⟩;have HR1:=iH (HR0.out.next hs);clear hs HR0;go_upto_if 27 with fail;go_cut [7] (fun v wx=>v=.pointer (some ⟨b,0,none⟩)∧∃ch of_,(1<=ch∧ch<=of_∧of_<=10)∧RuAt V wx B0 g w.heap.size b nm le ti ch of_ ⟨A1,nt,c1⟩ ⟨A2,gv.length,c2⟩ (.slice none 0 0) tk gv [])
  case first =>
   by_cases hx:x=0
   ·subst hx;go_wp2_with fail;(with_reducible refine(next_g 9 HR1.out.st.ok (by omega) (by omega)).mono ?_);rintro e w3 ⟨p,rfl,p0,p1,hs⟩;have HR2:=iH (HR1.out.next hs);have z:=HR2.out.bx.k5;have f:=HR2.out.bx.frozen 5;have l:=HR2.out.bx.lt;have HR3:=iH (HR2.out.set5 (2+p));clear hs HR1;go_upto_region 4 with fail;obtain⟨W3,hW3⟩:∃W3,w3.setCell ⟨b,5,none⟩ (.int .i64 (2+p))=W3:=⟨_,rfl⟩;rw[hW3]at HR3⊢;clear hW3 z f l HR2;have z:=HR3.out.bx.k5;have l:=HR3.out.bx.lt;go_wp2_with fail;(with_reducible refine(next_g (2+p) HR3.out.st.ok (by omega) (by omega)).mono ?_);rintro e w4 ⟨q,rfl,q0,q1,hs⟩;have HR4:=iH (HR3.out.next hs);clear hs HR3 z l;have z:=HR4.out.bx.k4;have f:=HR4.out.bx.frozen 4;have l:=HR4.out.bx.lt;have HR5:=iH (HR4.out.set4 (1+q));go_wp2;go_meet;exact⟨rfl,1+q,2+p,⟨by omega,by omega,by omega⟩,HR5.out⟩
   ·have e1:(x == 0)=false:=by simpa using hx
    go_wp2;go_meet;exact⟨rfl,1,1,⟨by omega,by omega,by omega⟩,HR1.out⟩
  case rest =>
   obtain⟨rfl,ch,of_,hch,hR⟩:=hcut;have HR:=iH hR;clear hR HR1;obtain⟨W5,hW5⟩:∃W5,wc=W5:=⟨_,rfl⟩;rw[hW5]at HR⊢;clear hW5;go_upto_region 5 with fail;go_cut [47] (fun v wx=>∃q:Bool,v=.bool q∧(q=true->ch<of_)∧RuAt V wx B0 g w.heap.size b nm le ti ch of_ ⟨A1,nt,c1⟩ ⟨A2,gv.length,c2⟩ (.slice none 0 0) tk gv [])
   case first =>
    have z4:=HR.out.bx.k4;have z5:=HR.out.bx.k5;have l:=HR.out.bx.lt;by_cases hlt:ch<of_
    ·have e1:decide (ch<of_)=true:=decide_eq_true hlt;go_wp2_with fail;(with_reducible refine(next_g 3 HR.out.st.ok (by omega) (by omega)).mono ?_);rintro e w6 ⟨y,rfl,y0,y1,hs⟩;have HR6:=iH (HR.out.next hs);clear hs HR z4 z5 l;go_wp2;go_meet;exact⟨_,rfl,fun _=>hlt,HR6.out⟩
    ·have e1:decide (ch<of_)=false:=decide_eq_false hlt;go_wp2;go_meet;exact⟨false,rfl,fun e=>by simp at e,HR.out⟩
   case rest =>
    obtain⟨q,rfl,hq,hR⟩:=hcut;clear HR;have HR:=iH hR;have Hq:=iH hq;clear hR hq;obtain⟨W6,hW6⟩:∃W6,wc=W6:=⟨_,rfl⟩;rw[hW6]at HR⊢;clear hW6;go_upto_if 47 with fail;go_cut [7] (fun v wx=>v=.pointer (some ⟨b,0,none⟩)∧∃vb bk,SubA tk bk∧(bk≠[]->ch<of_)∧RuAt V wx B0 g w.heap.size b nm le ti ch of_ ⟨A1,nt,c1⟩ ⟨A2,gv.length,c2⟩ vb tk gv bk)
    case first =>
     cases q
     ·have HE:=iH (SubA.empty tk);go_wp2;go_meet;exact⟨rfl,_,[],HE.out,fun e=>absurd rfl e,HR.out⟩
     have hlt:=Hq.out rfl;go_wp2_with fail;go_loopw [8] (fun i wx=>∃(k:Nat) (vb:Value) (bk:List P2),k<=nt∧i=.int .i64 k∧SubA (tk.take k) bk∧RuAt V wx B0 g w.heap.size b nm le ti ch of_ ⟨A1,nt,c1⟩ ⟨A2,gv.length,c2⟩ vb tk gv bk) (fun i _=>nt-(intOf i).toNat)
     case atStart=>exact⟨0,_,[],Nat.zero_le _,rfl,.nil,HR.out⟩
     case round =>
      clear HR;obtain⟨k,vb,bk,hk,rfl,hS,hR⟩:=hrel;have HR:=iH hR;have HSu:=iH hS;have hbl:bk.length<=k:=by have:=hS.len;rw[List.length_take]at this;omega
      clear hR hS;have z6:=HR.out.bx.k6;have l:=HR.out.bx.lt;by_cases hkt:k<nt
      ·have hkl:k<tk.length:=by rw[Hnt.out];exact hkt
       have hAt:=HR.out.take.at_ k hkl;dsimp only at hAt;obtain⟨bt,ot,hAt1,hbt,t0,t1⟩:=hAt;have hp:=HA1.out.2 _ (List.getElem_mem hkl);have HTk:=iH (List.take_succ_eq_append_getElem hkl);obtain⟨p,hp0⟩:∃p,tk[k]=p:=⟨_,rfl⟩;rw[hp0]at t0 t1 hp HTk;have Hkk:=iH hp0;clear hp0;obtain⟨x,N⟩:=p;dsimp only at *;subst hAt1;have kk0:(0:Int)<=(k:Int):=by omega
       have kk1:(k:Int)<(nt:Int):=by omega
       go_wp2_with fail;(with_reducible refine(next_g (N+1) HR.out.st.ok (by omega) (by omega)).mono ?_);rintro e w7 ⟨m,rfl,m0,m1,hs⟩;have HR7:=iH (HR.out.next hs);clear hs HR z6 l t0 t1;by_cases hm:0<m
       ·have HS2:Hid (SubA (tk.take (k+1)) (bk ++ [(x,m)])):=by show SubA _ _;rw[HTk.out];exact .take _ _ _ HSu.out (by omega) (by omega)
        obtain⟨Ab,cb,rfl,_⟩:=row_of_owns HR7.out.own;obtain⟨nb,hnb⟩:∃nb,bk.length=nb:=⟨_,rfl⟩;have HRx:Hid (RuAt V (w7.drew.alloc (.cells #[.int .i64 x,.int .i64 m] 132)) B0 g w.heap.size b nm le ti ch of_ ⟨some ⟨bt,ot,none⟩,nt,c1⟩ ⟨A2,gv.length,c2⟩ (.slice Ab bk.length cb) tk gv bk):=HR7.out.next ((GSt.refl HR7.out.st.ok).below ((Below.refl _ _).drew.alloc (Nat.le_refl _) _));have FIN:Hid (∀(g' cap:Nat) (w8:World),w8.ownsRow B0 132 2 (.slice (some ⟨g',0,none⟩) (nb+1) cap) (nb+1) (pcells bk ++ [.int .i64 x,.int .i64 m])->(w7.drew.alloc (.cells #[.int .i64 x,.int .i64 m] 132)).grownBy w8 (Value.slice Ab nb cb).ownBlock ->
         (w8.cell? ⟨b,8,none⟩=some (.slice Ab nb cb)∧w8.frozen? ⟨b,8,none⟩=false∧b<w8.heap.size)∧RuAt V (w8.setCell ⟨b,8,none⟩ (.slice (some ⟨g',0,none⟩) (nb+1) cap)) B0 g w.heap.size b nm le ti ch of_ ⟨some ⟨bt,ot,none⟩,nt,c1⟩ ⟨A2,gv.length,c2⟩ (.slice (some ⟨g',0,none⟩) (nb+1) cap) tk gv (bk ++ [(x,m)])):=fun g' cap w8 ho hgr=>by
         have h1:=HRx.out;rw[hnb]at h1;have h2:=h1.app (bk':=bk ++ [(x,m)]) (vb':=.slice (some ⟨g',0,none⟩) (nb+1) cap) hgr (by rw[List.length_append,hnb,pcells_snoc];exact ho);exact⟨⟨h2.1.cell 8,h2.1.frozen 8,h2.1.lt⟩,h2.2⟩
        have OWN:Hid ((w7.drew.alloc (.cells #[.int .i64 x,.int .i64 m] 132)).ownsRow B0 132 2 (.slice Ab nb cb) nb (pcells bk)):=by have h1:=HRx.out.own;rw[hnb]at h1;exact h1
        have C1:=iH (new2 w7.drew 132 (.int .i64 x) (.int .i64 m));have C3:Hid (nb+1<=maxLen):=by show nb+1<=maxLen;unfold maxLen;omega
        have C4:Hid ((nb+1)*16<=140737488355328):=by show(nb+1)*16<=140737488355328;omega
        have C5:Hid (B0<=(w7.drew.alloc (.cells #[.int .i64 x,.int .i64 m] 132)).heap.size):=by show B0<=_;have:=HR7.out.b1;simp;omega
        have C6:Hid ((w7.drew.alloc (.cells #[.int .i64 x,.int .i64 m] 132)).heap.size=w7.heap.size+1):=by show _=_;simp
        have hAt:=HR7.out.take.at_ k (by rw[Hnt.out];exact hkt);have z6:=HR7.out.bx.k6;have z8:w7.cell? ⟨b,8,none⟩=some (.slice Ab nb cb):=by have h1:=HR7.out.bx.k8;rw[hnb]at h1;exact h1
        have t0:w7.cell? ⟨bt,ot+k*2,none⟩=some (.int .i64 x):=by
         dsimp only at hAt;obtain⟨b',o',e',_,q0,_⟩:=hAt;cases e';have e2:tk[k]'(by rw[Hnt.out];exact hkt)=(x,N):=Hkk.out;rw[e2]at q0;exact q0
        have l:=HR7.out.bx.lt;have HB7:=iH hbt;rw[hnb]at hbl;clear hAt HRx hnb HR7;go_wp2_with fail
        go_region_law (refine step_append_lies _ rfl (.tmp 67) (.tmp 76) 78 rfl B0 132 i0 (.agg #[.int .i64 0,.int .i64 0]) 2 16 Tryz.underlying78 hinf hz0 hz1 hz2 rfl (by decide) _ nb (pcells bk) rfl OWN.out ⟨w7.heap.size,0,none⟩ 1 1 [.int .i64 x,.int .i64 m] rfl rfl C1.out (one2 x m) (by omega) C3.out C4.out C5.out (w7.heap.size+1) C6.out ?_;intro g' cap w8 hown hgr hat hlt8;obtain⟨⟨k3,f3,l3⟩,hpost⟩:=FIN.out _ _ _ hown hgr;have HP:=iH hpost;clear hpost hown hgr hat)
        all_goals
         go_wp2;go_roundw
         case rel=>exact⟨k+1,_,_,by omega,by go_num,HS2.out,HP.out⟩
         case measure=>simp[intOf];omega
       ·have HS2:Hid (SubA (tk.take (k+1)) bk):=by show SubA _ _;rw[HTk.out];exact .skip _ HSu.out
        go_wp2;go_roundw
        case rel=>exact⟨k+1,vb,bk,by omega,by go_num,HS2.out,HR7.out⟩
        case measure=>simp[intOf];omega
      ·obtain rfl:nt=k:=by omega
       have HS2:Hid (SubA tk bk):=by
        have h1:=HSu.out;rw[List.take_of_length_le (by rw[Hnt.out];omega)]at h1;exact h1
       go_wp2;go_meet;exact⟨rfl,vb,bk,HS2.out,fun _=>hlt,HR.out⟩
    case rest =>
     obtain⟨rfl,vb,bk,hS,hne,hR⟩:=hcut;clear HR;have HR:=iH hR;have HSu:=iH hS;have Hne:=iH hne;clear hR hS hne Hq;obtain⟨W8,hW8⟩:∃W8,wc=W8:=⟨_,rfl⟩;rw[hW8]at HR⊢;clear hW8;go_upto_region 12 with fail;go_cut [87] (fun v wx=>v=.bool (((nt:Int) == 0) && (ti == 0))∧W8=wx)
     case first =>
      have z6:=HR.out.bx.k6;have z3:=HR.out.bx.k3;have l:=HR.out.bx.lt;cases hq:((nt:Int) == 0)
      ·go_wp2;go_meet;exact⟨by rw[hq];rfl,rfl⟩
      ·go_wp2;go_meet;exact⟨by rw[hq];rfl,rfl⟩
     case rest =>
      obtain⟨rfl,rfl⟩:=hcut;go_upto_if 87 with fail;go_cut [7] (fun v wx=>v=.pointer (some ⟨b,0,none⟩)∧∃ti',(0<=ti'∧ti'<=20)∧(nt=0->ti'≠0)∧RuAt V wx B0 g w.heap.size b nm le ti' ch of_ ⟨A1,nt,c1⟩ ⟨A2,gv.length,c2⟩ vb tk gv bk)
      case first =>
       cases hq:(((nt:Int) == 0) && (ti == 0))
       ·have hq2:nt=0->ti≠0:=fun e e2=>by subst e e2;simp at hq
        have Hq2:=iH hq2;clear hq2;go_wp2;go_meet;exact⟨rfl,ti,hti,Hq2.out,HR.out⟩
       ·have z:=HR.out.bx.k3;have f:=HR.out.bx.frozen 3;have l:=HR.out.bx.lt;have HR9:=iH (HR.out.set3 1);go_wp2;go_meet;exact⟨rfl,1,⟨by omega,by omega⟩,fun _=>by omega,HR9.out⟩
      case rest =>
       obtain⟨rfl,ti',ht',hnt',hR⟩:=hcut;clear HR;have HR:=iH hR;have Hnt':=iH hnt';clear hR hnt';obtain⟨W9,hW9⟩:∃W9,wc=W9:=⟨_,rfl⟩;rw[hW9]at HR⊢;clear hW9;obtain⟨Ab,cb,rfl,_⟩:=row_of_owns HR.out.own;have HD:=iH (HR.out.done (s3:=⟨Ab,bk.length,cb⟩) rfl HwV.out (Nat.le_refl _) hnm hn HA1.out HA2.out (by rw[Hnt.out];exact hl1) hl2 HSu.out hle ht' hch (fun e=>Hnt'.out (by rw[<- Hnt.out];exact e)) Hne.out);dsimp only at HD;obtain⟨nb,hnb⟩:∃nb,bk.length=nb:=⟨_,rfl⟩;obtain⟨ng,hng⟩:∃ng,gv.length=ng:=⟨_,rfl⟩;have hbx:=HR.out.bx;dsimp only at hbx;rw[hnb,hng]at hbx;rw[hnb,hng]at HD;clear hnb hng;have x0':W9.cell? ⟨b,0,none⟩=some (.string nm):=hbx.cell 0;have r0':W9.cell? ⟨w.heap.size,0,none⟩=some (.string ⟨#[]⟩):=HR.out.res.cell 0;have f0':=HR.out.res.frozen 0;have x1':W9.cell? ⟨b,1,none⟩=some (.bool false):=hbx.cell 1;have r1':W9.cell? ⟨w.heap.size,1,none⟩=some (.bool false):=HR.out.res.cell 1;have f1':=HR.out.res.frozen 1;have x2':W9.cell? ⟨b,2,none⟩=some (.int .i64 le):=hbx.cell 2;have r2':W9.cell? ⟨w.heap.size,2,none⟩=some (.int .i64 0):=HR.out.res.cell 2;have f2':=HR.out.res.frozen 2;have x3':W9.cell? ⟨b,3,none⟩=some (.int .i64 ti'):=hbx.cell 3;have r3':W9.cell? ⟨w.heap.size,3,none⟩=some (.int .i64 0):=HR.out.res.cell 3;have f3':=HR.out.res.frozen 3;have x4':W9.cell? ⟨b,4,none⟩=some (.int .i64 ch):=hbx.cell 4;have r4':W9.cell? ⟨w.heap.size,4,none⟩=some (.int .i64 0):=HR.out.res.cell 4;have f4':=HR.out.res.frozen 4;have x5':W9.cell? ⟨b,5,none⟩=some (.int .i64 of_):=hbx.cell 5;have r5':W9.cell? ⟨w.heap.size,5,none⟩=some (.int .i64 0):=HR.out.res.cell 5;have f5':=HR.out.res.frozen 5;have x6':W9.cell? ⟨b,6,none⟩=some (.slice A1 nt c1):=hbx.cell 6;have r6':W9.cell? ⟨w.heap.size,6,none⟩=some (.slice none 0 0):=HR.out.res.cell 6;have f6':=HR.out.res.frozen 6;have x7':W9.cell? ⟨b,7,none⟩=some (.slice A2 ng c2):=hbx.cell 7;have r7':W9.cell? ⟨w.heap.size,7,none⟩=some (.slice none 0 0):=HR.out.res.cell 7;have f7':=HR.out.res.frozen 7;have x8':W9.cell? ⟨b,8,none⟩=some (.slice Ab nb cb):=hbx.cell 8;have r8':W9.cell? ⟨w.heap.size,8,none⟩=some (.slice none 0 0):=HR.out.res.cell 8;have f8':=HR.out.res.frozen 8;have hl9:=HR.out.bx.lt;have hl0:=HR.out.res.lt;clear hbx HR;go_wp2;have t1:=HD.out.2;refine bodyPost_ret (v:=.agg #[.string nm,.bool false,.int .i64 le,.int .i64 ti',.int .i64 ch,.int .i64 of_,.slice A1 nt c1,.slice A2 ng c2,.slice Ab nb cb]) (by simp[results,Tryz.results35,go_sem,World.cell?,t1]) rfl HD.out.1
end
end
section
set_option linter.unusedVariables false
set_option linter.unusedSimpArgs false
section
abbrev nil4:List Value:=[.slice none 0 0,.slice none 0 0,.slice none 0 0,.slice none 0 0]
structure CtAt (V W : World) (g rb cb : Nat) (m : CatM) : Prop where
 st:GSt V W g
 res:Bk W rb 28 nil4
 rlt:rb<V.heap.size
 rne:rb≠g
 bx:Bk W cb 28 (catSL m.si m.sr m.st m.sx)
 ge:V.heap.size<=cb
 ok:m.Ok W
theorem CatM.Ok.keeps {W W':World} {m:CatM} (h:m.Ok W) (k:∀t,t≠73->t≠28->Keep t W W'):m.Ok W' :=
 ⟨h.items.keep (k 76 (by decide) (by decide)),h.rules.keep (k 80 (by decide) (by decide)) (k 132 (by decide) (by decide)),h.tables.keep (k 86 (by decide) (by decide)) (k 88 (by decide) (by decide)) (k 132 (by decide) (by decide)),h.taxes.keep (k 93 (by decide) (by decide)) (k 90 (by decide) (by decide))⟩
def rucells (l:List RuM):List Value:=l.flatMap RuM.cells
def tbcells (l:List TbM):List Value:=l.flatMap TbM.cells
def txcells (l:List TxM):List Value:=l.flatMap TxM.cells
theorem rucells_snoc (l:List RuM) (t:RuM):rucells (l ++ [t])=rucells l ++ t.cells:=by simp[rucells]
theorem tbcells_snoc (l:List TbM) (t:TbM):tbcells (l ++ [t])=tbcells l ++ t.cells:=by simp[tbcells]
theorem txcells_snoc (l:List TxM) (t:TxM):txcells (l ++ [t])=txcells l ++ t.cells:=by simp[txcells]
section
variable {V W W' : World} {g rb cb : Nat} {m : CatM}
theorem CtAt.cne (h:CtAt V W g rb cb m):cb≠g:=by have:=h.st.lt;have:=h.ge;omega
theorem CtAt.next (h:CtAt V W g rb cb m) (k:GSt W W' g):CtAt V W' g rb cb m :=
 ⟨h.st.trans k,k.bk h.res h.rne,h.rlt,h.rne,k.bk h.bx h.cne,h.ge,h.ok.keeps fun t h1 _=>k.keep h.st.ok t h1⟩
theorem CtAt.below (h:CtAt V W g rb cb m) (hb:Below W.heap.size W W'):CtAt V W' g rb cb m:=h.next ((GSt.refl h.st.ok).below hb)
theorem CtAt.addI {n:Nat} {A':Option Addr} {k' c':Nat} {t:It} (h:CtAt V W g rb cb m) (ho:W.ownsRow V.heap.size 76 7 (.slice m.si.A m.si.n m.si.c) n (icells m.items)) (hg:W.grownBy W' (Value.slice m.si.A m.si.n m.si.c).ownBlock)
 (hn:W'.ownsRow V.heap.size 76 7 (.slice A' k' c') k' (icells (m.items ++ [t]))) (hk:k'=(m.items ++ [t]).length) (hsm:k'<=100000) (ht:t.name.size<=8192) :
 Bk W' cb 28 (catSL m.si m.sr m.st m.sx)∧CtAt V (W'.setCell ⟨cb,0,none⟩ (.slice A' k' c')) g rb cb { m with items:=m.items ++ [t],si:=⟨A',k',c'⟩ } ∧ (W'.setCell ⟨cb,0,none⟩ (.slice A' k' c')).ownsRow V.heap.size 76 7 (.slice A' k' c') k' (icells (m.items ++ [t])):=by
 have hbase:=row_base ho;have hr:=h.rlt;have hge:=h.ge;have kb:=h.bx.grown hg (fun e=>row_neT ho h.bx (by decide) e.symm);have kp:∀q,(76:TypeId)≠q->Keep q W W':=fun q hq=>Keep.own ho hg hq
 have ks:∀q,(28:TypeId)≠q->Keep q W' (W'.setCell ⟨cb,0,none⟩ (.slice A' k' c')):=fun q hq=>Keep.setCell kb hq _
 refine⟨kb,⟨(h.st.grow hg hbase).set _ _ _ h.ge,(h.res.grown hg (fun e=>by have:=hbase rb e.symm;omega)).far (by simp;omega) _,h.rlt,h.rne,kb.set 0 _,h.ge,?_⟩,hn.kept (grown_setCell W' cb 0 _) (.inr (row_neT hn kb (by decide)))⟩;exact⟨⟨(TRow.of_own hn).keep (ks 76 (by decide)),hk,hsm,fun x hx=>by
  rcases List.mem_append.1 hx with h1|h1
  ·exact h.ok.items.each x h1
  ·rw[List.mem_singleton.1 h1];exact ht⟩,(h.ok.rules.keep (kp 80 (by decide)) (kp 132 (by decide))).keep (ks 80 (by decide)) (ks 132 (by decide)),(h.ok.tables.keep (kp 86 (by decide)) (kp 88 (by decide)) (kp 132 (by decide))).keep (ks 86 (by decide)) (ks 88 (by decide)) (ks 132 (by decide)),(h.ok.taxes.keep (kp 93 (by decide)) (kp 90 (by decide))).keep (ks 93 (by decide)) (ks 90 (by decide))⟩
theorem CtAt.addR {n:Nat} {A':Option Addr} {k' c':Nat} {t:RuM} (h:CtAt V W g rb cb m) (ho:W.ownsRow V.heap.size 80 9 (.slice m.sr.A m.sr.n m.sr.c) n (rucells m.rules)) (hg:W.grownBy W' (Value.slice m.sr.A m.sr.n m.sr.c).ownBlock)
 (hn:W'.ownsRow V.heap.size 80 9 (.slice A' k' c') k' (rucells (m.rules ++ [t]))) (hk:k'=(m.rules ++ [t]).length) (hsm:k'<=100000) (ht:t.Ok W') :
 Bk W' cb 28 (catSL m.si m.sr m.st m.sx)∧CtAt V (W'.setCell ⟨cb,1,none⟩ (.slice A' k' c')) g rb cb { m with rules:=m.rules ++ [t],sr:=⟨A',k',c'⟩ } ∧ (W'.setCell ⟨cb,1,none⟩ (.slice A' k' c')).ownsRow V.heap.size 80 9 (.slice A' k' c') k' (rucells (m.rules ++ [t])):=by
 have hbase:=row_base ho;have hr:=h.rlt;have hge:=h.ge;have kb:=h.bx.grown hg (fun e=>row_neT ho h.bx (by decide) e.symm);have kp:∀q,(80:TypeId)≠q->Keep q W W':=fun q hq=>Keep.own ho hg hq
 have ks:∀q,(28:TypeId)≠q->Keep q W' (W'.setCell ⟨cb,1,none⟩ (.slice A' k' c')):=fun q hq=>Keep.setCell kb hq _
 refine⟨kb,⟨(h.st.grow hg hbase).set _ _ _ h.ge,(h.res.grown hg (fun e=>by have:=hbase rb e.symm;omega)).far (by simp;omega) _,h.rlt,h.rne,kb.set 1 _,h.ge,?_⟩,hn.kept (grown_setCell W' cb 1 _) (.inr (row_neT hn kb (by decide)))⟩;exact⟨(h.ok.items.keep (kp 76 (by decide))).keep (ks 76 (by decide)),⟨(TRow.of_own hn).keep (ks 80 (by decide)),hk,hsm,fun x hx=>by
  rcases List.mem_append.1 hx with h1|h1
  ·exact((h.ok.rules.each x h1).keep (kp 132 (by decide))).keep (ks 132 (by decide))
  ·rw[List.mem_singleton.1 h1];exact ht.keep (ks 132 (by decide))⟩,(h.ok.tables.keep (kp 86 (by decide)) (kp 88 (by decide)) (kp 132 (by decide))).keep (ks 86 (by decide)) (ks 88 (by decide)) (ks 132 (by decide)),(h.ok.taxes.keep (kp 93 (by decide)) (kp 90 (by decide))).keep (ks 93 (by decide)) (ks 90 (by decide))⟩
theorem CtAt.addT {n:Nat} {A':Option Addr} {k' c':Nat} {t:TbM} (h:CtAt V W g rb cb m) (ho:W.ownsRow V.heap.size 86 2 (.slice m.st.A m.st.n m.st.c) n (tbcells m.tables)) (hg:W.grownBy W' (Value.slice m.st.A m.st.n m.st.c).ownBlock)
 (hn:W'.ownsRow V.heap.size 86 2 (.slice A' k' c') k' (tbcells (m.tables ++ [t]))) (hk:k'=(m.tables ++ [t]).length) (hsm:k'<=100000) (ht:t.Ok W') :
 Bk W' cb 28 (catSL m.si m.sr m.st m.sx)∧CtAt V (W'.setCell ⟨cb,2,none⟩ (.slice A' k' c')) g rb cb { m with tables:=m.tables ++ [t],st:=⟨A',k',c'⟩ } ∧ (W'.setCell ⟨cb,2,none⟩ (.slice A' k' c')).ownsRow V.heap.size 86 2 (.slice A' k' c') k' (tbcells (m.tables ++ [t])):=by
 have hbase:=row_base ho;have hr:=h.rlt;have hge:=h.ge;have kb:=h.bx.grown hg (fun e=>row_neT ho h.bx (by decide) e.symm);have kp:∀q,(86:TypeId)≠q->Keep q W W':=fun q hq=>Keep.own ho hg hq
 have ks:∀q,(28:TypeId)≠q->Keep q W' (W'.setCell ⟨cb,2,none⟩ (.slice A' k' c')):=fun q hq=>Keep.setCell kb hq _
 refine⟨kb,⟨(h.st.grow hg hbase).set _ _ _ h.ge,(h.res.grown hg (fun e=>by have:=hbase rb e.symm;omega)).far (by simp;omega) _,h.rlt,h.rne,kb.set 2 _,h.ge,?_⟩,hn.kept (grown_setCell W' cb 2 _) (.inr (row_neT hn kb (by decide)))⟩;exact⟨(h.ok.items.keep (kp 76 (by decide))).keep (ks 76 (by decide)),(h.ok.rules.keep (kp 80 (by decide)) (kp 132 (by decide))).keep (ks 80 (by decide)) (ks 132 (by decide)),⟨(TRow.of_own hn).keep (ks 86 (by decide)),hk,hsm,fun x hx=>by
  rcases List.mem_append.1 hx with h1|h1
  ·exact⟨((h.ok.tables.each x h1).rows.keep (kp 88 (by decide)) (kp 132 (by decide))).keep (ks 88 (by decide)) (ks 132 (by decide)),(h.ok.tables.each x h1).name⟩
  ·rw[List.mem_singleton.1 h1];exact⟨ht.rows.keep (ks 88 (by decide)) (ks 132 (by decide)),ht.name⟩⟩,(h.ok.taxes.keep (kp 93 (by decide)) (kp 90 (by decide))).keep (ks 93 (by decide)) (ks 90 (by decide))⟩
theorem CtAt.addX {n:Nat} {A':Option Addr} {k' c':Nat} {t:TxM} (h:CtAt V W g rb cb m) (ho:W.ownsRow V.heap.size 93 2 (.slice m.sx.A m.sx.n m.sx.c) n (txcells m.taxes)) (hg:W.grownBy W' (Value.slice m.sx.A m.sx.n m.sx.c).ownBlock)
 (hn:W'.ownsRow V.heap.size 93 2 (.slice A' k' c') k' (txcells (m.taxes ++ [t]))) (hk:k'=(m.taxes ++ [t]).length) (hsm:k'<=100000) (ht:t.Ok W') :
 Bk W' cb 28 (catSL m.si m.sr m.st m.sx)∧CtAt V (W'.setCell ⟨cb,3,none⟩ (.slice A' k' c')) g rb cb { m with taxes:=m.taxes ++ [t],sx:=⟨A',k',c'⟩ } ∧ (W'.setCell ⟨cb,3,none⟩ (.slice A' k' c')).ownsRow V.heap.size 93 2 (.slice A' k' c') k' (txcells (m.taxes ++ [t])):=by
 have hbase:=row_base ho;have hr:=h.rlt;have hge:=h.ge;have kb:=h.bx.grown hg (fun e=>row_neT ho h.bx (by decide) e.symm);have kp:∀q,(93:TypeId)≠q->Keep q W W':=fun q hq=>Keep.own ho hg hq
 have ks:∀q,(28:TypeId)≠q->Keep q W' (W'.setCell ⟨cb,3,none⟩ (.slice A' k' c')):=fun q hq=>Keep.setCell kb hq _
 refine⟨kb,⟨(h.st.grow hg hbase).set _ _ _ h.ge,(h.res.grown hg (fun e=>by have:=hbase rb e.symm;omega)).far (by simp;omega) _,h.rlt,h.rne,kb.set 3 _,h.ge,?_⟩,hn.kept (grown_setCell W' cb 3 _) (.inr (row_neT hn kb (by decide)))⟩;exact⟨(h.ok.items.keep (kp 76 (by decide))).keep (ks 76 (by decide)),(h.ok.rules.keep (kp 80 (by decide)) (kp 132 (by decide))).keep (ks 80 (by decide)) (ks 132 (by decide)),(h.ok.tables.keep (kp 86 (by decide)) (kp 88 (by decide)) (kp 132 (by decide))).keep (ks 86 (by decide)) (ks 88 (by decide)) (ks 132 (by decide)),⟨(TRow.of_own hn).keep (ks 93 (by decide)),hk,hsm,fun x hx=>by
  rcases List.mem_append.1 hx with h1|h1
  ·exact⟨((h.ok.taxes.each x h1).brs.keep (kp 90 (by decide))).keep (ks 90 (by decide)),(h.ok.taxes.each x h1).name⟩
  ·rw[List.mem_singleton.1 h1];exact⟨ht.brs.keep (ks 90 (by decide)),ht.name⟩⟩⟩
end
end
section
theorem trow_str {W:World} {b off:Nat} {l:List ByteArray} (h:TRow W 9 (some ⟨b,off,none⟩) (strs l)) (k:Nat) (hk:k<l.length):W.cell? ⟨b,off+k,none⟩=some (.string l[k]):=by
 obtain⟨b',off',hA,hb,hc⟩:=h.row.at_ k (by simpa[strs]using hk);cases hA;exact hc k _ (by simp[strs,hk])
theorem trow_some {W:World} {A:Option Addr} {l:List ByteArray} (h:TRow W 9 A (strs l)) (hl:0<l.length):∃b off,A=some ⟨b,off,none⟩∧b<W.heap.size:=by
 obtain⟨b',off',hA,hb,hc⟩:=h.row.at_ 0 (by simpa[strs]using hl);exact⟨b',off',hA,hb⟩
theorem GSt.keeps {V W:World} {g:Nat} (h:GSt V W g) (hg:GOk V g):∀q,q≠73->Keep q V W:=fun q hq=>h.keep hg q hq
structure CtI (V W : World) (g rb cb : Nat) (m : CatM) : Prop where
 ct:CtAt V W g rb cb m
 own:W.ownsRow V.heap.size 76 7 (.slice m.si.A m.si.n m.si.c) m.items.length (icells m.items)
section
variable {V W W' : World} {g rb cb : Nat} {m : CatM}
theorem CtI.next (h:CtI V W g rb cb m) (k:GSt W W' g):CtI V W' g rb cb m :=
 ⟨h.ct.next k,k.own h.own (fun e=>by have:=row_base h.own g e;have:=h.ct.st.lt;omega)⟩
theorem CtI.below (h:CtI V W g rb cb m) (hb:Below W.heap.size W W'):CtI V W' g rb cb m:=h.next ((GSt.refl h.ct.st.ok).below hb)
theorem CtI.app {A':Option Addr} {k' c':Nat} {t:It} (h:CtI V W g rb cb m) (hg:W.grownBy W' (Value.slice m.si.A m.si.n m.si.c).ownBlock)
 (hn:W'.ownsRow V.heap.size 76 7 (.slice A' k' c') k' (icells (m.items ++ [t]))) (hk:k'=m.items.length+1) (hsm:k'<=100000) (ht:t.name.size<=8192) :
 Bk W' cb 28 (catSL m.si m.sr m.st m.sx)∧(∀q,76≠q->Keep q W W')∧(∀q,28≠q->Keep q W' (W'.setCell ⟨cb,0,none⟩ (.slice A' k' c')))∧CtI V (W'.setCell ⟨cb,0,none⟩ (.slice A' k' c')) g rb cb { m with items:=m.items ++ [t],si:=⟨A',k',c'⟩ }:=by
 have hk2:k'=(m.items ++ [t]).length:=by simpa using hk
 obtain⟨h1,h2,h3⟩:=h.ct.addI h.own hg hn hk2 hsm ht;exact⟨h1,fun q hq=>Keep.own h.own hg hq,fun q hq=>Keep.setCell h1 hq _,h2,by rw[hk2]at h3⊢;exact h3⟩
end
structure CtR (V W : World) (g rb cb : Nat) (m : CatM) : Prop where
 ct:CtAt V W g rb cb m
 own:W.ownsRow V.heap.size 80 9 (.slice m.sr.A m.sr.n m.sr.c) m.rules.length (rucells m.rules)
section
variable {V W W' : World} {g rb cb : Nat} {m : CatM}
theorem CtR.next (h:CtR V W g rb cb m) (k:GSt W W' g):CtR V W' g rb cb m :=
 ⟨h.ct.next k,k.own h.own (fun e=>by have:=row_base h.own g e;have:=h.ct.st.lt;omega)⟩
theorem CtR.below (h:CtR V W g rb cb m) (hb:Below W.heap.size W W'):CtR V W' g rb cb m:=h.next ((GSt.refl h.ct.st.ok).below hb)
theorem CtR.app {A':Option Addr} {k' c':Nat} {t:RuM} (h:CtR V W g rb cb m) (hg:W.grownBy W' (Value.slice m.sr.A m.sr.n m.sr.c).ownBlock)
 (hn:W'.ownsRow V.heap.size 80 9 (.slice A' k' c') k' (rucells (m.rules ++ [t]))) (hk:k'=m.rules.length+1) (hsm:k'<=100000) (ht:t.Ok W') :
 Bk W' cb 28 (catSL m.si m.sr m.st m.sx)∧(∀q,80≠q->Keep q W W')∧(∀q,28≠q->Keep q W' (W'.setCell ⟨cb,1,none⟩ (.slice A' k' c')))∧CtR V (W'.setCell ⟨cb,1,none⟩ (.slice A' k' c')) g rb cb { m with rules:=m.rules ++ [t],sr:=⟨A',k',c'⟩ }:=by
 have hk2:k'=(m.rules ++ [t]).length:=by simpa using hk
 obtain⟨h1,h2,h3⟩:=h.ct.addR h.own hg hn hk2 hsm ht;exact⟨h1,fun q hq=>Keep.own h.own hg hq,fun q hq=>Keep.setCell h1 hq _,h2,by rw[hk2]at h3⊢;exact h3⟩
end
structure CtT (V W : World) (g rb cb : Nat) (m : CatM) : Prop where
 ct:CtAt V W g rb cb m
 own:W.ownsRow V.heap.size 86 2 (.slice m.st.A m.st.n m.st.c) m.tables.length (tbcells m.tables)
section
variable {V W W' : World} {g rb cb : Nat} {m : CatM}
theorem CtT.next (h:CtT V W g rb cb m) (k:GSt W W' g):CtT V W' g rb cb m :=
 ⟨h.ct.next k,k.own h.own (fun e=>by have:=row_base h.own g e;have:=h.ct.st.lt;omega)⟩
theorem CtT.below (h:CtT V W g rb cb m) (hb:Below W.heap.size W W'):CtT V W' g rb cb m:=h.next ((GSt.refl h.ct.st.ok).below hb)
theorem CtT.app {A':Option Addr} {k' c':Nat} {t:TbM} (h:CtT V W g rb cb m) (hg:W.grownBy W' (Value.slice m.st.A m.st.n m.st.c).ownBlock)
 (hn:W'.ownsRow V.heap.size 86 2 (.slice A' k' c') k' (tbcells (m.tables ++ [t]))) (hk:k'=m.tables.length+1) (hsm:k'<=100000) (ht:t.Ok W') :
 Bk W' cb 28 (catSL m.si m.sr m.st m.sx)∧(∀q,86≠q->Keep q W W')∧(∀q,28≠q->Keep q W' (W'.setCell ⟨cb,2,none⟩ (.slice A' k' c')))∧CtT V (W'.setCell ⟨cb,2,none⟩ (.slice A' k' c')) g rb cb { m with tables:=m.tables ++ [t],st:=⟨A',k',c'⟩ }:=by
 have hk2:k'=(m.tables ++ [t]).length:=by simpa using hk
 obtain⟨h1,h2,h3⟩:=h.ct.addT h.own hg hn hk2 hsm ht;exact⟨h1,fun q hq=>Keep.own h.own hg hq,fun q hq=>Keep.setCell h1 hq _,h2,by rw[hk2]at h3⊢;exact h3⟩
end
structure CtX (V W : World) (g rb cb : Nat) (m : CatM) : Prop where
 ct:CtAt V W g rb cb m
 own:W.ownsRow V.heap.size 93 2 (.slice m.sx.A m.sx.n m.sx.c) m.taxes.length (txcells m.taxes)
section
variable {V W W' : World} {g rb cb : Nat} {m : CatM}
theorem CtX.next (h:CtX V W g rb cb m) (k:GSt W W' g):CtX V W' g rb cb m :=
 ⟨h.ct.next k,k.own h.own (fun e=>by have:=row_base h.own g e;have:=h.ct.st.lt;omega)⟩
theorem CtX.below (h:CtX V W g rb cb m) (hb:Below W.heap.size W W'):CtX V W' g rb cb m:=h.next ((GSt.refl h.ct.st.ok).below hb)
theorem CtX.app {A':Option Addr} {k' c':Nat} {t:TxM} (h:CtX V W g rb cb m) (hg:W.grownBy W' (Value.slice m.sx.A m.sx.n m.sx.c).ownBlock)
 (hn:W'.ownsRow V.heap.size 93 2 (.slice A' k' c') k' (txcells (m.taxes ++ [t]))) (hk:k'=m.taxes.length+1) (hsm:k'<=100000) (ht:t.Ok W') :
 Bk W' cb 28 (catSL m.si m.sr m.st m.sx)∧(∀q,93≠q->Keep q W W')∧(∀q,28≠q->Keep q W' (W'.setCell ⟨cb,3,none⟩ (.slice A' k' c')))∧CtX V (W'.setCell ⟨cb,3,none⟩ (.slice A' k' c')) g rb cb { m with taxes:=m.taxes ++ [t],sx:=⟨A',k',c'⟩ }:=by
 have hk2:k'=(m.taxes ++ [t]).length:=by simpa using hk
 obtain⟨h1,h2,h3⟩:=h.ct.addX h.own hg hn hk2 hsm ht;exact⟨h1,fun q hq=>Keep.own h.own hg hq,fun q hq=>Keep.setCell h1 hq _,h2,by rw[hk2]at h3⊢;exact h3⟩
end
end
section
def pool1:List ByteArray:=[⟨#[103,111,108,100]⟩,⟨#[105,114,111,110]⟩,⟨#[111,114,101]⟩,⟨#[99,111,97,108]⟩,⟨#[115,119,111,114,100]⟩,⟨#[119,97,116,101,114]⟩,⟨#[103,101,109]⟩,⟨#[97,120,101]⟩]
def stone:ByteArray:=⟨#[115,116,111,110,101]⟩
abbrev sl0:Sl:=⟨none,0,0⟩
theorem info89g:(Tryz.prog.info? 76).map (fun i=>(i.zero,i.size,i.bytes))=some (some (.agg #[.string ⟨#[]⟩,.bool false,.bool false,.bool false,.int .i64 0,.int .i64 0,.int .i64 0]),7,48):=by kernel_rfl
theorem poolN_short {pool:List ByteArray} (h:∀s∈pool,s.size<=8192) (turn n:Nat):∀s∈poolN pool turn n,s.size<=8192:=by
 intro s hs;simp only[poolN,List.mem_map]at hs;obtain⟨i,_,rfl⟩:=hs;by_cases hl:(i+turn) % pool.length<pool.length
 ·simp only[List.getElem?_eq_getElem hl,Option.getD_some];exact h _ (List.getElem_mem hl)
 ·rw[List.getElem?_eq_none (by omega)];show(0:Nat)<=8192;omega
theorem one7 (t:It):∀u∈([.string t.name,.bool t.object,.bool t.mixed,.bool t.coin,.int .i64 t.wear,.int .i64 t.bnd,.int .i64 t.level]:List Value),u.oneCell'=true:=by
 intro u hu;simp only[List.mem_cons,List.not_mem_nil,or_false]at hu;rcases hu with rfl|rfl|rfl|rfl|rfl|rfl|rfl <;> rfl
theorem new7 (w:World) (t:TypeId) (a b c d e f g:Value):∀j u,([a,b,c,d,e,f,g]:List Value)[j]? = some u->(w.alloc (.cells #[a,b,c,d,e,f,g] t)).cell? ((⟨w.heap.size,0,none⟩:Addr).add j)=some u:=by
 intro j u hj
 match j,hj with
 | 0,hj=>simp at hj;subst hj;simp[Addr.add]
 | 1,hj=>simp at hj;subst hj;simp[Addr.add]
 | 2,hj=>simp at hj;subst hj;simp[Addr.add]
 | 3,hj=>simp at hj;subst hj;simp[Addr.add]
 | 4,hj=>simp at hj;subst hj;simp[Addr.add]
 | 5,hj=>simp at hj;subst hj;simp[Addr.add]
 | 6,hj=>simp at hj;subst hj;simp[Addr.add]
 | j+7,hj=>simp at hj
def isWd (s:ByteArray):Bool:=decide (0<s.size) && decide (s.size<=16) && (kindAt s 0 == 3) && (List.range s.size).all fun i=>wordB (kindAt s i)
theorem runEnd_all {f:Int->Bool} {s:ByteArray} (h:∀i,i<s.size->f (kindAt s i)=true) (j:Nat) (hj:j<=s.size):runEnd f s j=s.size:=by
 induction hm:s.size-j using Nat.strongRecOn generalizing j with
 | _ m ih =>
   by_cases hlt:j<s.size
   ·rw[runEnd_go hlt (h j hlt)];exact ih (s.size-(j+1)) (by omega) (j+1) (by omega) rfl
   ·rw[runEnd_end (by omega)];omega
theorem fitG_word {s:ByteArray} (h:isWd s=true):fitG s=true:=by
 simp only[isWd,Bool.and_eq_true,decide_eq_true_eq,beq_iff_eq,List.all_eq_true,List.mem_range]at h;obtain⟨⟨⟨h0,h1⟩,h2⟩,h3⟩:=h;have e1:runEnd wordB s (0+1)=s.size:=runEnd_all h3 _ (by omega);have e2:s.extract 0 s.size=s:=ByteArray.extract_zero_size;have e3:nextT s 0=⟨0,s,0,0,0⟩:=by
  unfold nextT;rw[if_pos h2,e1,if_neg (by omega),e2];rfl
 have e4:skipS s 0=0:=skipS_stay (by rw[h2];decide) (by rw[h2];decide);have e5:toks s=[⟨0,s,0,0,0⟩]:=by
  unfold toks;rw[e4];unfold toksFrom;rw[dif_pos h0,e3];dsimp only;rw[if_pos rfl,Nat.zero_add,skipS_end (Nat.le_refl _),if_pos h0];unfold toksFrom;rw[dif_neg (by omega)]
 unfold fitG;rw[e5];simp
def ItsOk (items:List It) (nl:List ByteArray):Prop:=items.map It.name=nl∧items.all itFormedB=true∧items.all itRangeB=true
theorem ItsOk.nil:ItsOk [] []:=⟨rfl,rfl,rfl⟩
theorem ItsOk.snoc {items:List It} {nl:List ByteArray} {t:It} {s:ByteArray} (h:ItsOk items nl) (hn:t.name=s) (hf:itFormedB t=true) (hr:itRangeB t=true):ItsOk (items ++ [t]) (nl ++ [s]) :=
 ⟨by rw[List.map_append,h.1,<- hn];rfl,by rw[List.all_append,h.2.1];simp[hf],by rw[List.all_append,h.2.2];simp[hr]⟩
theorem ItsOk.len {items:List It} {nl:List ByteArray} (h:ItsOk items nl):items.length=nl.length:=by rw[<- h.1];simp
def RusOk (n:Nat) (rules:List RuM) (nl:List ByteArray):Prop:=rules.map RuM.name=nl∧rules.all (wfR n)=true∧rules.all rgR=true∧rules.all ruLim=true∧∀r∈rules,ruSmall 3 r
theorem RusOk.nil (n:Nat):RusOk n [] []:=⟨rfl,rfl,rfl,rfl,by simp⟩
theorem RusOk.snoc {n:Nat} {rules:List RuM} {nl:List ByteArray} {r:RuM} {s:ByteArray} (h:RusOk n rules nl) (hn:r.name=s) (h1:wfR n r=true) (h2:rgR r=true) (h3:ruLim r=true) (h4:ruSmall 3 r):RusOk n (rules ++ [r]) (nl ++ [s]) :=
 ⟨by rw[List.map_append,h.1,<- hn];rfl,by rw[List.all_append,h.2.1];simp[h1],by rw[List.all_append,h.2.2.1];simp[h2],by rw[List.all_append,h.2.2.2.1];simp[h3],fun x hx=>by
  rcases List.mem_append.1 hx with hx|hx
  ·exact h.2.2.2.2 x hx
  ·rw[List.mem_singleton.1 hx];exact h4⟩
theorem RusOk.len {n:Nat} {rules:List RuM} {nl:List ByteArray} (h:RusOk n rules nl):rules.length=nl.length:=by rw[<- h.1];simp
theorem spawn_ok {n:Nat} {gv:List P2} (s:ByteArray) (sg:Sl) (h:Am n gv) (hl:gv.length<=3):wfR n ⟨s,true,0,0,1,1,[],gv,[],sl0,sg,sl0⟩=true∧rgR ⟨s,true,0,0,1,1,[],gv,[],sl0,sg,sl0⟩=true∧ruLim ⟨s,true,0,0,1,1,[],gv,[],sl0,sg,sl0⟩=true∧ruSmall 3 ⟨s,true,0,0,1,1,[],gv,[],sl0,sg,sl0⟩:=by
 refine⟨?_,?_,?_,⟨by simp,hl,by simp⟩⟩
 ·show(sortB n [] && sortB n gv && sortB n [] && formR 0 0 true 0 0 1 1 && contB [] [])=true;rw[h.sort];rfl
 ·show([].all unitP && gv.all unitP && [].all unitP && ruRange ⟨s,true,0,0,1,1,[],gv,[],sl0,sg,sl0⟩)=true;rw[h.units];rfl
 ·show(decide (0+gv.length<=64) && decide (0+0<=64))=true;rw[decide_eq_true (show 0+gv.length<=64 by omega)];rfl
def RwsOk (n:Nat) (rows:List RwM):Prop:=(rows.all fun r=>sortB n r.give)=true∧rows.all wtP=true∧(rows.all fun r=>r.give.all unitP)=true∧∀r∈rows,r.give.length<=3
theorem RwsOk.nil (n:Nat):RwsOk n []:=⟨rfl,rfl,rfl,by simp⟩
theorem RwsOk.snoc {n:Nat} {rows:List RwM} {wt:Int} {gv:List P2} {s:Sl} (h:RwsOk n rows) (hA:Am n gv) (hl:gv.length<=3) (h1:1<=wt) (h2:wt<=1099511627776):RwsOk n (rows ++ [⟨wt,gv,s⟩]):=by
 refine⟨by rw[List.all_append,h.1];simp[hA.sort],?_,by rw[List.all_append,h.2.2.1];simpa using hA.units,fun x hx=>by
  rcases List.mem_append.1 hx with hx|hx
  ·exact h.2.2.2 x hx
  ·rw[List.mem_singleton.1 hx];exact hl⟩
 rw[List.all_append,h.2.1];have:wtP ⟨wt,gv,s⟩=true:=by simp only[wtP,Bool.and_eq_true,decide_eq_true_eq];exact⟨h1,h2⟩
 simp[this]
def TbsOk (n:Nat) (tables:List TbM) (nl:List ByteArray):Prop:=tables.map TbM.name=nl∧tables.all (wfT n)=true∧tables.all rgT=true∧tables.all tbLim=true∧∀t∈tables,∀r∈t.rows,r.give.length<=3
theorem TbsOk.nil (n:Nat):TbsOk n [] []:=⟨rfl,rfl,rfl,rfl,by simp⟩
theorem TbsOk.snoc {n:Nat} {tables:List TbM} {nl:List ByteArray} {nm:ByteArray} {rows:List RwM} {s:Sl} (h:TbsOk n tables nl) (hr:RwsOk n rows) (h0:0<rows.length) (h1:rows.length<=64):TbsOk n (tables ++ [⟨nm,rows,s⟩]) (nl ++ [nm]):=by
 have e1:wfT n ⟨nm,rows,s⟩=true:=by
  show(decide (0<rows.length) && (rows.all fun r=>sortB n r.give))=true;rw[decide_eq_true h0,hr.1];rfl
 have e2:rgT ⟨nm,rows,s⟩=true:=by
  show(rows.all wtP && (rows.all fun r=>r.give.all unitP))=true;rw[hr.2.1,hr.2.2.1];rfl
 have e3:tbLim ⟨nm,rows,s⟩=true:=decide_eq_true h1;exact⟨by rw[List.map_append,h.1];rfl,by rw[List.all_append,h.2.1];simp[e1],by rw[List.all_append,h.2.2.1];simp[e2],by rw[List.all_append,h.2.2.2.1];simp[e3],fun x hx=>by
  rcases List.mem_append.1 hx with hx|hx
  ·exact h.2.2.2.2 x hx
  ·rw[List.mem_singleton.1 hx];exact hr.2.2.2⟩
theorem TbsOk.len {n:Nat} {tables:List TbM} {nl:List ByteArray} (h:TbsOk n tables nl):tables.length=nl.length:=by rw[<- h.1];simp
def BrsOk (brs:List P2):Prop:=brs≠[]∧formedB brs=true∧brs.all txP=true∧0<=fromAt brs (brs.length-1)∧fromAt brs (brs.length-1)<=500*brs.length
theorem BrsOk.one {p:Int} (h0:0<=p) (h1:p<=10000):BrsOk [(0,p)]:=by
 refine⟨by simp,rfl,?_,by show(0:Int)<=0;omega,by show(0:Int)<=500*1;omega⟩;show(txP (0,p) && true)=true;simp only[txP,Bool.and_eq_true,decide_eq_true_eq];refine⟨⟨⟨⟨by omega,by omega⟩,h0⟩,h1⟩,trivial⟩
theorem fromAt_left {brs:List P2} {q:P2} {i:Nat} (h:i<brs.length):fromAt (brs ++ [q]) i=fromAt brs i:=by
 unfold fromAt;rw[List.getElem?_append_left h]
theorem fromAt_new (brs:List P2) (q:P2):fromAt (brs ++ [q]) brs.length=q.1:=by
 unfold fromAt;rw[List.getElem?_append_right (Nat.le_refl _)];simp
theorem incB_iff (brs:List P2) (k:Nat):incB brs k=true ↔ ∀i,i<k->i=0∨fromAt brs (i-1)<fromAt brs i:=by
 simp[incB,List.all_eq_true,List.mem_range]
theorem BrsOk.snoc {brs:List P2} {f p:Int} (h:BrsOk brs) (hf:fromAt brs (brs.length-1)<f) (hf2:f<=fromAt brs (brs.length-1)+500) (h0:0<=p) (h1:p<=10000) (hl:brs.length<=100):BrsOk (brs ++ [(f,p)]):=by
 obtain⟨g0,g1,g2,g3,g4⟩:=h;have hpos:0<brs.length:=List.length_pos_iff.2 g0;have hlen:(brs ++ [(f,p)]).length=brs.length+1:=by simp
 simp only[formedB,Bool.and_eq_true,beq_iff_eq]at g1;obtain⟨⟨_,q1⟩,q2⟩:=g1;refine⟨by simp,?_,?_,?_,?_⟩
 ·simp only[formedB,Bool.and_eq_true,beq_iff_eq];refine⟨⟨by simp,by rw[fromAt_left hpos];exact q1⟩,?_⟩;rw[hlen,incB_iff];rw[incB_iff]at q2;intro i hi;by_cases e:i<brs.length
  ·rw[fromAt_left e,fromAt_left (show i-1<brs.length by omega)];exact q2 i e
  ·obtain rfl:i=brs.length:=by omega
   right;rw[fromAt_new,fromAt_left (by omega)];exact hf
 ·rw[List.all_append,g2];show(true && (txP (f,p) && true))=true;simp only[txP,Bool.and_eq_true,decide_eq_true_eq];refine⟨trivial,⟨⟨⟨by omega,by omega⟩,h0⟩,h1⟩,trivial⟩
 ·rw[hlen,Nat.add_sub_cancel,fromAt_new];show 0<=f;omega
 ·rw[hlen,Nat.add_sub_cancel,fromAt_new];show f<=_;push_cast;omega
def TxsOk (taxes:List TxM) (nl:List ByteArray):Prop:=taxes.map TxM.name=nl∧taxes.all wfX=true∧taxes.all rgX=true∧taxes.all txLim=true
theorem TxsOk.nil:TxsOk [] []:=⟨rfl,rfl,rfl,rfl⟩
theorem TxsOk.snoc {taxes:List TxM} {nl:List ByteArray} {nm:ByteArray} {brs:List P2} {s:Sl} (h:TxsOk taxes nl) (hr:BrsOk brs) (h1:brs.length<=16):TxsOk (taxes ++ [⟨nm,brs,s⟩]) (nl ++ [nm]):=by
 have e1:wfX ⟨nm,brs,s⟩=true:=hr.2.1;have e2:rgX ⟨nm,brs,s⟩=true:=hr.2.2.1;have e3:txLim ⟨nm,brs,s⟩=true:=decide_eq_true h1;exact⟨by rw[List.map_append,h.1];rfl,by rw[List.all_append,h.2.1];simp[e1],by rw[List.all_append,h.2.2.1];simp[e2],by rw[List.all_append,h.2.2.2];simp[e3]⟩
theorem TxsOk.len {taxes:List TxM} {nl:List ByteArray} (h:TxsOk taxes nl):taxes.length=nl.length:=by rw[<- h.1];simp
structure RwAt (V W : World) (g tb : Nat) (nm : ByteArray) (rows : List RwM) (s : Sl) : Prop where
 st:GSt V W g
 bx:Bk W tb 86 [.string nm,.slice s.A s.n s.c]
 ge:V.heap.size<=tb
 own:W.ownsRow V.heap.size 88 2 (.slice s.A s.n s.c) rows.length (rows.flatMap RwM.cells)
 each:∀r∈rows,r.Ok W
section
variable {V W W' : World} {g tb : Nat} {nm : ByteArray} {rows : List RwM} {s : Sl}
theorem RwAt.next (h:RwAt V W g tb nm rows s) (k:GSt W W' g):RwAt V W' g tb nm rows s :=
 ⟨h.st.trans k,k.bk h.bx (by have:=h.st.lt;have:=h.ge;omega),h.ge,k.own h.own (fun e=>by have:=row_base h.own g e;have:=h.st.lt;omega),fun r hr=>PrV.keep (h.each r hr) (k.keep h.st.ok 132 (by decide))⟩
theorem RwAt.below (h:RwAt V W g tb nm rows s) (hb:Below W.heap.size W W'):RwAt V W' g tb nm rows s:=h.next ((GSt.refl h.st.ok).below hb)
theorem RwAt.app {A':Option Addr} {k' c':Nat} {r:RwM} (h:RwAt V W g tb nm rows s) (hg:W.grownBy W' (Value.slice s.A s.n s.c).ownBlock)
 (hn:W'.ownsRow V.heap.size 88 2 (.slice A' k' c') k' ((rows ++ [r]).flatMap RwM.cells)) (hk:k'=rows.length+1) (hr:r.Ok W') :
 Bk W' tb 86 [.string nm,.slice s.A s.n s.c]∧RwAt V (W'.setCell ⟨tb,1,none⟩ (.slice A' k' c')) g tb nm (rows ++ [r]) ⟨A',k',c'⟩:=by
 have hbase:=row_base h.own;have hge:=h.ge;have kb:=h.bx.grown hg (fun e=>row_neT h.own h.bx (by decide) e.symm);have hk2:k'=(rows ++ [r]).length:=by simpa using hk
 have ho:=hn.kept (grown_setCell W' tb 1 (.slice A' k' c')) (.inr (row_neT hn kb (by decide)));refine⟨kb,⟨(h.st.grow hg hbase).set _ _ _ h.ge,kb.set 1 _,h.ge,by rw[<- hk2];exact ho,fun x hx=>?_⟩⟩;rcases List.mem_append.1 hx with hx|hx
 ·exact PrV.keep (PrV.keep (h.each x hx) (Keep.own h.own hg (by decide))) (Keep.setCell kb (by decide) _)
 ·rw[List.mem_singleton.1 hx];exact PrV.keep hr (Keep.setCell kb (by decide) _)
theorem RwAt.len (h:RwAt V W g tb nm rows s):s.n=rows.length:=by
 obtain⟨A,c,e,_⟩:=row_of_owns h.own;exact(Value.slice.inj e).2.1
theorem RwAt.ok (h:RwAt V W g tb nm rows s) (hl:rows.length<=100000) (hn:nm.size<=8192):TbM.Ok W ⟨nm,rows,s⟩:=by
 have hs:=h.len;refine⟨⟨?_,hs,by rw[hs];exact hl,h.each⟩,hn⟩;have:=h.own;rw[<- hs]at this;exact TRow.of_own this
end
structure TxAt (V W : World) (g xb : Nat) (nm : ByteArray) (brs : List P2) (s : Sl) : Prop where
 st:GSt V W g
 bx:Bk W xb 93 [.string nm,.slice s.A s.n s.c]
 ge:V.heap.size<=xb
 own:W.ownsRow V.heap.size 90 2 (.slice s.A s.n s.c) brs.length (pcells brs)
section
variable {V W W' : World} {g xb : Nat} {nm : ByteArray} {brs : List P2} {s : Sl}
theorem TxAt.next (h:TxAt V W g xb nm brs s) (k:GSt W W' g):TxAt V W' g xb nm brs s :=
 ⟨h.st.trans k,k.bk h.bx (by have:=h.st.lt;have:=h.ge;omega),h.ge,k.own h.own (fun e=>by have:=row_base h.own g e;have:=h.st.lt;omega)⟩
theorem TxAt.below (h:TxAt V W g xb nm brs s) (hb:Below W.heap.size W W'):TxAt V W' g xb nm brs s:=h.next ((GSt.refl h.st.ok).below hb)
theorem TxAt.app {A':Option Addr} {k' c':Nat} {r:P2} (h:TxAt V W g xb nm brs s) (hg:W.grownBy W' (Value.slice s.A s.n s.c).ownBlock)
 (hn:W'.ownsRow V.heap.size 90 2 (.slice A' k' c') k' (pcells (brs ++ [r]))) (hk:k'=brs.length+1) :
 Bk W' xb 93 [.string nm,.slice s.A s.n s.c]∧TxAt V (W'.setCell ⟨xb,1,none⟩ (.slice A' k' c')) g xb nm (brs ++ [r]) ⟨A',k',c'⟩:=by
 have hbase:=row_base h.own;have hge:=h.ge;have kb:=h.bx.grown hg (fun e=>row_neT h.own h.bx (by decide) e.symm);have hk2:k'=(brs ++ [r]).length:=by simpa using hk
 have ho:=hn.kept (grown_setCell W' xb 1 (.slice A' k' c')) (.inr (row_neT hn kb (by decide)));exact⟨kb,⟨(h.st.grow hg hbase).set _ _ _ h.ge,kb.set 1 _,h.ge,by rw[<- hk2];exact ho⟩⟩
theorem TxAt.len (h:TxAt V W g xb nm brs s):s.n=brs.length:=by
 obtain⟨A,c,e,_⟩:=row_of_owns h.own;exact(Value.slice.inj e).2.1
theorem txP_in {p:P2} (h:txP p=true):(-9223372036854775808<=p.1∧p.1<=9223372036854775807)∧-9223372036854775808<=p.2∧p.2<=9223372036854775807:=by
 simp only[txP,Bool.and_eq_true,decide_eq_true_eq]at h;omega
theorem TxAt.ok (h:TxAt V W g xb nm brs s) (hl:brs.length<=100000) (hn:nm.size<=8192) (hr:brs.all txP=true):TxM.Ok W ⟨nm,brs,s⟩:=by
 have hs:=h.len;refine⟨⟨?_,hs,by rw[hs];exact hl,fun p hp=>txP_in (List.all_eq_true.1 hr p hp)⟩,hn⟩;have:=h.own;rw[<- hs]at this;exact TRow.of_own this
end
def pool2:List ByteArray:=[⟨#[115,109,101,108,116]⟩,⟨#[102,111,114,103,101]⟩,⟨#[109,101,108,116]⟩,⟨#[98,114,101,119]⟩,⟨#[103,114,105,110,100]⟩]
def pool3:List ByteArray:=[⟨#[114,97,105,110]⟩,⟨#[109,105,110,101]⟩,⟨#[100,105,103]⟩]
def pool4:List ByteArray:=[⟨#[]⟩,⟨#[99,104,101,115,116]⟩,⟨#[104,101,114,98]⟩]
def pool5:List ByteArray:=[⟨#[]⟩,⟨#[115,97,108,101]⟩,⟨#[115,116,97,108,108]⟩]
def downN (pool:List ByteArray) (k j:Nat):List ByteArray:=(List.range (k-j)).map fun r=>pool[k-r]?.getD ⟨#[]⟩
theorem downN_self (pool:List ByteArray) (k:Nat):downN pool k k=[]:=by simp[downN]
theorem downN_next (pool:List ByteArray) {k j:Nat} (h:j+1<=k):downN pool k j=downN pool k (j+1) ++ [pool[j+1]?.getD ⟨#[]⟩]:=by
 have e:k-j=(k-(j+1))+1:=by omega
 unfold downN;rw[e,List.range_succ,List.map_append];simp only[List.map_cons,List.map_nil];rw[show k-(k-(j+1))=j+1 by omega]
theorem pool_words:(pool1 ++ [stone] ++ pool2 ++ pool3 ++ pool4.tail ++ pool5.tail).all isWd=true:=by kernel_rfl
theorem diff1:((List.range 8).all fun t=>(List.range 7).all fun n=>diffB (poolN pool1 t n ++ [stone]))=true:=by kernel_rfl
theorem diff2:((List.range 5).all fun t=>(List.range 5).all fun n=>(List.range 3).all fun u=>(List.range 3).all fun k=>diffB (poolN pool2 t n ++ poolN pool3 u k))=true:=by kernel_rfl
theorem diff4:((List.range 3).all fun k=>diffB (downN pool4 k 0))=true:=by kernel_rfl
theorem diff5:((List.range 3).all fun k=>diffB (downN pool5 k 0))=true:=by kernel_rfl
theorem word4:((List.range 3).all fun k=>(downN pool4 k 0).all isWd)=true:=by kernel_rfl
theorem word5:((List.range 3).all fun k=>(downN pool5 k 0).all isWd)=true:=by kernel_rfl
theorem poolN_mem {pool:List ByteArray} (h:0<pool.length) {turn n:Nat} {s:ByteArray} (hs:s∈poolN pool turn n):s∈pool:=by
 simp only[poolN,List.mem_map]at hs;obtain⟨i,_,rfl⟩:=hs;have hl:=Nat.mod_lt (i+turn) h;simp[List.getElem?_eq_getElem hl]
theorem all_range {n k:Nat} {f:Nat->Bool} (h:(List.range n).all f=true) (hk:k<n):f k=true:=List.all_eq_true.1 h k (List.mem_range.2 hk)
structure CatSm (m : CatM) : Prop where
 code:codeC m=0
 items:2<=m.items.length∧m.items.length<=7
 rules:1<=m.rules.length∧m.rules.length<=6
 tables:m.tables.length<=2
 taxes:m.taxes.length<=2
 short:∀r∈m.rules,ruSmall 3 r
 rows:∀t∈m.tables,∀r∈t.rows,r.give.length<=3
theorem catSm_of {m:CatM} {t1 n1 t2 n2 t3 n3 k4 k5:Nat} (ht1:t1<8) (hn1:n1<=6) (hp1:1<=n1) (ht2:t2<5) (hn2:n2<=4) (hp2:1<=n2) (ht3:t3<3) (hn3:n3<=2) (hk4:k4<3) (hk5:k5<3)
 (hi:ItsOk m.items (poolN pool1 t1 n1 ++ [stone])) (hr:RusOk m.items.length m.rules (poolN pool2 t2 n2 ++ poolN pool3 t3 n3)) (ht:TbsOk m.items.length m.tables (downN pool4 k4 0)) (hx:TxsOk m.taxes (downN pool5 k5 0)):CatSm m:=by
 have l1:=hi.len;have l2:=hr.len;have l4:=ht.len;have l5:=hx.len;simp only[List.length_append,poolN_length,List.length_cons,List.length_nil]at l1 l2;simp only[downN,List.length_map,List.length_range]at l4 l5;have hw:=pool_words;simp only[List.all_append,Bool.and_eq_true]at hw;obtain⟨⟨⟨⟨⟨w1,ws⟩,w2⟩,w3⟩,_⟩,_⟩:=hw;have hdi:diffC m=true:=by
  unfold diffC;rw[hi.1,hr.1,ht.1,hx.1,all_range (all_range diff1 ht1) (show n1<7 by omega),all_range (all_range (all_range (all_range diff2 ht2) (show n2<5 by omega)) ht3) (show n3<3 by omega),all_range diff4 hk4,all_range diff5 hk5];rfl
 have hfit:fitB m=true:=by
  have key:∀l:List ByteArray,(∀s∈l,isWd s=true)->l.all fitG=true:=fun l h=>List.all_eq_true.2 fun s hs=>fitG_word (h s hs)
  have e1:(m.items.all fun t=>fitG t.name)=(m.items.map It.name).all fitG:=by rw[List.all_map];rfl
  have e2:(m.rules.all fun t=>fitG t.name)=(m.rules.map RuM.name).all fitG:=by rw[List.all_map];rfl
  have e3:(m.tables.all fun t=>fitG t.name)=(m.tables.map TbM.name).all fitG:=by rw[List.all_map];rfl
  have e4:(m.taxes.all fun t=>fitG t.name)=(m.taxes.map TxM.name).all fitG:=by rw[List.all_map];rfl
  unfold fitB;rw[e1,e2,e3,e4,hi.1,hr.1,ht.1,hx.1,key _ fun s hs=>?_,key _ fun s hs=>?_,key _ fun s hs=>?_,key _ fun s hs=>?_]
  ·rfl
  ·exact List.all_eq_true.1 (all_range word5 hk5) s hs
  ·exact List.all_eq_true.1 (all_range word4 hk4) s hs
  ·rcases List.mem_append.1 hs with h | h
   ·exact List.all_eq_true.1 w2 s (poolN_mem (by decide) h)
   ·exact List.all_eq_true.1 w3 s (poolN_mem (by decide) h)
  ·rcases List.mem_append.1 hs with h | h
   ·exact List.all_eq_true.1 w1 s (poolN_mem (by decide) h)
   ·exact List.all_eq_true.1 ws s h
 have hlim:limC m=true:=by
  unfold limC;rw[hr.2.2.2.1,ht.2.2.2.1,hx.2.2.2,decide_eq_true (show m.items.length<=64 by omega),decide_eq_true (show m.rules.length<=64 by omega),decide_eq_true (show m.tables.length<=32 by omega),decide_eq_true (show m.taxes.length<=32 by omega)];rfl
 have hwf:wfC m=true:=by
  unfold wfC;rw[hi.2.1,hr.2.1,ht.2.1,hx.2.1];rfl
 have hrg:rgC m=true:=by
  unfold rgC;rw[hi.2.2,hr.2.2.1,ht.2.2.1,hx.2.2.1];rfl
 exact⟨by unfold codeC;rw[hlim,hfit,hdi,hwf,hrg];rfl,⟨by omega,by omega⟩,⟨by omega,by omega⟩,by omega,by omega,hr.2.2.2.2,ht.2.2.2.2⟩
end
theorem wp_region_fr {P:Program} {ops:Array Oper} {Q:Exit->Act->World->Prop} {id:Nat} {fr:Array Value} {w:World} (hm:P.follows .mixedOrders=true) (hd:earlierB ops=true) (I:Array Value->(Nat->Bool)->Act->World->Prop)
 (h0:I fr (fun _=>false) ⟨fr,[]⟩ w.drew)
 (step:∀(i:Nat) (o:Oper) (L:Nat->Bool) (a:Act) (w:World),ops[i]? = some o->L i=false->(∀e∈o.after,Region.binds .any e=true->L e.on=true)->I fr L a w ->
  wpOp P ops Q i (fun a' w'=>I fr (fun j=>L j || j == i) a' w') a w)
 (done:∀(L:Nat->Bool) (a:Act) (w:World),(∀i,i<ops.size->L i=true)->I fr L a w->Q .normal a w):(Code.region id ops true).wp P Q ⟨fr,[]⟩ w :=
 wp_region_inv hm hd (I fr) h0 step done
structure XMid (V : World) (g j : Nat) (nm : ByteArray) (L : Nat -> Bool) (x134 x135 x136 x137 x138 x139 x140 x141 x142 x17 : Value) (W : World) : Prop where
 st:GSt V W g
 l0:L 0=true->∃b,x134=.slice (some ⟨b,0,none⟩) 3 3∧Bk W b 9 (strs pool5)∧V.heap.size<=b
 l1:L 1=true->x135=.int .i64 (j:Int)
 l2:L 2=true->∃b,x136=.pointer (some ⟨b,j,none⟩)∧Bk W b 9 (strs pool5)∧V.heap.size<=b
 l3:L 3=true->x137=.string nm
 l4:L 4=true->x138=.pointer (some ⟨g,0,none⟩)
 l5:L 5=true->∃p,x139=.int .i64 p∧0<=p∧p<2000
 l6:L 6=true->∃p,x140=.agg #[.int .i64 0,.int .i64 p]∧0<=p∧p<2000
 l7:L 7=true->∃b p,x141=.slice (some ⟨b,0,none⟩) 1 1∧Bk W b 90 [.int .i64 0,.int .i64 p]∧V.heap.size<=b∧0<=p∧p<2000
 l8:L 8=true->∃b p,x142=.agg #[.string nm,.slice (some ⟨b,0,none⟩) 1 1]∧Bk W b 90 [.int .i64 0,.int .i64 p]∧V.heap.size<=b∧0<=p∧p<2000
 l9:L 9=true->∃b,x17=.pointer (some ⟨b,0,none⟩)∧Bk W b 93 [.string ⟨#[]⟩,.slice none 0 0]∧V.heap.size<=b
theorem XMid.go {V W W':World} {g j:Nat} {nm:ByteArray} {L:Nat->Bool} {x134 x135 x136 x137 x138 x139 x140 x141 x142 x17:Value} (h:XMid V g j nm L x134 x135 x136 x137 x138 x139 x140 x141 x142 x17 W) (k:GSt W W' g):XMid V g j nm L x134 x135 x136 x137 x138 x139 x140 x141 x142 x17 W' where
 st:=h.st.trans k
 l0:=fun e=>by obtain⟨b,e1,e2,e3⟩:=h.l0 e;exact⟨b,e1,k.bk e2 (by have:=h.st.lt;omega),e3⟩
 l1:=h.l1
 l2:=fun e=>by obtain⟨b,e1,e2,e3⟩:=h.l2 e;exact⟨b,e1,k.bk e2 (by have:=h.st.lt;omega),e3⟩
 l3:=h.l3
 l4:=h.l4
 l5:=h.l5
 l6:=h.l6
 l7:=fun e=>by obtain⟨b,p,e1,e2,e3,e4⟩:=h.l7 e;exact⟨b,p,e1,k.bk e2 (by have:=h.st.lt;omega),e3,e4⟩
 l8:=fun e=>by obtain⟨b,p,e1,e2,e3,e4⟩:=h.l8 e;exact⟨b,p,e1,k.bk e2 (by have:=h.st.lt;omega),e3,e4⟩
 l9:=fun e=>by obtain⟨b,e1,e2,e3⟩:=h.l9 e;exact⟨b,e1,k.bk e2 (by have:=h.st.lt;omega),e3⟩
def XMade (V W:World) (g:Nat) (nm:ByteArray) (x17:Value):Prop :=
 ∃xb b p,x17=.pointer (some ⟨xb,0,none⟩)∧0<=p∧p<2000∧TxAt V W g xb nm [(0,p)] ⟨some ⟨b,0,none⟩,1,1⟩
theorem own_bk2 {w:World} {b base:Nat} {x y:Int} (h:Bk w b 90 [.int .i64 x,.int .i64 y]) (hb:base<=b):w.ownsRow base 90 2 (.slice (some ⟨b,0,none⟩) 1 1) 1 (pcells [(x,y)]) :=
 ⟨rfl,.inr ⟨b,1,#[.int .i64 x,.int .i64 y],rfl,hb,h,by omega,by unfold maxLen;omega,rfl,rfl⟩⟩
theorem XMade.mk {V W:World} {g xb b:Nat} {nm:ByteArray} {p:Int} (st:GSt V W g) (hx:Bk W xb 93 [.string ⟨#[]⟩,.slice none 0 0]) (hg:V.heap.size<=xb) (hb:Bk W b 90 [.int .i64 0,.int .i64 p]) (hg2:V.heap.size<=b) (p0:0<=p) (p1:p<2000) :
 XMade V ((W.setCell ⟨xb,0,none⟩ (.string nm)).setCell ⟨xb,1,none⟩ (.slice (some ⟨b,0,none⟩) 1 1)) g nm (.pointer (some ⟨xb,0,none⟩)):=by
 have hne:b≠xb:=by
  intro e;subst e;unfold Bk at hx hb;rw[hx]at hb;cases hb
 have hb1:Bk (W.setCell ⟨xb,0,none⟩ (.string nm)) b 90 [.int .i64 0,.int .i64 p]:=hb.far hne _;have hb2:=hb1.far (p:=⟨xb,1,none⟩) hne (.slice (some ⟨b,0,none⟩) 1 1);exact⟨xb,b,p,rfl,p0,p1,⟨(st.set _ _ _ hg).set _ _ _ hg,(hx.set 0 _).set 1 _,hg,own_bk2 hb2 hg2⟩⟩
end
theorem lText4:text4.toList=[110,111,116,32,107,105,110,100,32,99,114,97,102,116,32,111,114,32,110,111,116,32,97,99,116,111,114,32,55,32,97,110,100,32,110,111,116,32,109,111,114,101,32,49,48,48,32,103,111,108,100]:=by decide +kernel
theorem two_kids {M:MkM} {w:World} {P:Nat->Prop} (h:M.Ok w 49 P) (hc:M.core=mark1):∃k0 k1 s,M=⟨sAnd,0,0,[k0,k1],s⟩∧s.n=2∧k0.a=4∧k1.op=sOr:=by
 obtain⟨op,a,b,ks,s⟩:=M;have hl:=h.len;have hcore:MkM.core ⟨op,a,b,ks,s⟩=.node op a b (ks.map MkM.core):=by simp[MkM.core,coreL_map]
 rw[hcore]at hc;unfold mark1 at hc;injection hc with h1 h2 h3 h4;subst h1 h2 h3;obtain⟨k0,ks1,rfl,e0,h4⟩:=List.map_eq_cons_iff.1 h4;obtain⟨k1,ks2,rfl,e1,h4⟩:=List.map_eq_cons_iff.1 h4;obtain rfl:=List.map_eq_nil_iff.1 h4;refine⟨k0,k1,s,rfl,hl,?_,?_⟩
 ·cases k0;simp only[MkM.core,Mk.node.injEq]at e0;exact e0.2.1
 ·cases k1;simp only[MkM.core,Mk.node.injEq]at e1;exact e1.1
theorem gold_its (W:World):ItsV (W.alloc (.cells #[.string ⟨#[103,111,108,100]⟩,.bool false,.bool false,.bool false,.int .i64 0,.int .i64 0,.int .i64 0] 76)) ⟨some ⟨W.heap.size,0,none⟩,1,1⟩ [goldIt] :=
 ⟨.inr ⟨W.heap.size,0,_,(0,0),rfl,Bk.new W 76 [.string ⟨#[103,111,108,100]⟩,.bool false,.bool false,.bool false,.int .i64 0,.int .i64 0,.int .i64 0],fun j u hu=>by rw[Nat.zero_add];rw[show[goldIt].flatMap It.cells=[.string ⟨#[103,111,108,100]⟩,.bool false,.bool false,.bool false,.int .i64 0,.int .i64 0,.int .i64 0] from rfl]at hu;simpa using hu⟩,rfl,(show(1:Nat)<=100000 by decide),by intro t ht;rw[List.mem_singleton.1 ht];decide⟩
theorem nil_rules (W:World):RulesV W sl0 []:=⟨.inl rfl,rfl,(show(0:Nat)<=100000 by decide),by intro t ht;cases ht⟩
def stepV:StepM:=⟨0,4,7,0,0,0,[],sl0⟩
theorem step_ok (W:World):stepV.Ok W:=⟨⟨.inl rfl,rfl,(show(0:Nat)<=1000 by decide)⟩,⟨by decide,by decide⟩,⟨by decide,by decide⟩,⟨by decide,by decide⟩,⟨by decide,by decide⟩,⟨by decide,by decide⟩⟩
theorem lives_any {W:World} (hT:Tab W) (hP:TabP W):Calls Tryz.prog 15 #[] W fun e w'=>e=.returned (.bool true)∧Below W.heap.size W w':=by
 have y0:Below W.heap.size W ((W.alloc (.cells #[.string ⟨#[103,111,108,100]⟩,.bool false,.bool false,.bool false,.int .i64 0,.int .i64 0,.int .i64 0] 76)).alloc (.cells #[.slice (some ⟨W.heap.size,0,none⟩) 1 1,.slice none 0 0,.slice none 0 0,.slice none 0 0] 28)):=((Below.refl _ _).alloc (Nat.le_refl _) _).alloc (by simp) _;have hg1:Below (W.alloc (.cells #[.string ⟨#[103,111,108,100]⟩,.bool false,.bool false,.bool false,.int .i64 0,.int .i64 0,.int .i64 0] 76)).heap.size (W.alloc (.cells #[.string ⟨#[103,111,108,100]⟩,.bool false,.bool false,.bool false,.int .i64 0,.int .i64 0,.int .i64 0] 76)) ((W.alloc (.cells #[.string ⟨#[103,111,108,100]⟩,.bool false,.bool false,.bool false,.int .i64 0,.int .i64 0,.int .i64 0] 76)).alloc (.cells #[.slice (some ⟨W.heap.size,0,none⟩) 1 1,.slice none 0 0,.slice none 0 0,.slice none 0 0] 28)):=(Below.refl _ _).alloc (Nat.le_refl _) _;have HG:=iH ((gold_its W).below hg1);have HCb0:Hid (Bk ((W.alloc (.cells #[.string ⟨#[103,111,108,100]⟩,.bool false,.bool false,.bool false,.int .i64 0,.int .i64 0,.int .i64 0] 76)).alloc (.cells #[.slice (some ⟨W.heap.size,0,none⟩) 1 1,.slice none 0 0,.slice none 0 0,.slice none 0 0] 28)) (W.heap.size+1) 28 [.slice (some ⟨W.heap.size,0,none⟩) 1 1,.slice none 0 0,.slice none 0 0,.slice none 0 0]):=by
  have:=Bk.new (W.alloc (.cells #[.string ⟨#[103,111,108,100]⟩,.bool false,.bool false,.bool false,.int .i64 0,.int .i64 0,.int .i64 0] 76)) 28 [.slice (some ⟨W.heap.size,0,none⟩) 1 1,.slice none 0 0,.slice none 0 0,.slice none 0 0];rw[World.size_alloc]at this;exact iH this
 have HIT:Hid (∀U,Below (((W.alloc (.cells #[.string ⟨#[103,111,108,100]⟩,.bool false,.bool false,.bool false,.int .i64 0,.int .i64 0,.int .i64 0] 76)).alloc (.cells #[.slice (some ⟨W.heap.size,0,none⟩) 1 1,.slice none 0 0,.slice none 0 0,.slice none 0 0] 28))).heap.size ((W.alloc (.cells #[.string ⟨#[103,111,108,100]⟩,.bool false,.bool false,.bool false,.int .i64 0,.int .i64 0,.int .i64 0] 76)).alloc (.cells #[.slice (some ⟨W.heap.size,0,none⟩) 1 1,.slice none 0 0,.slice none 0 0,.slice none 0 0] 28)) U->ItsV U ⟨some ⟨W.heap.size,0,none⟩,1,1⟩ [goldIt]):=iH fun U hU=>HG.out.below hU
 have HRU:Hid (∀U:World,RulesV U sl0 []):=iH nil_rules;have HT:=iH (hT.below y0 hT.1);have HP:=iH (hP.below y0 (by have:=hT.1;omega));have HY0:=iH y0;have K1:=iH (parse_any (m:=(⟨[goldIt],[],[],[],⟨some ⟨W.heap.size,0,none⟩,1,1⟩,sl0,sl0,sl0⟩:CatM)) text1 (by decide) (hT.below y0 hT.1) (HG.out) (nil_rules _));rw[lives1 (⟨[goldIt],[],[],[],⟨some ⟨W.heap.size,0,none⟩,1,1⟩,sl0,sl0,sl0⟩:CatM) rfl rfl]at K1;clear y0 hg1 hT hP;go_enter Tryz.func15,Tryz.ntmps15;go_wp2_with fail;refine K1.out.mono ?_;rintro e w1 ⟨M1,rfl,hc,hok,hb⟩;obtain⟨k0,k1,s,rfl,hn,ha0,ho1⟩:=two_kids hok hc;obtain⟨A,n,c⟩:=s;dsimp only at hn;subst hn;dsimp only;have HOK1:=iH hok;have HC1:=iH hc;have HMb:Hid (Bk (w1.alloc (.cells #[.string sAnd,.int .i64 0,.int .i64 0,.slice A 2 c] 49)) w1.heap.size 49 [.string sAnd,.int .i64 0,.int .i64 0,.slice A 2 c]):=iH (Bk.new w1 49 [.string sAnd,.int .i64 0,.int .i64 0,.slice A 2 c]);have hby:Below w1.heap.size w1 (w1.alloc (.cells #[.string sAnd,.int .i64 0,.int .i64 0,.slice A 2 c] 49)):=(Below.refl _ _).alloc (Nat.le_refl _) _;have HCb:=iH ((HCb0.out.below hb HCb0.out.lt).alloc (.cells #[.string sAnd,.int .i64 0,.int .i64 0,.slice A 2 c] 49));have HZ1:=iH (hb.trans (hby.mono hb.size));have HDN:Hid (Below ((w1.alloc (.cells #[.string sAnd,.int .i64 0,.int .i64 0,.slice A 2 c] 49))).heap.size (w1.alloc (.cells #[.string sAnd,.int .i64 0,.int .i64 0,.slice A 2 c] 49)) (((w1.alloc (.cells #[.string sAnd,.int .i64 0,.int .i64 0,.slice A 2 c] 49)).alloc (.cells #[.string sAnd,.int .i64 0,.int .i64 0,.slice A 2 c] 49)).drew)):=iH ((Below.refl _ _).alloc (Nat.le_refl _) _).drew;have HN:Hid (MkM.Ok (((w1.alloc (.cells #[.string sAnd,.int .i64 0,.int .i64 0,.slice A 2 c] 49)).alloc (.cells #[.string sAnd,.int .i64 0,.int .i64 0,.slice A 2 c] 49)).drew) 49 (fun _=>True) ⟨⟨#[110,111,116]⟩,0,0,[⟨sAnd,0,0,[k0,k1],⟨A,2,c⟩⟩],⟨some ⟨w1.heap.size+1,0,none⟩,1,1⟩⟩):=by
  refine iH (.mk _ _ _ _ _ ?_ rfl (show(1:Nat)<=100000 by decide) (by decide) ⟨by decide,by decide⟩ ⟨by decide,by decide⟩ fun k hk=>?_)
  ·have:=PRow.one (w:=(w1.alloc (.cells #[.string sAnd,.int .i64 0,.int .i64 0,.slice A 2 c] 49))) (⟨sAnd,0,0,[k0,k1],⟨A,2,c⟩⟩:MkM) (P:=fun _=>True) trivial;rw[World.size_alloc]at this;exact this
  ·rw[List.mem_singleton.1 hk];exact((hok.bel hby).bel HDN.out).any
 have HM1:=iH (hok.bel hby);clear hb hok hby K1 HCb0;go_wp2;refine wp_region_X (fun w'=>Bk w' (W.heap.size+1) 28 [.slice (some ⟨W.heap.size,0,none⟩) 1 1,.slice none 0 0,.slice none 0 0,.slice none 0 0]∧Bk w' w1.heap.size 49 [.string sAnd,.int .i64 0,.int .i64 0,.slice A 2 c]) 11 (n:=11) rfl (by kernel_rfl) (⟨HCb.out.drew,HMb.out.drew⟩) (fun hS=>?_);refine uT 0 23 hS ?_ (hy:=fun w' hS'=>by have⟨e0,e1,e2,e3,el⟩:=hS'.1.p4;(go_simp;try with_reducible rfl));refine uT 1 24 hS ?_ (hy:=fun w' hS'=>by have⟨e0,e1,e2,e3,el⟩:=hS'.2.p4;(go_simp;try with_reducible rfl));refine X_o 2 rfl fun K hK=>?_;go_simp;refine hK _ _ ⟨HCb.out.drew.alloc _,HMb.out.drew.alloc _⟩ ?_;clear hK;refine X_o 3 rfl fun K hK=>?_;go_simp;refine hK _ _ ⟨HCb.out.drew.alloc _,HMb.out.drew.alloc _⟩ ?_;clear hK;refine X_o 4 rfl fun K hK=>?_;go_simp;have K:Hid (Calls Tryz.prog 28 #[.agg #[.string ⟨#[110,111,116]⟩,.int .i64 0,.int .i64 0,.slice (some ⟨w1.heap.size+1,0,none⟩) 1 1]] _ _):=iH (normalM_any ⟨⟨#[110,111,116]⟩,0,0,[⟨sAnd,0,0,[k0,k1],⟨A,2,c⟩⟩],⟨some ⟨w1.heap.size+1,0,none⟩,1,1⟩⟩ _ _ HN.out);(with_reducible refine K.out.mono ?_);rintro e w2 ⟨M2,rfl,hcore,hok,hb⟩;have hgo:=HDN.out.trans (hb.mono HDN.out.size);have HCb2:=iH (HCb.out.below hgo HCb.out.lt);have HMb2:=iH (HMb.out.below hgo HMb.out.lt);have HZ2:=iH (HZ1.out.trans (hgo.mono HZ1.out.size));have HV2:=iH hgo;have HM2:=iH hok;have HC2:Hid (M2.core=(Mk.node sNot 0 0 [mark1]).norm false):=iH (by rw[hcore,<- HC1.out];rfl);refine hK _ _ ⟨HCb2.out,HMb2.out⟩ ?_;clear hK K hcore hok hb hgo;refine X_o 5 rfl fun K hK=>?_;go_simp;have K:=iH (print_any (m:=(⟨[goldIt],[],[],[],⟨some ⟨W.heap.size,0,none⟩,1,1⟩,sl0,sl0,sl0⟩:CatM)) (HT.out.below HZ2.out HT.out.1) (HP.out.below HZ2.out (by have:=HT.out.1;omega)) (HIT.out _ HZ2.out) (HRU.out _) HM2.out);(with_reducible refine K.out.mono ?_);rintro e w3 ⟨rfl,hb⟩;have HCb3:=iH (HCb2.out.below hb HCb2.out.lt);have HMb3:=iH (HMb2.out.below hb HMb2.out.lt);have HZ3:=iH (HZ2.out.trans (hb.mono HZ2.out.size));have HV3:=iH (HV2.out.trans (hb.mono HV2.out.size));refine hK _ _ ⟨HCb3.out,HMb3.out⟩ ?_;clear hK K hb;rw[show(List.map RuM.name ((⟨[goldIt],[],[],[],⟨some ⟨W.heap.size,0,none⟩,1,1⟩,sl0,sl0,sl0⟩:CatM)).rules)=[] from rfl,show(List.map It.name ((⟨[goldIt],[],[],[],⟨some ⟨W.heap.size,0,none⟩,1,1⟩,sl0,sl0,sl0⟩:CatM)).items)=[gold] from rfl,HC2.out,lives4,lives5];refine X_o 6 rfl fun K hK=>?_;go_simp;refine hK _ _ ⟨HCb3.out,HMb3.out⟩ ?_;clear hK;refine uT 7 29 ⟨HCb3.out,HMb3.out⟩ ?_;refine uT 8 30 ⟨HCb3.out,HMb3.out⟩ ?_;refine uT 9 5 ⟨HCb3.out,HMb3.out⟩ ?_;refine uT 10 6 ⟨HCb3.out,HMb3.out⟩ ?_;refine X_done (by kernel_rfl) ?_;clear hS;have⟨d0,d1,d2,d3,dl⟩:=HCb3.out.p4;have K2:=iH (parse_any (m:=(⟨[goldIt],[],[],[],⟨some ⟨W.heap.size,0,none⟩,1,1⟩,sl0,sl0,sl0⟩:CatM)) text2 (by decide) (HT.out.below HZ3.out HT.out.1) (HIT.out _ HZ3.out) (HRU.out _));rw[lives2 (⟨[goldIt],[],[],[],⟨some ⟨W.heap.size,0,none⟩,1,1⟩,sl0,sl0,sl0⟩:CatM) rfl rfl]at K2;go_wp2_with fail;refine K2.out.mono ?_;rintro e w4 ⟨rfl,hb⟩;have hb4:Below w3.heap.size w3 (w4.alloc (.cells #[.string ⟨#[]⟩,.int .i64 0,.int .i64 0,.slice none 0 0] 49)):=hb.alloc hb.size _;have HCb4:=iH (HCb3.out.below hb4 HCb3.out.lt);have HMb4:=iH (HMb3.out.below hb4 HMb3.out.lt);have HZ4:=iH (HZ3.out.trans (hb4.mono HZ3.out.size));have HV4:=iH (HV3.out.trans (hb4.mono HV3.out.size));clear K2 hb hb4 d0 d1 d2 d3 dl HCb3 HMb3;have d0:(w4.alloc (.cells #[.string ⟨#[]⟩,.int .i64 0,.int .i64 0,.slice none 0 0] 49)).cell? ⟨W.heap.size+1,0,none⟩=some (.slice (some ⟨W.heap.size,0,none⟩) 1 1):=HCb4.out.cell 0;have d1:(w4.alloc (.cells #[.string ⟨#[]⟩,.int .i64 0,.int .i64 0,.slice none 0 0] 49)).cell? ⟨W.heap.size+1,1,none⟩=some (.slice none 0 0):=HCb4.out.cell 1;have d2:(w4.alloc (.cells #[.string ⟨#[]⟩,.int .i64 0,.int .i64 0,.slice none 0 0] 49)).cell? ⟨W.heap.size+1,2,none⟩=some (.slice none 0 0):=HCb4.out.cell 2;have d3:(w4.alloc (.cells #[.string ⟨#[]⟩,.int .i64 0,.int .i64 0,.slice none 0 0] 49)).cell? ⟨W.heap.size+1,3,none⟩=some (.slice none 0 0):=HCb4.out.cell 3;have dl:=HCb4.out.lt;have K3:=iH (parse_any (m:=(⟨[goldIt],[],[],[],⟨some ⟨W.heap.size,0,none⟩,1,1⟩,sl0,sl0,sl0⟩:CatM)) text3 (by decide) (HT.out.below HZ4.out HT.out.1) (HIT.out _ HZ4.out) (HRU.out _));rw[lives3 (⟨[goldIt],[],[],[],⟨some ⟨W.heap.size,0,none⟩,1,1⟩,sl0,sl0,sl0⟩:CatM) rfl rfl]at K3;go_wp2_with fail;refine K3.out.mono ?_;rintro e w5 ⟨rfl,hb⟩;have hb5:Below (w4.alloc (.cells #[.string ⟨#[]⟩,.int .i64 0,.int .i64 0,.slice none 0 0] 49)).heap.size (w4.alloc (.cells #[.string ⟨#[]⟩,.int .i64 0,.int .i64 0,.slice none 0 0] 49)) (w5.alloc (.cells #[.string ⟨#[]⟩,.int .i64 0,.int .i64 0,.slice none 0 0] 49)):=hb.alloc hb.size _;have HMb5:=iH (HMb4.out.below hb5 HMb4.out.lt);have HZ5:=iH (HZ4.out.trans (hb5.mono HZ4.out.size));have HV5:=iH (HV4.out.trans (hb5.mono HV4.out.size));clear K3 hb hb5 d0 d1 d2 d3 dl HCb4 HMb4 HZ4 HZ3;have HM5:=iH (HM1.out.bel HV5.out);obtain⟨bb,off,hA,hbb,c0,c1,c2,c3⟩:=HM5.out.at_ 0 (by simp);obtain⟨bb',off',hA',_,e0,e1,e2,e3⟩:=HM5.out.at_ 1 (by simp);dsimp only[MkM.ks,MkM.s]at hA hA';rw[hA]at hA';cases hA';subst hA;simp only[Nat.zero_mul,Nat.add_zero,Nat.one_mul,List.getElem_cons_zero,List.getElem_cons_succ]at c0 c1 c2 c3 e0 e1 e2 e3;rw[ha0]at c1;rw[ho1]at e0;have m0:(w5.alloc (.cells #[.string ⟨#[]⟩,.int .i64 0,.int .i64 0,.slice none 0 0] 49)).cell? ⟨w1.heap.size,0,none⟩=some (.string sAnd):=HMb5.out.cell 0;have m1:(w5.alloc (.cells #[.string ⟨#[]⟩,.int .i64 0,.int .i64 0,.slice none 0 0] 49)).cell? ⟨w1.heap.size,1,none⟩=some (.int .i64 0):=HMb5.out.cell 1;have m2:(w5.alloc (.cells #[.string ⟨#[]⟩,.int .i64 0,.int .i64 0,.slice none 0 0] 49)).cell? ⟨w1.heap.size,2,none⟩=some (.int .i64 0):=HMb5.out.cell 2;have m3:(w5.alloc (.cells #[.string ⟨#[]⟩,.int .i64 0,.int .i64 0,.slice none 0 0] 49)).cell? ⟨w1.heap.size,3,none⟩=some (.slice (some ⟨bb,off,none⟩) 2 c):=HMb5.out.cell 3;have ml:=HMb5.out.lt;have q1:sAnd.toList=[97,110,100]:=lAnd;have q2:sOr.toList=[111,114]:=lOr;have q3:=lText4;have K6:=iH (matches_any stepV ⟨sAnd,0,0,[k0,k1],⟨some ⟨bb,off,none⟩,2,c⟩⟩ _ _ HM5.out (step_ok _));rw[HC1.out,lives6 stepV rfl rfl]at K6;have K7:Hid (Calls Tryz.prog 23 #[.agg #[.string sAnd,.int .i64 0,.int .i64 0,.slice (some ⟨bb,off,none⟩) 2 c],.agg #[.int .i64 0,.int .i64 4,.int .i64 7,.int .i64 0,.int .i64 0,.int .i64 0,.slice none 0 0]] _ _):=iH K6.out;have HYE:=iH (HY0.out.trans (HZ5.out.mono HY0.out.size));clear K6;go_wp2_with fail;refine K7.out.mono ?_;rintro e w6 ⟨rfl,hb⟩;have HYF:=iH (HYE.out.trans (hb.mono HYE.out.size));clear hb K7;go_wp2;go_ret;exact⟨rfl,HYF.out⟩
end Go.Proofs.YtocodlpgaamblaaGreatDoor
