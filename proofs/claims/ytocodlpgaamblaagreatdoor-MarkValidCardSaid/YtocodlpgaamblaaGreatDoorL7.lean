/- Valid: the error of a mark. Valid: the error of a mark. Matches on any mark. version.names and New on items with any names (turned from A21, A23). The reference's Item and alike. The generator of catalogs: its memory, next, some, amounts. The generator of catalogs: amounts and item. The plain law of amounts that come back. The generator of marks: its memory, next; the number of marks in a mark. The number of marks in a mark, its depth: the reference. A drawn region whose last operation does not wait for all the others by itself. The reference's Matches, Steps. -/
import Derived.Test.YtocodlpgaamblaaGreatDoorL1
import Derived.Test.YtocodlpgaamblaaGreatDoorL4
import Derived.Test.YtocodlpgaamblaaGreatDoorL5
import Derived.Test.YtocodlpgaamblaaGreatDoorL6
import Derived.BigQuiet
import Derived.Maps.AppendAt
set_option linter.unusedVariables false
set_option linter.unusedSimpArgs false
set_option maxRecDepth 100000
set_option maxHeartbeats 2000000
open Go.RowKit
namespace Go.Proofs.YtocodlpgaamblaaGreatDoor
def usesB (op:ByteArray):Bool:=isTwo op || decide (op=sMore)
def namesOk (op:ByteArray) (ni nr:Nat) (a b:Int):Bool:=if op=sRule then decide (0<=a) && decide (a<nr) else if op=sItem then decide (0<=a) && decide (a<ni) else if op=sMore then decide (0<=b) && decide (b<ni) else true
def rangeK (op:ByteArray) (a b:Int):Bool:=if op=sKind then decide (0<=a) && decide (a<=10) else if op=sActor∨op=sAccount then decide (0<=a) && decide (a<=1073741824) else if isTwo op then decide (0<=a) && decide (a<=b) && decide (b<=1099511627776) else if op=sMore then decide (0<=a) && decide (a<=1099511627776) else true
def aloneE (ni nr:Nat) (op:ByteArray) (a b:Int) (k:Nat):Int :=
 if op=sAnd∨op=sOr then(if k<2∨a≠0∨b≠0 then 1 else 0)
 else if op=sNot then(if k≠1∨a≠0∨b≠0 then 1 else 0)
 else if isOp op=false∨0<k∨(b≠0∧usesB op=false) then 1
 else if namesOk op ni nr a b=false then 6
 else if rangeK op a b=false then 5 else 0
mutual
def Mk.check (ni nr:Nat):Mk->Int | .node op a b ks=>if aloneE ni nr op a b ks.length≠0 then aloneE ni nr op a b ks.length else Mk.checkL ni nr ks
def Mk.checkL (ni nr:Nat):List Mk->Int | []=>0 | k :: ks=>if k.check ni nr≠0 then k.check ni nr else Mk.checkL ni nr ks
end
def validM (ni nr:Nat) (m:Mk):Int:=if 64<m.size∨16<m.depth then 4 else m.check ni nr
theorem alone_ne4 (ni nr:Nat) (op:ByteArray) (a b:Int) (k:Nat):aloneE ni nr op a b k≠4:=by
 unfold aloneE
 repeat' split
 all_goals decide
theorem checkL_ne4 {ni nr:Nat} {ks:List Mk} (h:∀k∈ks,k.check ni nr≠4):Mk.checkL ni nr ks≠4:=by
 induction ks with
 | nil=>show(0:Int)≠4;decide
 | cons x xs ih =>
   simp only[Mk.checkL];split
   ·exact h x (List.mem_cons_self ..)
   ·exact ih fun k hk=>h k (List.mem_cons_of_mem _ hk)
theorem check_ne4 (ni nr:Nat):∀m:Mk,m.check ni nr≠4:=by
 intro m
 induction m using Mk.ind with
 | h op a b ks ih =>
   simp only[Mk.check];by_cases h:aloneE ni nr op a b ks.length≠0
   ·rw[if_pos h];exact alone_ne4 ni nr op a b ks.length
   ·rw[if_neg h];exact checkL_ne4 ih
theorem valid_4 (ni nr:Nat) (m:Mk):validM ni nr m=4 ↔ 64<m.size∨16<m.depth:=by
 unfold validM;by_cases h:64<m.size∨16<m.depth
 ·rw[if_pos h];exact⟨fun _=>h,fun _=>rfl⟩
 ·rw[if_neg h];exact⟨fun k=>absurd k (check_ne4 ni nr m),fun k=>absurd k h⟩
def NmOk (q:Nat) (f:Nat->Nat->Int->Int->Bool):Prop:=∀(op:ByteArray) (a b:Int) (A:Option Addr) (n c:Nat) (si sr st sx:Sl) (w:World),Calls Tryz.prog q #[.agg #[.slice si.A si.n si.c,.slice sr.A sr.n sr.c,.slice st.A st.n st.c,.slice sx.A sx.n sx.c],.agg #[.string op,.int .i64 a,.int .i64 b,.slice A n c]] w fun e w'=>e=.returned (.bool (f si.n sr.n a b))∧Below w.heap.size w w'
theorem nm_rule:NmOk 95 fun ni nr a b=>decide (0<=a) && decide (a<nr):=by
 intro op a b A n c si sr st sx w;have y:Below w.heap.size w ((w.alloc (.cells #[.slice si.A si.n si.c,.slice sr.A sr.n sr.c,.slice st.A st.n st.c,.slice sx.A sx.n sx.c] 28)).alloc (.cells #[.string op,.int .i64 a,.int .i64 b,.slice A n c] 49)):=((Below.refl _ _).alloc (Nat.le_refl _) _).alloc (by simp) _;cases q:decide (0<=a)
 ·have q':decide (0<=a)=false:=q;go_enter Tryz.func95,Tryz.ntmps95;go_wp2;go_ret;exact⟨by congr 2;rw[q];simp,y⟩
 ·have q':decide (0<=a)=true:=q;go_enter Tryz.func95,Tryz.ntmps95;go_wp2;go_ret;exact⟨by congr 2;rw[q];simp,y⟩
theorem nm_item:NmOk 100 fun ni nr a b=>decide (0<=a) && decide (a<ni):=by
 intro op a b A n c si sr st sx w;have y:Below w.heap.size w ((w.alloc (.cells #[.slice si.A si.n si.c,.slice sr.A sr.n sr.c,.slice st.A st.n st.c,.slice sx.A sx.n sx.c] 28)).alloc (.cells #[.string op,.int .i64 a,.int .i64 b,.slice A n c] 49)):=((Below.refl _ _).alloc (Nat.le_refl _) _).alloc (by simp) _;cases q:decide (0<=a)
 ·have q':decide (0<=a)=false:=q;go_enter Tryz.func100,Tryz.ntmps100;go_wp2;go_ret;exact⟨by congr 2;rw[q];simp,y⟩
 ·have q':decide (0<=a)=true:=q;go_enter Tryz.func100,Tryz.ntmps100;go_wp2;go_ret;exact⟨by congr 2;rw[q];simp,y⟩
theorem nm_more:NmOk 102 fun ni nr a b=>decide (0<=b) && decide (b<ni):=by
 intro op a b A n c si sr st sx w;have y:Below w.heap.size w ((w.alloc (.cells #[.slice si.A si.n si.c,.slice sr.A sr.n sr.c,.slice st.A st.n st.c,.slice sx.A sx.n sx.c] 28)).alloc (.cells #[.string op,.int .i64 a,.int .i64 b,.slice A n c] 49)):=((Below.refl _ _).alloc (Nat.le_refl _) _).alloc (by simp) _;cases q:decide (0<=b)
 ·have q':decide (0<=b)=false:=q;go_enter Tryz.func102,Tryz.ntmps102;go_wp2;go_ret;exact⟨by congr 2;rw[q];simp,y⟩
 ·have q':decide (0<=b)=true:=q;go_enter Tryz.func102,Tryz.ntmps102;go_wp2;go_ret;exact⟨by congr 2;rw[q];simp,y⟩
theorem nm_any:NmOk 85 fun _ _ _ _=>true:=by
 intro op a b A n c si sr st sx w;have y:Below w.heap.size w ((w.alloc (.cells #[.slice si.A si.n si.c,.slice sr.A sr.n sr.c,.slice st.A st.n st.c,.slice sx.A sx.n sx.c] 28)).alloc (.cells #[.string op,.int .i64 a,.int .i64 b,.slice A n c] 49)):=((Below.refl _ _).alloc (Nat.le_refl _) _).alloc (by simp) _;go_enter Tryz.func85,Tryz.ntmps85;go_wp2;go_ret;exact⟨rfl,by first | exact y | exact Below.refl _ _⟩
def EntersF (q:Nat):Prop:=∀(args:Array Value) (W:World),(callFunc q args).run Tryz.prog W=.ok (.enter q args) W
theorem en85:EntersF 85:=enter_of Tryz.func85 (by kernel_rfl) rfl
theorem en95:EntersF 95:=enter_of Tryz.func95 (by kernel_rfl) rfl
theorem en100:EntersF 100:=enter_of Tryz.func100 (by kernel_rfl) rfl
theorem en102:EntersF 102:=enter_of Tryz.func102 (by kernel_rfl) rfl
theorem en91:EntersF 91:=enter_of Tryz.func91 (by kernel_rfl) rfl
theorem en93:EntersF 93:=enter_of Tryz.func93 (by kernel_rfl) rfl
theorem en96:EntersF 96:=enter_of Tryz.func96 (by kernel_rfl) rfl
theorem en98:EntersF 98:=enter_of Tryz.func98 (by kernel_rfl) rfl
theorem en103:EntersF 103:=enter_of Tryz.func103 (by kernel_rfl) rfl
theorem conds_ok (b1 b2 b3:Nat) {op:ByteArray} (h:isOp op=true):∃c,condsM b1 b2 b3 op=some c∧c.u=usesB op∧NmOk c.nm (namesOk op)∧EntersF c.nm∧RgOk c.rg (rangeK op)∧EntersF c.rg:=by
 have e1:condsM b1 b2 b3 sKind=some ⟨false,90,none,85,91⟩:=by unfold condsM updC;rw[if_neg (by decide),if_neg (by decide),if_neg (by decide),if_neg (by decide),if_neg (by decide),if_neg (by decide),if_neg (by decide),if_pos rfl]
 have e2:condsM b1 b2 b3 sActor=some ⟨false,92,none,85,93⟩:=by unfold condsM updC;rw[if_neg (by decide),if_neg (by decide),if_neg (by decide),if_neg (by decide),if_neg (by decide),if_neg (by decide),if_pos rfl]
 have e3:condsM b1 b2 b3 sRule=some ⟨false,94,none,95,96⟩:=by unfold condsM updC;rw[if_neg (by decide),if_neg (by decide),if_neg (by decide),if_neg (by decide),if_neg (by decide),if_pos rfl]
 have e4:condsM b1 b2 b3 sTick=some ⟨true,97,none,85,98⟩:=by unfold condsM updC;rw[if_neg (by decide),if_neg (by decide),if_neg (by decide),if_neg (by decide),if_pos rfl]
 have e5:condsM b1 b2 b3 sItem=some ⟨false,87,some b1,100,96⟩:=by unfold condsM updC;rw[if_neg (by decide),if_neg (by decide),if_neg (by decide),if_pos rfl]
 have e6:condsM b1 b2 b3 sMore=some ⟨true,87,some b2,102,103⟩:=by unfold condsM updC;rw[if_neg (by decide),if_neg (by decide),if_pos rfl]
 have e7:condsM b1 b2 b3 sStep=some ⟨true,104,none,85,98⟩:=by unfold condsM updC;rw[if_neg (by decide),if_pos rfl]
 have e8:condsM b1 b2 b3 sAccount=some ⟨false,87,some b3,85,93⟩:=by unfold condsM updC;rw[if_pos rfl]
 unfold isOp at h;simp only[Bool.or_eq_true,decide_eq_true_eq]at h;rcases h with ((((((rfl|rfl)|rfl)|rfl)|rfl)|rfl)|rfl)|rfl
 ·exact⟨_,e1,by decide,nm_any,en85,rg_kind,en91⟩
 ·exact⟨_,e2,by decide,nm_any,en85,rg_account,en93⟩
 ·exact⟨_,e3,by decide,nm_rule,en95,rg_always,en96⟩
 ·exact⟨_,e4,by decide,nm_any,en85,rg_range,en98⟩
 ·exact⟨_,e5,(by decide:false=usesB sItem),nm_item,en100,rg_always,en96⟩
 ·exact⟨_,e6,(by decide:true=usesB sMore),nm_more,en102,rg_more,en103⟩
 ·exact⟨_,e7,by decide,nm_any,en85,rg_range,en98⟩
 ·exact⟨_,e8,(by decide:false=usesB sAccount),nm_any,en85,rg_account,en93⟩
theorem count_any (most:Nat) (hm1:1<=most) (hm:most<=1000):∀(d:Nat),d<=1000->∀(M:MkM) (w:World) (P:Nat->Prop),M.Ok w 49 P->Calls Tryz.prog 54 #[.agg #[.string M.op,.int .i64 M.a,.int .i64 M.b,.slice M.s.A M.s.n M.s.c],.int .i64 most,.int .i64 d] w fun e w'=>e=.returned (.int .i64 (cntP most d M.core:Nat))∧Below w.heap.size w w':=by
 intro d
 induction d with
 | zero =>
   intro _ M w P h;have y:Below w.heap.size w (w.alloc (.cells #[.string M.op,.int .i64 M.a,.int .i64 M.b,.slice M.s.A M.s.n M.s.c] 49)):=(Below.refl _ _).alloc (Nat.le_refl _) _;have e:cntP most 0 M.core=most+1:=rfl;have hw:IntKind.i64.wrap ((most:Int)+1)=((most+1:Nat):Int):=by simp[IntKind.wrap_i64];omega
   rw[e];clear h e;go_enter Tryz.func54,Tryz.ntmps54;go_wp2;go_ret;exact⟨by simp,y⟩
 | succ d ih =>
   intro hd M w P h;have y:Below w.heap.size w (w.alloc (.cells #[.string M.op,.int .i64 M.a,.int .i64 M.b,.slice M.s.A M.s.n M.s.c] 49)):=(Below.refl _ _).alloc (Nat.le_refl _) _;have Hn:=iH h.len;have H:=iH h;have hs:=h.small;have hT:cntP most (d+1) M.core=cntL (cntP most d) most ((M.ks.drop 0).map MkM.core) 1:=by
    rw[List.drop_zero,<- coreL_map];cases M;rfl
   have hw:IntKind.i64.wrap ((most:Int)+1)=((most+1:Nat):Int):=by simp[IntKind.wrap_i64];omega
   have hd1:IntKind.i64.wrap (((d+1:Nat):Int)-1)=(d:Int):=by simp[IntKind.wrap_i64];omega
   have hd0:(((d+1:Nat):Int) == 0)=false:=by simp;omega
   have HT:=iH hT;generalize cntP most (d+1) M.core=T at *;have HI:=iH (ih (by omega));obtain⟨mop,ma,mbb,l,s⟩:=M;dsimp only[MkM.ks,MkM.s,MkM.op,MkM.a,MkM.b]at *;obtain⟨A,n,c⟩:=s;dsimp only at *;clear h hT ih;generalize hdd:((d+1:Nat):Int)=D at *;go_enter Tryz.func54,Tryz.ntmps54;go_wp2_with fail;go_loopw [7,17] (fun v i wr=>∃k x:Nat,k<=n∧x<=most∧v=.int .i64 x∧i=.int .i64 k∧T=cntL (cntP most d) most ((l.drop k).map MkM.core) x∧Below w.heap.size w wr) (fun _ i _=>n-(intOf i).toNat)
   case atStart=>exact⟨0,1,Nat.zero_le _,hm1,rfl,rfl,HT.out,y⟩
   case round =>
    obtain⟨k,x,hk,hx,rfl,rfl,hR,hb⟩:=hrel;have HR:=iH hR;have HB:=iH hb;have hsz:=hb.size;by_cases hlt:k<n
    ·have hkl:k<l.length:=by have:=Hn.out;omega
     obtain⟨b,off,rfl,hbb,c0,c1,c2,c3⟩:=(H.out.bel hb).at_ k hkl;dsimp only[MkM.ks,MkM.s]at c0 c1 c2 c3;have hdr:l.drop k=l[k] :: l.drop (k+1):=List.drop_eq_getElem_cons hkl;have HR2:Hid (T=if most<x+cntP most d l[k].core then most+1 else cntL (cntP most d) most ((l.drop (k+1)).map MkM.core) (x+cntP most d l[k].core)):=by
      show T=_;rw[hR,hdr,List.map_cons];rfl
     have hmem:=List.getElem_mem hkl;have y2:Below wr.heap.size wr (wr.alloc (.cells #[.string l[k].op,.int .i64 l[k].a,.int .i64 l[k].b,.slice l[k].s.A l[k].s.n l[k].s.c] 49)):=(Below.refl _ _).alloc (Nat.le_refl _) _;have HC:=iH (HI.out l[k] _ P (((H.out.bel hb).each l[k] hmem).bel y2));have HB2:=iH (hb.trans (y2.mono hsz));have hcm:=(cntP_is most hm1 d l[k].core).2.2;clear hmem hdr hR HR hb y2;generalize l[k]=t at *;generalize cntP most d t.core=z at *;clear hkl;have hwz:IntKind.i64.wrap ((x:Int)+(z:Int))=((x+z:Nat):Int):=by simp[IntKind.wrap_i64];omega
     go_wp2_with fail;refine HC.out.mono ?_;rintro e w1 ⟨rfl,hb1⟩;have HB3:=iH (HB2.out.trans (hb1.mono HB2.out.size));clear HC hb1 HB2;by_cases hov:most<x+z
     ·have HF:Hid (T=most+1):=by show T=_;rw[HR2.out,if_pos hov]
      have hov':(most:Int)<((x+z:Nat):Int):=by omega
      clear HR2 hov;generalize hxz:((x+z:Nat):Int)=XZ at *;go_wp2;go_ret;exact⟨by rw[HF.out];rfl,HB3.out⟩
     ·have HF:Hid (T=cntL (cntP most d) most ((l.drop (k+1)).map MkM.core) (x+z)):=by show T=_;rw[HR2.out,if_neg hov]
      have hov':¬ (most:Int)<((x+z:Nat):Int):=by omega
      have hxm:x+z<=most:=by omega
      clear HR2 hov;have HXZ:Hid (((x+z:Nat):Int)=((x+z:Nat):Int)):=iH rfl;generalize hxz:x+z=xz at *;go_wp2;go_roundw
      case rel=>exact⟨k+1,xz,by omega,hxm,rfl,by go_num,HF.out,HB3.out⟩
      case measure=>simp[intOf];omega
    ·have hkn:k=n:=by omega
     have HF:Hid (T=x):=by
      show T=x;rw[hR,hkn,List.drop_of_length_le (by have:=Hn.out;omega)];rfl
     clear hR HR hkn;go_wp2;go_ret;exact⟨by rw[HF.out];rfl,HB.out⟩
theorem lAnd:sAnd.toList=[97,110,100]:=by decide +kernel
theorem lOr:sOr.toList=[111,114]:=by decide +kernel
theorem lNot:sNot.toList=[110,111,116]:=by decide +kernel
theorem alone_any {w:World} {bm k b1 b2 b3:Nat} (hm:MapC w bm k (condsM b1 b2 b3)) (op:ByteArray) (a b:Int) (A:Option Addr) (n c:Nat) (si sr st sx:Sl) (hop:op.size<=8192) (hn:n<=100000) :
 Calls Tryz.prog 84 #[.map (some bm),.agg #[.slice si.A si.n si.c,.slice sr.A sr.n sr.c,.slice st.A st.n st.c,.slice sx.A sx.n sx.c],.agg #[.string op,.int .i64 a,.int .i64 b,.slice A n c]] w fun e w'=>e=.returned (.int .i64 (aloneE si.n sr.n op a b n))∧Below w.heap.size w w':=by
 have y:Below w.heap.size w ((w.alloc (.cells #[.slice si.A si.n si.c,.slice sr.A sr.n sr.c,.slice st.A st.n st.c,.slice sx.A sx.n sx.c] 28)).alloc (.cells #[.string op,.int .i64 a,.int .i64 b,.slice A n c] 49)):=((Below.refl _ _).alloc (Nat.le_refl _) _).alloc (by simp) _;have Y:=iH y;have q1:(op.toList == [97,110,100])=decide (op=sAnd):=by rw[<- lAnd];exact eqL _ _
 have q2:(op.toList == [111,114])=decide (op=sOr):=by rw[<- lOr];exact eqL _ _
 have q3:(op.toList == [110,111,116])=decide (op=sNot):=by rw[<- lNot];exact eqL _ _
 by_cases e1:op=sAnd
 ·have al1:n<2∨a≠0∨b≠0->aloneE si.n sr.n op a b n=1:=fun h=>by unfold aloneE;rw[if_pos (.inl e1),if_pos h]
  have al0:¬ n<2->a=0->b=0->aloneE si.n sr.n op a b n=0:=fun h ha hb=>by unfold aloneE;rw[if_pos (.inl e1),if_neg (by simp[h,ha,hb])]
  rw[decide_eq_true e1]at q1;clear e1 q2 q3 hm y;by_cases hk:(n:Int)<2
  ·have HQ:Hid (aloneE si.n sr.n op a b n=1):=iH (al1 (.inl (by omega)));clear al0 al1;go_enter Tryz.func84,Tryz.ntmps84;go_wp2;go_ret;exact⟨by rw[HQ.out];rfl,Y.out⟩
  by_cases ha:a=0
  ·subst ha;by_cases hb:b=0
   ·subst hb;have HQ:Hid (aloneE si.n sr.n op 0 0 n=0):=iH (al0 (by omega) rfl rfl);clear al0 al1;go_enter Tryz.func84,Tryz.ntmps84;go_wp2;go_ret;exact⟨by rw[HQ.out];rfl,Y.out⟩
   ·have HQ:Hid (aloneE si.n sr.n op 0 b n=1):=iH (al1 (.inr (.inr hb)));clear al0 al1;go_enter Tryz.func84,Tryz.ntmps84;go_wp2;go_ret;exact⟨by rw[HQ.out];rfl,Y.out⟩
  ·have HQ:Hid (aloneE si.n sr.n op a b n=1):=iH (al1 (.inr (.inl ha)));clear al0 al1;go_enter Tryz.func84,Tryz.ntmps84;go_wp2;go_ret;exact⟨by rw[HQ.out];rfl,Y.out⟩
 rw[decide_eq_false e1]at q1;by_cases e2:op=sOr
 ·have al1:n<2∨a≠0∨b≠0->aloneE si.n sr.n op a b n=1:=fun h=>by unfold aloneE;rw[if_pos (.inr e2),if_pos h]
  have al0:¬ n<2->a=0->b=0->aloneE si.n sr.n op a b n=0:=fun h ha hb=>by unfold aloneE;rw[if_pos (.inr e2),if_neg (by simp[h,ha,hb])]
  rw[decide_eq_true e2]at q2;clear e1 e2 q3 hm y;by_cases hk:(n:Int)<2
  ·have HQ:Hid (aloneE si.n sr.n op a b n=1):=iH (al1 (.inl (by omega)));clear al0 al1;go_enter Tryz.func84,Tryz.ntmps84;go_wp2;go_ret;exact⟨by rw[HQ.out];rfl,Y.out⟩
  by_cases ha:a=0
  ·subst ha;by_cases hb:b=0
   ·subst hb;have HQ:Hid (aloneE si.n sr.n op 0 0 n=0):=iH (al0 (by omega) rfl rfl);clear al0 al1;go_enter Tryz.func84,Tryz.ntmps84;go_wp2;go_ret;exact⟨by rw[HQ.out];rfl,Y.out⟩
   ·have HQ:Hid (aloneE si.n sr.n op 0 b n=1):=iH (al1 (.inr (.inr hb)));clear al0 al1;go_enter Tryz.func84,Tryz.ntmps84;go_wp2;go_ret;exact⟨by rw[HQ.out];rfl,Y.out⟩
  ·have HQ:Hid (aloneE si.n sr.n op a b n=1):=iH (al1 (.inr (.inl ha)));clear al0 al1;go_enter Tryz.func84,Tryz.ntmps84;go_wp2;go_ret;exact⟨by rw[HQ.out];rfl,Y.out⟩
 rw[decide_eq_false e2]at q2;by_cases e3:op=sNot
 ·have al1:n≠1∨a≠0∨b≠0->aloneE si.n sr.n op a b n=1:=fun h=>by unfold aloneE;rw[if_neg (by simp[e1,e2]),if_pos e3,if_pos h]
  have al0:n=1->a=0->b=0->aloneE si.n sr.n op a b n=0:=fun h ha hb=>by unfold aloneE;rw[if_neg (by simp[e1,e2]),if_pos e3,if_neg (by simp[h,ha,hb])]
  rw[decide_eq_true e3]at q3;clear e1 e2 e3 hm y;by_cases hk:n=1
  ·subst hk;by_cases ha:a=0
   ·subst ha;by_cases hb:b=0
    ·subst hb;have HQ:Hid (aloneE si.n sr.n op 0 0 1=0):=iH (al0 (by rfl) rfl rfl);clear al0 al1;go_enter Tryz.func84,Tryz.ntmps84;go_wp2;go_ret;exact⟨by rw[HQ.out];rfl,Y.out⟩
    ·have HQ:Hid (aloneE si.n sr.n op 0 b 1=1):=iH (al1 (.inr (.inr hb)));clear al0 al1;go_enter Tryz.func84,Tryz.ntmps84;go_wp2;go_ret;exact⟨by rw[HQ.out];rfl,Y.out⟩
   ·have HQ:Hid (aloneE si.n sr.n op a b 1=1):=iH (al1 (.inr (.inl ha)));clear al0 al1;go_enter Tryz.func84,Tryz.ntmps84;go_wp2;go_ret;exact⟨by rw[HQ.out];rfl,Y.out⟩
  have HQ:Hid (aloneE si.n sr.n op a b n=1):=iH (al1 (.inl hk));have hk':¬ (n:Int)=1:=by omega
  clear al0 al1 hk;go_enter Tryz.func84,Tryz.ntmps84;go_wp2;go_ret;exact⟨by rw[HQ.out];rfl,Y.out⟩
 rw[decide_eq_false e3]at q3;have hlook:=(hm.below y).look_ok (s:=op) (by unfold maxLen;omega);have al:aloneE si.n sr.n op a b n=if isOp op=false∨0<n∨(b≠0∧usesB op=false) then 1 else if namesOk op si.n sr.n a b=false then 6 else if rangeK op a b=false then 5 else 0:=by
  unfold aloneE;rw[if_neg (by simp[e1,e2]),if_neg e3]
 clear e1 e2 e3 hm y;cases ho:isOp op
 ·have hz:condsM b1 b2 b3 op=none:=by
   have:=condsM_is b1 b2 b3 op;rw[ho]at this;cases hc:condsM b1 b2 b3 op with
   | none=>rfl
   | some c=>rw[hc]at this;cases this
  rw[hz]at hlook;change(Instr.lookup 121 (.map (some bm)) (.string op) true).run Tryz.prog _=.ok (.tuple #[.agg #[.bool false,.nilFunc,.nilFunc,.nilFunc],.bool false]) _ at hlook;rw[if_pos (.inl ho)]at al;have HQ:=iH al;clear al ho hz;have y2:Below w.heap.size w (((w.alloc (.cells #[.slice si.A si.n si.c,.slice sr.A sr.n sr.c,.slice st.A st.n st.c,.slice sx.A sx.n sx.c] 28)).alloc (.cells #[.string op,.int .i64 a,.int .i64 b,.slice A n c] 49)).alloc (.cells #[.bool false,.nilFunc,.nilFunc,.nilFunc] 169)):=Y.out.alloc (by simp;omega) _;have Y:=iH y2;clear y2;go_enter Tryz.func84,Tryz.ntmps84;go_wp2;go_ret;exact⟨by rw[HQ.out];rfl,Y.out⟩
 ·obtain⟨⟨u,f,cap,nm,rg⟩,hc,hu,hnm,hen,hrg,her⟩:=conds_ok b1 b2 b3 ho;dsimp only at hu hnm hen hrg her;rw[hc]at hlook;change(Instr.lookup 121 (.map (some bm)) (.string op) true).run Tryz.prog _=.ok (.tuple #[.agg #[.bool u,.func (.func f) #[] (capsV cap),.func (.func nm) #[] #[],.func (.func rg) #[] #[]],.bool true]) _ at hlook;generalize capsV cap=cv at *;have y2:Below w.heap.size w (((w.alloc (.cells #[.slice si.A si.n si.c,.slice sr.A sr.n sr.c,.slice st.A st.n st.c,.slice sx.A sx.n sx.c] 28)).alloc (.cells #[.string op,.int .i64 a,.int .i64 b,.slice A n c] 49)).alloc (.cells #[.bool u,.func (.func f) #[] cv,.func (.func nm) #[] #[],.func (.func rg) #[] #[]] 169)):=Y.out.alloc (by simp;omega) _;have Y:=iH y2;rw[<- hu]at al;have hen':∀(args:Array Value) (W:World),(callFunc nm args).run Tryz.prog W=.ok (.enter nm args) W:=hen;have her':∀(args:Array Value) (W:World),(callFunc rg args).run Tryz.prog W=.ok (.enter rg args) W:=her;have HNM:=iH (hnm op a b A n c si sr st sx (((w.alloc (.cells #[.slice si.A si.n si.c,.slice sr.A sr.n sr.c,.slice st.A st.n st.c,.slice sx.A sx.n sx.c] 28)).alloc (.cells #[.string op,.int .i64 a,.int .i64 b,.slice A n c] 49)).alloc (.cells #[.bool u,.func (.func f) #[] cv,.func (.func nm) #[] #[],.func (.func rg) #[] #[]] 169)));have HRG:=iH (fun W=>hrg op a b A n c W);have hno:¬ isOp op=false:=by rw[ho];simp
  have HAL:=iH al;have BK:Hid (Bk (((w.alloc (.cells #[.slice si.A si.n si.c,.slice sr.A sr.n sr.c,.slice st.A st.n st.c,.slice sx.A sx.n sx.c] 28)).alloc (.cells #[.string op,.int .i64 a,.int .i64 b,.slice A n c] 49)).alloc (.cells #[.bool u,.func (.func f) #[] cv,.func (.func nm) #[] #[],.func (.func rg) #[] #[]] 169)) (w.heap.size+1) 49 [.string op,.int .i64 a,.int .i64 b,.slice A n c]):=by
   have:=(Bk.new (w.alloc (.cells #[.slice si.A si.n si.c,.slice sr.A sr.n sr.c,.slice st.A st.n st.c,.slice sx.A sx.n sx.c] 28)) 49 [.string op,.int .i64 a,.int .i64 b,.slice A n c]).alloc (.cells #[.bool u,.func (.func f) #[] cv,.func (.func nm) #[] #[],.func (.func rg) #[] #[]] 169);rw[World.size_alloc]at this;exact iH this
  have BB:Hid (Bk (((w.alloc (.cells #[.slice si.A si.n si.c,.slice sr.A sr.n sr.c,.slice st.A st.n st.c,.slice sx.A sx.n sx.c] 28)).alloc (.cells #[.string op,.int .i64 a,.int .i64 b,.slice A n c] 49)).alloc (.cells #[.bool u,.func (.func f) #[] cv,.func (.func nm) #[] #[],.func (.func rg) #[] #[]] 169)) (w.heap.size+1+1) 169 [.bool u,.func (.func f) #[] cv,.func (.func nm) #[] #[],.func (.func rg) #[] #[]]):=by
   have:=Bk.new ((w.alloc (.cells #[.slice si.A si.n si.c,.slice sr.A sr.n sr.c,.slice st.A st.n st.c,.slice sx.A sx.n sx.c] 28)).alloc (.cells #[.string op,.int .i64 a,.int .i64 b,.slice A n c] 49)) 169 [.bool u,.func (.func f) #[] cv,.func (.func nm) #[] #[],.func (.func rg) #[] #[]];rw[World.size_alloc,World.size_alloc]at this;exact iH this
  clear hc hu hnm hen hrg her y2 al;by_cases hk:0<(n:Int)
  ·have HQ:Hid (aloneE si.n sr.n op a b n=1):=by show _=_;rw[HAL.out,if_pos (.inr (.inl (by omega)))]
   clear HAL HNM HRG hno ho;go_enter Tryz.func84,Tryz.ntmps84;go_wp2;go_ret;exact⟨by rw[HQ.out];rfl,Y.out⟩
  obtain rfl:n=0:=by omega
  clear hk;by_cases hb:b=0
  ·subst hb;have HQ:Hid (aloneE si.n sr.n op a 0 0=if namesOk op si.n sr.n a 0=false then 6 else if rangeK op a 0=false then 5 else 0):=by show _=_;rw[HAL.out,if_neg (by simp[ho])]
   clear HAL hno ho;go_enter Tryz.func84,Tryz.ntmps84;go_wp2_with fail;refine HNM.out.mono ?_;rintro e w1 ⟨rfl,hb1⟩;have YB:=iH (Y.out.trans (hb1.mono Y.out.size));have B8:=BB.out.below hb1 BB.out.lt;have B5:=BK.out.below hb1 BK.out.lt;have HR1:=iH (HRG.out w1);have f3:=B8.k3;have l8:=B8.lt;have c0:=B5.k0;have c1:=B5.k1;have c2:=B5.k2;have c3:=B5.k3;have l5:=B5.lt;clear HNM hb1 B8 B5 HRG BB BK;cases hnq:namesOk op si.n sr.n a 0
   ·have HQ2:Hid (aloneE si.n sr.n op a 0 0=6):=by show _=_;rw[HQ.out,if_pos hnq]
    clear HQ hnq;go_wp2;go_ret;exact⟨by rw[HQ2.out];rfl,YB.out⟩
   ·have HQ2:Hid (aloneE si.n sr.n op a 0 0=if rangeK op a 0=false then 5 else 0):=by show _=_;rw[HQ.out,if_neg (by simp[hnq])]
    clear HQ hnq;go_wp2_with fail;refine HR1.out.mono ?_;rintro e w2 ⟨rfl,hb2⟩;have YC:=iH (YB.out.trans (hb2.mono YB.out.size));clear HR1 hb2 YB;cases hrq:rangeK op a 0
    ·have HQ3:Hid (aloneE si.n sr.n op a 0 0=5):=by show _=_;rw[HQ2.out,if_pos hrq]
     clear HQ2 hrq;go_wp2;go_ret;exact⟨by rw[HQ3.out];rfl,YC.out⟩
    ·have HQ3:Hid (aloneE si.n sr.n op a 0 0=0):=by show _=_;rw[HQ2.out,if_neg (by simp[hrq])]
     clear HQ2 hrq;go_wp2;go_ret;exact⟨by rw[HQ3.out];rfl,YC.out⟩
  ·cases u
   ·have HQ:Hid (aloneE si.n sr.n op a b 0=1):=by show _=_;rw[HAL.out,if_pos (.inr (.inr ⟨hb,rfl⟩))]
    clear HAL HNM HRG hno ho;go_enter Tryz.func84,Tryz.ntmps84;go_wp2;go_ret;exact⟨by rw[HQ.out];rfl,Y.out⟩
   ·have HQ:Hid (aloneE si.n sr.n op a b 0=if namesOk op si.n sr.n a b=false then 6 else if rangeK op a b=false then 5 else 0):=by show _=_;rw[HAL.out,if_neg (by simp[ho])]
    clear HAL hno ho;go_enter Tryz.func84,Tryz.ntmps84;go_wp2_with fail;refine HNM.out.mono ?_;rintro e w1 ⟨rfl,hb1⟩;have YB:=iH (Y.out.trans (hb1.mono Y.out.size));have B8:=BB.out.below hb1 BB.out.lt;have B5:=BK.out.below hb1 BK.out.lt;have HR1:=iH (HRG.out w1);have f3:=B8.k3;have l8:=B8.lt;have c0:=B5.k0;have c1:=B5.k1;have c2:=B5.k2;have c3:=B5.k3;have l5:=B5.lt;clear HNM hb1 B8 B5 HRG BB BK;cases hnq:namesOk op si.n sr.n a b
    ·have HQ2:Hid (aloneE si.n sr.n op a b 0=6):=by show _=_;rw[HQ.out,if_pos hnq]
     clear HQ hnq;go_wp2;go_ret;exact⟨by rw[HQ2.out];rfl,YB.out⟩
    ·have HQ2:Hid (aloneE si.n sr.n op a b 0=if rangeK op a b=false then 5 else 0):=by show _=_;rw[HQ.out,if_neg (by simp[hnq])]
     clear HQ hnq;go_wp2_with fail;refine HR1.out.mono ?_;rintro e w2 ⟨rfl,hb2⟩;have YC:=iH (YB.out.trans (hb2.mono YB.out.size));clear HR1 hb2 YB;cases hrq:rangeK op a b
     ·have HQ3:Hid (aloneE si.n sr.n op a b 0=5):=by show _=_;rw[HQ2.out,if_pos hrq]
      clear HQ2 hrq;go_wp2;go_ret;exact⟨by rw[HQ3.out];rfl,YC.out⟩
     ·have HQ3:Hid (aloneE si.n sr.n op a b 0=0):=by show _=_;rw[HQ2.out,if_neg (by simp[hrq])]
      clear HQ2 hrq;go_wp2;go_ret;exact⟨by rw[HQ3.out];rfl,YC.out⟩
theorem check_any {bm kk b1 b2 b3:Nat} (si sr st sx:Sl):∀(M:MkM) (w:World) (P:Nat->Prop),M.Ok w 49 P->MapC w bm kk (condsM b1 b2 b3) ->
 Calls Tryz.prog 55 #[.map (some bm),.agg #[.slice si.A si.n si.c,.slice sr.A sr.n sr.c,.slice st.A st.n st.c,.slice sx.A sx.n sx.c],.agg #[.string M.op,.int .i64 M.a,.int .i64 M.b,.slice M.s.A M.s.n M.s.c]] w fun e w'=>e=.returned (.int .i64 (M.core.check si.n sr.n))∧Below w.heap.size w w':=by
 intro M
 induction M using MkM.ind with
 | h M ih =>
   intro w P h hm;have y:Below w.heap.size w ((w.alloc (.cells #[.slice si.A si.n si.c,.slice sr.A sr.n sr.c,.slice st.A st.n st.c,.slice sx.A sx.n sx.c] 28)).alloc (.cells #[.string M.op,.int .i64 M.a,.int .i64 M.b,.slice M.s.A M.s.n M.s.c] 49)):=((Below.refl _ _).alloc (Nat.le_refl _) _).alloc (by simp) _;have Y:=iH y;have KA:=iH (alone_any (hm.below y) M.op M.a M.b M.s.A M.s.n M.s.c si sr st sx h.hop h.small);have B4:=iH ((Bk.new w 28 [.slice si.A si.n si.c,.slice sr.A sr.n sr.c,.slice st.A st.n st.c,.slice sx.A sx.n sx.c]).alloc (.cells #[.string M.op,.int .i64 M.a,.int .i64 M.b,.slice M.s.A M.s.n M.s.c] 49));have B5:Hid (Bk ((w.alloc (.cells #[.slice si.A si.n si.c,.slice sr.A sr.n sr.c,.slice st.A st.n st.c,.slice sx.A sx.n sx.c] 28)).alloc (.cells #[.string M.op,.int .i64 M.a,.int .i64 M.b,.slice M.s.A M.s.n M.s.c] 49)) (w.heap.size+1) 49 [.string M.op,.int .i64 M.a,.int .i64 M.b,.slice M.s.A M.s.n M.s.c]):=by
    have:=Bk.new (w.alloc (.cells #[.slice si.A si.n si.c,.slice sr.A sr.n sr.c,.slice st.A st.n st.c,.slice sx.A sx.n sx.c] 28)) 49 [.string M.op,.int .i64 M.a,.int .i64 M.b,.slice M.s.A M.s.n M.s.c];rw[World.size_alloc]at this;exact iH this
   have Hn:=iH h.len;have H:=iH h;have HM:=iH hm;have hs:=h.small;have hT:M.core.check si.n sr.n=if aloneE si.n sr.n M.op M.a M.b M.s.n≠0 then aloneE si.n sr.n M.op M.a M.b M.s.n else Mk.checkL si.n sr.n ((M.ks.drop 0).map MkM.core):=by
    rw[List.drop_zero,<- coreL_map,h.len,<- coreL_len];cases M;rfl
   have HT:=iH hT;have HI:=iH ih;generalize M.core.check si.n sr.n=T at *;obtain⟨mop,ma,mbb,l,s⟩:=M;dsimp only[MkM.ks,MkM.s,MkM.op,MkM.a,MkM.b]at *;obtain⟨A,n,c⟩:=s;dsimp only at *;clear h hT ih hm y;go_enter Tryz.func55,Tryz.ntmps55;go_wp2_with fail;refine KA.out.mono ?_;rintro e w1 ⟨rfl,hb1⟩;have Y1:=iH (Y.out.trans (hb1.mono Y.out.size));have B41:=B4.out.below hb1 B4.out.lt;have B51:=B5.out.below hb1 B5.out.lt;have c0:=B51.k3;have l5:=B51.lt;have HB4:=iH B41;clear KA hb1 B4 B5 B51 B41 Y;cases ha:(aloneE si.n sr.n mop ma mbb n == 0)
   ·have HQ:Hid (T=aloneE si.n sr.n mop ma mbb n):=by show T=_;rw[HT.out,if_pos (by simpa using ha)]
    generalize aloneE si.n sr.n mop ma mbb n=er at *;have ha':¬ er=0:=by simpa using ha
    clear HT HI;go_wp2;go_ret;exact⟨by rw[HQ.out];rfl,Y1.out⟩
   ·have ha0:aloneE si.n sr.n mop ma mbb n=0:=by simpa using ha
    have HQ:Hid (T=Mk.checkL si.n sr.n ((l.drop 0).map MkM.core)):=by show T=_;rw[HT.out,if_neg (by simpa using ha)]
    rw[ha0];clear HT ha ha0;go_wp2_with fail;go_loopw [21] (fun i wr=>∃k:Nat,k<=n∧i=.int .i64 k∧T=Mk.checkL si.n sr.n ((l.drop k).map MkM.core)∧Below w.heap.size w wr∧Bk wr w.heap.size 28 [.slice si.A si.n si.c,.slice sr.A sr.n sr.c,.slice st.A st.n st.c,.slice sx.A sx.n sx.c]) (fun i _=>n-(intOf i).toNat)
    case atStart=>exact⟨0,Nat.zero_le _,rfl,HQ.out,Y1.out,HB4.out⟩
    case round =>
     obtain⟨k,hk,rfl,hR,hb,hB⟩:=hrel;have HB:=iH hb;have hsz:=hb.size;by_cases hlt:k<n
     ·have hkl:k<l.length:=by have:=Hn.out;omega
      obtain⟨b,off,rfl,hbb,c0,c1,c2,c3⟩:=(H.out.bel hb).at_ k hkl;dsimp only[MkM.ks,MkM.s]at c0 c1 c2 c3;have hdr:l.drop k=l[k] :: l.drop (k+1):=List.drop_eq_getElem_cons hkl;have HR2:Hid (T=if l[k].core.check si.n sr.n≠0 then l[k].core.check si.n sr.n else Mk.checkL si.n sr.n ((l.drop (k+1)).map MkM.core)):=by
       show T=_;rw[hR,hdr,List.map_cons];rfl
      have hmem:=List.getElem_mem hkl;have y2:Below wr.heap.size wr (wr.alloc (.cells #[.string l[k].op,.int .i64 l[k].a,.int .i64 l[k].b,.slice l[k].s.A l[k].s.n l[k].s.c] 49)):=(Below.refl _ _).alloc (Nat.le_refl _) _;have HC:=iH (HI.out l[k] hmem _ P (((H.out.bel hb).each l[k] hmem).bel y2) ((HM.out.below hb).below y2));have HB2:=iH (hb.trans (y2.mono hsz));have hBk:=hB.below y2 hB.lt;have e0:=hB.k0;have e1:=hB.k1;have e2:=hB.k2;have e3:=hB.k3;have el:=hB.lt;have HBk:=iH hBk;clear hmem hdr hR hb y2 hB hBk HB4;generalize l[k]=t at *;generalize t.core.check si.n sr.n=z at *;clear hkl;go_wp2_with fail;refine HC.out.mono ?_;rintro e w1 ⟨rfl,hb1⟩;have HB3:=iH (HB2.out.trans (hb1.mono HB2.out.size));have HBk3:=iH (HBk.out.below hb1 HBk.out.lt);clear HC hb1 HB2 HBk;by_cases hz:z=0
      ·subst hz;have HF:Hid (T=Mk.checkL si.n sr.n ((l.drop (k+1)).map MkM.core)):=by show T=_;rw[HR2.out,if_neg (by simp)]
       clear HR2;go_wp2;go_roundw
       case rel=>exact⟨k+1,by omega,by go_num,HF.out,HB3.out,HBk3.out⟩
       case measure=>simp[intOf];omega
      ·have HF:Hid (T=z):=by show T=_;rw[HR2.out,if_pos hz]
       clear HR2;go_wp2;go_ret;exact⟨by rw[HF.out];rfl,HB3.out⟩
     ·have hkn:k=n:=by omega
      have HF:Hid (T=0):=by
       show T=0;rw[hR,hkn,List.drop_of_length_le (by have:=Hn.out;omega)];rfl
      clear hR hkn;go_wp2;go_ret;exact⟨by rw[HF.out];rfl,HB.out⟩
theorem condV_sKind (s:StepM) (a b:Int):condV s sKind a b=(s.kind == a):=by
 unfold condV;rw[if_pos rfl]
theorem condV_sActor (s:StepM) (a b:Int):condV s sActor a b=(s.actor == a):=by
 unfold condV;rw[if_neg (by decide),if_pos rfl]
theorem condV_sRule (s:StepM) (a b:Int):condV s sRule a b=(s.rule == a || s.rule == wrap64 (-2-a)):=by
 unfold condV;rw[if_neg (by decide),if_neg (by decide),if_pos rfl]
theorem condV_sTick (s:StepM) (a b:Int):condV s sTick a b=(decide (a<=s.tick) && decide (s.tick<=b)):=by
 unfold condV;rw[if_neg (by decide),if_neg (by decide),if_neg (by decide),if_pos rfl]
theorem condV_sItem (s:StepM) (a b:Int):condV s sItem a b=(s.moves.any (fun v=>v.item == a)):=by
 unfold condV;rw[if_neg (by decide),if_neg (by decide),if_neg (by decide),if_neg (by decide),if_pos rfl]
theorem condV_sMore (s:StepM) (a b:Int):condV s sMore a b=(s.moves.any (fun v=>v.item == b && decide (a<v.n))):=by
 unfold condV;rw[if_neg (by decide),if_neg (by decide),if_neg (by decide),if_neg (by decide),if_neg (by decide),if_pos rfl]
theorem condV_sStep (s:StepM) (a b:Int):condV s sStep a b=(decide (a<=s.id) && decide (s.id<=b)):=by
 unfold condV;rw[if_neg (by decide),if_neg (by decide),if_neg (by decide),if_neg (by decide),if_neg (by decide),if_neg (by decide),if_pos rfl]
theorem condV_sAccount (s:StepM) (a b:Int):condV s sAccount a b=(s.moves.any (fun v=>v.from_ == a || v.to_ == a)):=by
 unfold condV;rw[if_neg (by decide),if_neg (by decide),if_neg (by decide),if_neg (by decide),if_neg (by decide),if_neg (by decide),if_neg (by decide),if_pos rfl]
theorem enT90:EntersF 90:=enter_of Tryz.func90 (by kernel_rfl) rfl
theorem enT92:EntersF 92:=enter_of Tryz.func92 (by kernel_rfl) rfl
theorem enT94:EntersF 94:=enter_of Tryz.func94 (by kernel_rfl) rfl
theorem enT97:EntersF 97:=enter_of Tryz.func97 (by kernel_rfl) rfl
theorem enT87:EntersF 87:=enter_of Tryz.func87 (by kernel_rfl) rfl
theorem enT104:EntersF 104:=enter_of Tryz.func104 (by kernel_rfl) rfl
def TestS (f:Nat) (cv:Array Value) (W:World) (op:ByteArray) (a b:Int) (A:Option Addr) (n c:Nat) (s:StepM):Prop :=
 Calls Tryz.prog f (#[.agg #[.string op,.int .i64 a,.int .i64 b,.slice A n c],.agg #[.int .i64 s.id,.int .i64 s.kind,.int .i64 s.actor,.int .i64 s.tick,.int .i64 s.rule,.int .i64 s.times,.slice s.sm.A s.sm.n s.sm.c]] ++ cv) W fun e w'=>e=.returned (.bool (condV s op a b))∧Below W.heap.size W w'
theorem tests_ok {bm k b1 b2 b3:Nat} {op:ByteArray} (h:isOp op=true) (a b:Int) (A:Option Addr) (n c:Nat) (s:StepM):∃d,condsM b1 b2 b3 op=some d∧EntersF d.f∧∀W,CondsAt W bm k b1 b2 b3->s.Ok W->TestS d.f (capsV d.cap) W op a b A n c s:=by
 have e1:condsM b1 b2 b3 sKind=some ⟨false,90,none,85,91⟩:=by unfold condsM updC;rw[if_neg (by decide),if_neg (by decide),if_neg (by decide),if_neg (by decide),if_neg (by decide),if_neg (by decide),if_neg (by decide),if_pos rfl]
 have e2:condsM b1 b2 b3 sActor=some ⟨false,92,none,85,93⟩:=by unfold condsM updC;rw[if_neg (by decide),if_neg (by decide),if_neg (by decide),if_neg (by decide),if_neg (by decide),if_neg (by decide),if_pos rfl]
 have e3:condsM b1 b2 b3 sRule=some ⟨false,94,none,95,96⟩:=by unfold condsM updC;rw[if_neg (by decide),if_neg (by decide),if_neg (by decide),if_neg (by decide),if_neg (by decide),if_pos rfl]
 have e4:condsM b1 b2 b3 sTick=some ⟨true,97,none,85,98⟩:=by unfold condsM updC;rw[if_neg (by decide),if_neg (by decide),if_neg (by decide),if_neg (by decide),if_pos rfl]
 have e5:condsM b1 b2 b3 sItem=some ⟨false,87,some b1,100,96⟩:=by unfold condsM updC;rw[if_neg (by decide),if_neg (by decide),if_neg (by decide),if_pos rfl]
 have e6:condsM b1 b2 b3 sMore=some ⟨true,87,some b2,102,103⟩:=by unfold condsM updC;rw[if_neg (by decide),if_neg (by decide),if_pos rfl]
 have e7:condsM b1 b2 b3 sStep=some ⟨true,104,none,85,98⟩:=by unfold condsM updC;rw[if_neg (by decide),if_pos rfl]
 have e8:condsM b1 b2 b3 sAccount=some ⟨false,87,some b3,85,93⟩:=by unfold condsM updC;rw[if_pos rfl]
 unfold isOp at h;simp only[Bool.or_eq_true,decide_eq_true_eq]at h;rcases h with ((((((rfl|rfl)|rfl)|rfl)|rfl)|rfl)|rfl)|rfl
 ·exact⟨_,e1,enT90,fun W _ _=>by unfold TestS;rw[condV_sKind];exact t_kind sKind a b A n c s W⟩
 ·exact⟨_,e2,enT92,fun W _ _=>by unfold TestS;rw[condV_sActor];exact t_actor sActor a b A n c s W⟩
 ·exact⟨_,e3,enT94,fun W _ _=>by unfold TestS;rw[condV_sRule];exact t_rule sRule a b A n c s W⟩
 ·exact⟨_,e4,enT97,fun W _ _=>by unfold TestS;rw[condV_sTick];exact t_tick sTick a b A n c s W⟩
 ·exact⟨_,e5,enT87,fun W hC hs=>by unfold TestS;rw[condV_sItem];exact some87 test99 sItem a b A n c s hC.f1 hs⟩
 ·exact⟨_,e6,enT87,fun W hC hs=>by unfold TestS;rw[condV_sMore];exact some87 test101 sMore a b A n c s hC.f2 hs⟩
 ·exact⟨_,e7,enT104,fun W _ _=>by unfold TestS;rw[condV_sStep];exact t_step sStep a b A n c s W⟩
 ·exact⟨_,e8,enT87,fun W hC hs=>by unfold TestS;rw[condV_sAccount];exact some87 test105 sAccount a b A n c s hC.f3 hs⟩
theorem condV_none (s:StepM) {op:ByteArray} (a b:Int) (h:isOp op=false):condV s op a b=false:=by
 unfold isOp at h;simp only[Bool.or_eq_false_iff,decide_eq_false_iff_not]at h;obtain⟨⟨⟨⟨⟨⟨⟨h1,h2⟩,h3⟩,h4⟩,h5⟩,h6⟩,h7⟩,h8⟩:=h;unfold condV;rw[if_neg h1,if_neg h2,if_neg h3,if_neg h4,if_neg h5,if_neg h6,if_neg h7,if_neg h8]
theorem val_core (M:MkM) (f:ByteArray->Int->Int->Bool):M.core.val f=if M.op=sAnd then !M.ks.any (fun t=>!t.core.val f) else if M.op=sOr then M.ks.any (fun t=>t.core.val f) else if M.op=sNot then !M.ks.any (fun t=>t.core.val f) else f M.op M.a M.b:=by
 obtain⟨op,a,b,ks,s⟩:=M;show(Mk.node op a b (MkM.coreL ks)).val f=_;have eo:(MkM.coreL ks).any (fun k=>k.val f)=ks.any (fun t=>t.core.val f):=by rw[coreL_map,List.any_map];rfl
 have ea:(MkM.coreL ks).all (fun k=>k.val f) = !ks.any (fun t=>!t.core.val f):=by rw[coreL_map,List.all_map,List.not_any_eq_all_not];simp[Function.comp_def]
 by_cases h1:op=sAnd
 ·subst h1;rw[if_pos rfl,<- ea];exact val_and ..
 rw[if_neg h1];by_cases h2:op=sOr
 ·subst h2;rw[if_pos rfl,<- eo];exact val_or ..
 rw[if_neg h2];by_cases h3:op=sNot
 ·subst h3;rw[if_pos rfl,<- eo];exact val_not ..
 rw[if_neg h3];exact val_alone a b _ (by simp only[not_or];exact⟨h1,h2⟩) h3 f
theorem match_any {bm n b1 b2 b3:Nat} (s:StepM):∀(M:MkM) (W:World) (P:Nat->Prop),M.Ok W 49 P->CondsAt W bm n b1 b2 b3->s.Ok W ->
 Calls Tryz.prog 60 #[.map (some bm),.agg #[.string M.op,.int .i64 M.a,.int .i64 M.b,.slice M.s.A M.s.n M.s.c],.agg #[.int .i64 s.id,.int .i64 s.kind,.int .i64 s.actor,.int .i64 s.tick,.int .i64 s.rule,.int .i64 s.times,.slice s.sm.A s.sm.n s.sm.c]] W fun e w'=>e=.returned (.bool (M.core.val (condV s)))∧Below W.heap.size W w':=by
 intro M
 induction M using MkM.ind with
 | h M ih =>
   intro W P h hC hs;have hmf:=hmfN;have en7:=enters107;have en9:=enters109;have y:Below W.heap.size W ((((W.alloc (.cells #[.map (some bm)] 121)).alloc (.cells #[.string M.op,.int .i64 M.a,.int .i64 M.b,.slice M.s.A M.s.n M.s.c] 49)).alloc (.cells #[.int .i64 s.id,.int .i64 s.kind,.int .i64 s.actor,.int .i64 s.tick,.int .i64 s.rule,.int .i64 s.times,.slice s.sm.A s.sm.n s.sm.c] 59)).alloc (.cells #[.func (.func 107) #[] #[.pointer (some ⟨W.heap.size,0,none⟩),.pointer (some ⟨W.heap.size+1+1,0,none⟩)]] 70)):=((((Below.refl _ _).alloc (Nat.le_refl _) _).alloc (by simp) _).alloc (by simp;omega) _).alloc (by simp;omega) _;have Bk3:Bk ((((W.alloc (.cells #[.map (some bm)] 121)).alloc (.cells #[.string M.op,.int .i64 M.a,.int .i64 M.b,.slice M.s.A M.s.n M.s.c] 49)).alloc (.cells #[.int .i64 s.id,.int .i64 s.kind,.int .i64 s.actor,.int .i64 s.tick,.int .i64 s.rule,.int .i64 s.times,.slice s.sm.A s.sm.n s.sm.c] 59)).alloc (.cells #[.func (.func 107) #[] #[.pointer (some ⟨W.heap.size,0,none⟩),.pointer (some ⟨W.heap.size+1+1,0,none⟩)]] 70)) W.heap.size 121 [.map (some bm)]:=(((Bk.new W 121 [.map (some bm)]).alloc _).alloc _).alloc _;have Bs:Bk ((((W.alloc (.cells #[.map (some bm)] 121)).alloc (.cells #[.string M.op,.int .i64 M.a,.int .i64 M.b,.slice M.s.A M.s.n M.s.c] 49)).alloc (.cells #[.int .i64 s.id,.int .i64 s.kind,.int .i64 s.actor,.int .i64 s.tick,.int .i64 s.rule,.int .i64 s.times,.slice s.sm.A s.sm.n s.sm.c] 59)).alloc (.cells #[.func (.func 107) #[] #[.pointer (some ⟨W.heap.size,0,none⟩),.pointer (some ⟨W.heap.size+1+1,0,none⟩)]] 70)) (W.heap.size+1+1) 59 s.cells:=by
    have:=(Bk.new ((W.alloc (.cells #[.map (some bm)] 121)).alloc (.cells #[.string M.op,.int .i64 M.a,.int .i64 M.b,.slice M.s.A M.s.n M.s.c] 49)) 59 s.cells).alloc (.cells #[.func (.func 107) #[] #[.pointer (some ⟨W.heap.size,0,none⟩),.pointer (some ⟨W.heap.size+1+1,0,none⟩)]] 70);rw[World.size_alloc,World.size_alloc]at this;exact this
   have B7:Bk ((((W.alloc (.cells #[.map (some bm)] 121)).alloc (.cells #[.string M.op,.int .i64 M.a,.int .i64 M.b,.slice M.s.A M.s.n M.s.c] 49)).alloc (.cells #[.int .i64 s.id,.int .i64 s.kind,.int .i64 s.actor,.int .i64 s.tick,.int .i64 s.rule,.int .i64 s.times,.slice s.sm.A s.sm.n s.sm.c] 59)).alloc (.cells #[.func (.func 107) #[] #[.pointer (some ⟨W.heap.size,0,none⟩),.pointer (some ⟨W.heap.size+1+1,0,none⟩)]] 70)) (W.heap.size+1+1+1) 70 [.func (.func 107) #[] #[.pointer (some ⟨W.heap.size,0,none⟩),.pointer (some ⟨W.heap.size+1+1,0,none⟩)]]:=by
    have:=Bk.new (((W.alloc (.cells #[.map (some bm)] 121)).alloc (.cells #[.string M.op,.int .i64 M.a,.int .i64 M.b,.slice M.s.A M.s.n M.s.c] 49)).alloc (.cells #[.int .i64 s.id,.int .i64 s.kind,.int .i64 s.actor,.int .i64 s.tick,.int .i64 s.rule,.int .i64 s.times,.slice s.sm.A s.sm.n s.sm.c] 59)) 70 [.func (.func 107) #[] #[.pointer (some ⟨W.heap.size,0,none⟩),.pointer (some ⟨W.heap.size+1+1,0,none⟩)]];rw[World.size_alloc,World.size_alloc,World.size_alloc]at this;exact this
   have hkid:∀t∈M.ks,∀W',Below (((((W.alloc (.cells #[.map (some bm)] 121)).alloc (.cells #[.string M.op,.int .i64 M.a,.int .i64 M.b,.slice M.s.A M.s.n M.s.c] 49)).alloc (.cells #[.int .i64 s.id,.int .i64 s.kind,.int .i64 s.actor,.int .i64 s.tick,.int .i64 s.rule,.int .i64 s.times,.slice s.sm.A s.sm.n s.sm.c] 59)).alloc (.cells #[.func (.func 107) #[] #[.pointer (some ⟨W.heap.size,0,none⟩),.pointer (some ⟨W.heap.size+1+1,0,none⟩)]] 70))).heap.size ((((W.alloc (.cells #[.map (some bm)] 121)).alloc (.cells #[.string M.op,.int .i64 M.a,.int .i64 M.b,.slice M.s.A M.s.n M.s.c] 49)).alloc (.cells #[.int .i64 s.id,.int .i64 s.kind,.int .i64 s.actor,.int .i64 s.tick,.int .i64 s.rule,.int .i64 s.times,.slice s.sm.A s.sm.n s.sm.c] 59)).alloc (.cells #[.func (.func 107) #[] #[.pointer (some ⟨W.heap.size,0,none⟩),.pointer (some ⟨W.heap.size+1+1,0,none⟩)]] 70)) W'->Calls Tryz.prog 107 (#[.agg #[.string t.op,.int .i64 t.a,.int .i64 t.b,.slice t.s.A t.s.n t.s.c]] ++ #[.pointer (some ⟨W.heap.size,0,none⟩),.pointer (some ⟨W.heap.size+1+1,0,none⟩)]) W' fun e w'=>e=.returned (.bool (t.core.val (condV s)))∧Below W'.heap.size W' w':=fun t ht W' hW' =>
    kid_any t s _ (Bk3.below hW' Bk3.lt) (Bs.below hW' Bs.lt) (iH fun W2 h2=>ih t ht W2 P ((((h.bel y).each t ht).bel hW').bel h2) (((hC.below y).below hW').below h2) (((hs.below y).below hW').below h2))
   have KO:=iH (has_mk 107 #[.pointer (some ⟨W.heap.size,0,none⟩),.pointer (some ⟨W.heap.size+1+1,0,none⟩)] enters107 (fun t=>t.core.val (condV s)) (h.bel y) (iH fun t W' ht hW'=>hkid t ht W' hW'));have KA:=iH (has_mk 109 #[.pointer (some ⟨W.heap.size+1+1+1,0,none⟩)] enters109 (fun t=>!t.core.val (condV s)) (h.bel y) (iH fun t W' ht hW'=>nkid_any t _ ((B7.below hW' B7.lt).cell 0) (B7.below hW' B7.lt).lt (iH fun W2 h2=>hkid t ht W2 (hW'.trans (h2.mono hW'.size)))));have hV:=val_core M (condV s);have q1:(M.op.toList == [97,110,100])=decide (M.op=sAnd):=by rw[<- lAnd];exact eqL _ _
   have q2:(M.op.toList == [111,114])=decide (M.op=sOr):=by rw[<- lOr];exact eqL _ _
   have q3:(M.op.toList == [110,111,116])=decide (M.op=sNot):=by rw[<- lNot];exact eqL _ _
   have Y:=iH y;have hop:=h.hop;clear hkid Bk3 Bs B7 ih;generalize M.ks.any (fun t=>t.core.val (condV s))=vo at *;generalize M.ks.any (fun t=>!t.core.val (condV s))=va at *;by_cases e1:M.op=sAnd
   ·rw[if_pos e1]at hV;rw[decide_eq_true e1]at q1;have HV:=iH hV;clear e1 q2 q3 hV KO hC hs h y;go_enter Tryz.func60,Tryz.ntmps60;go_wp2_with fail;refine KA.out.mono ?_;rintro e w1 ⟨rfl,hb⟩;have YY:=iH (Y.out.trans (hb.mono Y.out.size));clear KA hb;go_wp2;go_ret;exact⟨by rw[HV.out];rfl,YY.out⟩
   rw[if_neg e1]at hV;rw[decide_eq_false e1]at q1;by_cases e2:M.op=sOr
   ·rw[if_pos e2]at hV;rw[decide_eq_true e2]at q2;have HV:=iH hV;clear e1 e2 q3 hV KA hC hs h y;go_enter Tryz.func60,Tryz.ntmps60;go_wp2_with fail;refine KO.out.mono ?_;rintro e w1 ⟨rfl,hb⟩;have YY:=iH (Y.out.trans (hb.mono Y.out.size));clear KO hb;go_wp2;go_ret;exact⟨by rw[HV.out];rfl,YY.out⟩
   rw[if_neg e2]at hV;rw[decide_eq_false e2]at q2;by_cases e3:M.op=sNot
   ·rw[if_pos e3]at hV;rw[decide_eq_true e3]at q3;have HV:=iH hV;clear e1 e2 e3 hV KA hC hs h y;go_enter Tryz.func60,Tryz.ntmps60;go_wp2_with fail;refine KO.out.mono ?_;rintro e w1 ⟨rfl,hb⟩;have YY:=iH (Y.out.trans (hb.mono Y.out.size));clear KO hb;go_wp2;go_ret;exact⟨by rw[HV.out];rfl,YY.out⟩
   rw[if_neg e3]at hV;rw[decide_eq_false e3]at q3;have hlook:=(hC.below y).map.look_ok (s:=M.op) (by unfold maxLen;omega);have HV:=iH hV;clear e1 e2 e3 hV KA KO;cases ho:isOp M.op
   ·have hz:condsM b1 b2 b3 M.op=none:=by
     have:=condsM_is b1 b2 b3 M.op;rw[ho]at this;cases hc:condsM b1 b2 b3 M.op with
     | none=>rfl
     | some c=>rw[hc]at this;cases this
    rw[hz]at hlook;change(Instr.lookup 121 (.map (some bm)) (.string M.op) true).run Tryz.prog _=.ok (.tuple #[.agg #[.bool false,.nilFunc,.nilFunc,.nilFunc],.bool false]) _ at hlook;have HN:=iH (condV_none s M.a M.b ho);have YY:Hid (Below W.heap.size W ((((((W.alloc (.cells #[.map (some bm)] 121)).alloc (.cells #[.string M.op,.int .i64 M.a,.int .i64 M.b,.slice M.s.A M.s.n M.s.c] 49)).alloc (.cells #[.int .i64 s.id,.int .i64 s.kind,.int .i64 s.actor,.int .i64 s.tick,.int .i64 s.rule,.int .i64 s.times,.slice s.sm.A s.sm.n s.sm.c] 59)).alloc (.cells #[.func (.func 107) #[] #[.pointer (some ⟨W.heap.size,0,none⟩),.pointer (some ⟨W.heap.size+1+1,0,none⟩)]] 70))).alloc (.cells #[.bool false,.nilFunc,.nilFunc,.nilFunc] 169))):=iH (y.alloc (by simp;omega) _);clear ho hz hC hs h y;go_enter Tryz.func60,Tryz.ntmps60;go_wp2;go_ret;exact⟨by rw[HV.out,HN.out];rfl,YY.out⟩
   ·obtain⟨⟨u,f,cap,nm,rg⟩,hc,hen,htest⟩:=tests_ok (bm:=bm) (k:=n) (b1:=b1) (b2:=b2) (b3:=b3) ho M.a M.b M.s.A M.s.n M.s.c s;dsimp only at hen htest;rw[hc]at hlook;change(Instr.lookup 121 (.map (some bm)) (.string M.op) true).run Tryz.prog _=.ok (.tuple #[.agg #[.bool u,.func (.func f) #[] (capsV cap),.func (.func nm) #[] #[],.func (.func rg) #[] #[]],.bool true]) _ at hlook;generalize capsV cap=cv at *;have y2:=y.alloc (by simp;omega) (.cells #[.bool u,.func (.func f) #[] cv,.func (.func nm) #[] #[],.func (.func rg) #[] #[]] 169);have KT:Hid (TestS f cv _ M.op M.a M.b M.s.A M.s.n M.s.c s):=iH (htest _ (hC.below y2) (hs.below y2));have hen':∀(args:Array Value) (W:World),(callFunc f args).run Tryz.prog W=.ok (.enter f args) W:=hen;have YY:=iH y2;clear hc hen htest ho hC hs h y y2;go_enter Tryz.func60,Tryz.ntmps60;go_wp2_with fail;refine(show Calls _ _ _ _ _ from KT.out).mono ?_;rintro e w1 ⟨rfl,hb⟩;have Y3:=iH (YY.out.trans (hb.mono YY.out.size));clear KT hb;go_wp2;go_ret;exact⟨by rw[HV.out];rfl,Y3.out⟩
set_option linter.unusedVariables false
set_option linter.unusedSimpArgs false
structure ItsR (w : World) (A : Option Addr) (n : Nat) (l : List It) : Prop where
 row:Row w w.heap.size A (icells l)
 len:n=l.length
 small:n<=1000000
 name:∀t∈l,t.name.size<=8192
theorem ItsR.below {w w':World} {A:Option Addr} {n:Nat} {l:List It} (h:ItsR w A n l) (hb:Below w.heap.size w w'):ItsR w' A n l:=⟨(h.row.below hb).more hb.size,h.len,h.small,h.name⟩
theorem ItsR.at_ {w:World} {A:Option Addr} {n:Nat} {l:List It} (h:ItsR w A n l) (k:Nat) (hk:k<n):∃b off,A=some ⟨b,off,none⟩∧b<w.heap.size ∧
 w.cell? ⟨b,off+k*7,none⟩=some (.string (itAt l k).name)∧w.cell? ⟨b,off+k*7+1,none⟩=some (.bool (itAt l k).object)∧w.cell? ⟨b,off+k*7+2,none⟩=some (.bool (itAt l k).mixed) ∧
 w.cell? ⟨b,off+k*7+3,none⟩=some (.bool (itAt l k).coin)∧w.cell? ⟨b,off+k*7+4,none⟩=some (.int .i64 (itAt l k).wear)∧w.cell? ⟨b,off+k*7+5,none⟩=some (.int .i64 (itAt l k).bnd)∧w.cell? ⟨b,off+k*7+6,none⟩=some (.int .i64 (itAt l k).level):=by
 have hl:k<l.length:=by have:=h.len;omega
 obtain⟨b,off,hA,hb,hc⟩:=h.row.at_ 0 (by rw[icells_length];omega);have g:=fun r hr=>icells_get l k r hl hr
 refine⟨b,off,hA,hb,?_,?_,?_,?_,?_,?_,?_⟩
 ·exact hc _ _ (g 0 (by omega))
 ·rw[Nat.add_assoc];exact hc _ _ (g 1 (by omega))
 ·rw[Nat.add_assoc];exact hc _ _ (g 2 (by omega))
 ·rw[Nat.add_assoc];exact hc _ _ (g 3 (by omega))
 ·rw[Nat.add_assoc];exact hc _ _ (g 4 (by omega))
 ·rw[Nat.add_assoc];exact hc _ _ (g 5 (by omega))
 ·rw[Nat.add_assoc];exact hc _ _ (g 6 (by omega))
section
set_option linter.unusedVariables false
set_option linter.unusedSimpArgs false
section
def GOk (w:World) (g:Nat):Prop:=∃(A:Option Addr) (n c:Nat) (zs:List Int) (i:Int),Bk w g 73 [.slice A n c,.int .i64 i]∧IntsV w A n zs∧(∀b off,A=some ⟨b,off,none⟩->b<g)∧In64 i
section
variable {w w' V W W' X : World} {g : Nat}
theorem GOk.lt (h:GOk w g):g<w.heap.size:=by obtain⟨A,n,c,zs,i,h1,_⟩:=h;exact h1.lt
theorem GOk.below (h:GOk w g) (hb:Below w.heap.size w w'):GOk w' g:=by
 obtain⟨A,n,c,zs,i,h1,h2,h3,h4⟩:=h;exact⟨A,n,c,zs,i,h1.below hb h1.lt,h2.below hb,h3,h4⟩
theorem row_far {A:Option Addr} {xs:List Value} {b B:Nat} (h:Row w B A xs) (hg:w.grownBy w' (some b)) (hf:∀b' off,A=some ⟨b',off,none⟩->b'≠b) (hB:B<=w.heap.size):Row w' B A xs:=by
 rcases h with rfl|⟨b',off,rfl,hb,hc⟩
 ·exact .inl rfl
 ·exact .inr ⟨b',off,rfl,hb,fun j u hu=>(World.cell?_of_block (w:=w) (hg.block b' (by omega) (fun e=>hf b' off rfl (Option.some.inj e)))).trans (hc j u hu)⟩
theorem GOk.keep {b:Nat} (h:GOk w g) (hg:w.grownBy w' (some b)) (hb:g<b):GOk w' g:=by
 obtain⟨A,n,c,zs,i,h1,h2,h3,h4⟩:=h;exact⟨A,n,c,zs,i,h1.grown hg (by simp;omega),⟨(row_far h2.row hg (fun b' off e=>by have:=h3 b' off e;omega) (Nat.le_refl _)).more hg.size,h2.len,h2.wf⟩,h3,h4⟩
theorem GOk.row {v:Value} (h:GOk w g) (hg:w.grownBy w' v.ownBlock) (hb:∀b,v.ownBlock=some b->g<b):GOk w' g:=by
 cases hv:v.ownBlock with
 | none=>rw[hv]at hg;exact h.below ⟨hg.os,hg.tape,hg.output,hg.size,fun b hb=>hg.block b hb (by simp)⟩
 | some b=>rw[hv]at hg;exact h.keep hg (hb b hv)
theorem grown_trans {a b c:World} {row:Option Nat} (h:a.grownBy b row) (k:b.grownBy c row):a.grownBy c row :=
 ⟨k.os.trans h.os,k.tape.trans h.tape,k.output.trans h.output,Nat.le_trans h.size k.size,fun i hi hne=>(k.block i (Nat.lt_of_lt_of_le hi h.size) hne).trans (h.block i hi hne)⟩
structure GSt (V W : World) (g : Nat) : Prop where
 gr:V.grownBy W (some g)
 ok:GOk W g
 lt:g<V.heap.size
theorem GSt.refl (h:GOk V g):GSt V V g:=⟨⟨rfl,rfl,rfl,Nat.le_refl _,fun _ _ _=>rfl⟩,h,h.lt⟩
theorem GSt.trans (h:GSt V W g) (k:GSt W X g):GSt V X g:=⟨grown_trans h.gr k.gr,k.ok,h.lt⟩
theorem GSt.size (h:GSt V W g):V.heap.size<=W.heap.size:=h.gr.size
theorem GSt.below (h:GSt V W g) (hb:Below W.heap.size W W'):GSt V W' g:=⟨grown_trans h.gr (grown_of_below hb _),h.ok.below hb,h.lt⟩
theorem GSt.alloc (h:GSt V W g) (o:Obj):GSt V (W.alloc o) g:=h.below ((Below.refl _ _).alloc (Nat.le_refl _) o)
theorem GSt.grow {row:Option Nat} (h:GSt V W g) (hg:W.grownBy W' row) (hr:∀b,row=some b->V.heap.size<=b):GSt V W' g:=by
 have hlt:=h.lt;refine⟨⟨hg.os.trans h.gr.os,hg.tape.trans h.gr.tape,hg.output.trans h.gr.output,Nat.le_trans h.gr.size hg.size,fun i hi hne=>(hg.block i (Nat.lt_of_lt_of_le hi h.gr.size) (fun e=>?_)).trans (h.gr.block i hi hne)⟩,?_,hlt⟩
 ·have:=hr i e.symm;omega
 ·cases row with
  | none=>exact h.ok.below ⟨hg.os,hg.tape,hg.output,hg.size,fun b hb=>hg.block b hb (by simp)⟩
  | some b=>exact h.ok.keep hg (by have:=hr b rfl;omega)
theorem GSt.set (h:GSt V W g) (b k:Nat) (u:Value) (hb:V.heap.size<=b):GSt V (W.setCell ⟨b,k,none⟩ u) g:=h.grow (grown_setCell W b k u) (fun b' e=>by cases e;exact hb)
theorem GSt.bk (h:GSt V W g) {b:Nat} {t:TypeId} {xs:List Value} (k:Bk V b t xs) (hne:b≠g):Bk W b t xs:=k.grown h.gr (by simpa using hne)
theorem GSt.keep (h:GSt V W g) (hg:GOk V g) (t:TypeId) (ht:t≠73):Keep t V W:=by
 obtain⟨A,n,c,zs,i,h1,_⟩:=hg;refine .grown h.gr fun cur fl e=>?_
 unfold Bk at h1;rw[h1]at e;cases e;exact ht rfl
theorem GSt.own (h:GSt V W g) {base e size n:Nat} {v:Value} {xs:List Value} (k:V.ownsRow base e size v n xs) (hne:v.ownBlock≠some g):W.ownsRow base e size v n xs:=k.kept h.gr (.inr hne)
def NextG (V:World) (g:Nat) (m:Int) (e:Ending) (W:World):Prop:=∃x,e=.returned (.int .i64 x)∧0<=x∧x<m∧GSt V W g
theorem in64_wrap (x:Int):In64 (IntKind.i64.wrap x):=by rw[IntKind.wrap_i64];unfold In64;omega
theorem pick_q {A:Option Addr} {n c:Nat} {zs:List Int} (i m:Int) (h:IntsV w A n zs) (hi:In64 i) (hm:1<=m) (hm2:m<=9223372036854775807) (k:Nat) :
 Calls Tryz.prog 66 #[.slice A n c,.int .i64 i,.int .i64 m] (w.drewN k) fun e w'=>e=.returned (.int .i64 (pick zs i m))∧w'=w.drewN k :=
 (pick_any A n c zs _ i m (w.drewN k) h.row h.len h.wf hi.1 hi.2 hm hm2).mono fun _ _ ⟨a,b⟩=>⟨a,b.symm⟩
theorem next_g (m:Int) (h:GOk w g) (m0:1<=m) (m1:m<=9223372036854775807):Calls Tryz.prog 37 #[.pointer (some ⟨g,0,none⟩),.int .i64 m] w (NextG w g m):=by
 obtain⟨A,n,c,zs,i,h1,h2,h3,h4⟩:=h;have hlt:=h1.lt;have c0:=h1.k0;have c1:=h1.k1;have f1:=h1.frozen 1;obtain⟨i2,hi2⟩:∃i2,IntKind.i64.wrap (i+1)=i2:=⟨_,rfl⟩;obtain⟨i3,hi3⟩:∃i3,IntKind.i64.wrap (i2-1)=i3:=⟨_,rfl⟩;have in3:In64 i3:=by rw[<- hi3];exact in64_wrap _
 have hg:=grown_setCell w g 1 (.int .i64 i2);have hI:IntsV (w.setCell ⟨g,1,none⟩ (.int .i64 i2)) A n zs:=⟨(row_far h2.row hg (fun b' off e=>by have:=h3 b' off e;omega) (Nat.le_refl _)).more hg.size,h2.len,h2.wf⟩;have HG:Hid (GSt w (w.setCell ⟨g,1,none⟩ (.int .i64 i2)) g):=⟨hg,⟨A,n,c,zs,i2,h1.set 1 _,hI,h3,by rw[<- hi2];exact in64_wrap _⟩,hlt⟩;have HK:Hid (Bk (w.setCell ⟨g,1,none⟩ (.int .i64 i2)) g 73 [.slice A n c,.int .i64 i2]):=h1.set 1 _;have HI:=iH hI;have Hin:=iH in3;clear h1 h2 h3 h4 hg hI in3;go_enter Tryz.func37,Tryz.ntmps37;go_wp2_with fail;obtain⟨W,hW⟩:∃W,w.setCell ⟨g,1,none⟩ (.int .i64 i2)=W:=⟨_,rfl⟩;rw[hW]at HG HK HI⊢;clear hW c0 c1 f1;have d0:=HK.out.k0;have d1:=HK.out.k1;have K:=iH (fun q=>pick_q (c:=c) i3 m HI.out Hin.out m0 m1 q);have p0:=pick_lo zs i3 m m0;have p1:=pick_hi zs i3 m m0;generalize pick zs i3 m=x at *;go_quiet ((go_at_call 66;exact Calls.quiet_of_same (K.out _)));go_wp2;go_ret;exact⟨x,rfl,p0,p1,HG.out.below (bel_drewN (Below.refl _ _) _)⟩
def poolN (pool:List ByteArray) (turn n:Nat):List ByteArray:=(List.range n).map fun i=>pool[(i+turn) % pool.length]?.getD ⟨#[]⟩
theorem poolN_succ (pool:List ByteArray) (turn n:Nat):poolN pool turn (n+1)=poolN pool turn n ++ [pool[(n+turn) % pool.length]?.getD ⟨#[]⟩]:=by simp[poolN,List.range_succ]
@[simp] theorem poolN_length (pool : List ByteArray) (turn n : Nat) : (poolN pool turn n).length = n := by simp [poolN]
def SomeG (V:World) (g:Nat) (pool:List ByteArray) (most:Nat) (e:Ending) (W:World):Prop :=
 ∃v turn n,e=.returned v∧turn<pool.length∧1<=n∧n<=most∧W.ownsRow V.heap.size 9 1 v n (strs (poolN pool turn n))∧GSt V W g
theorem some_g {b:Nat} (c:Nat) {pool:List ByteArray} (most:Nat) (h:GOk w g) (hp:Bk w b 9 (strs pool)) (hb:b≠g) (h0:0<pool.length) (h1:pool.length<=1000) (m0:1<=most) (m1:most<=1000) :
 Calls Tryz.prog 33 #[.pointer (some ⟨g,0,none⟩),.slice (some ⟨b,0,none⟩) pool.length c,.int .i64 most] w (SomeG w g pool most):=by
 obtain⟨i0,hinf,hz0,hz1,hz2⟩:=info_parts info9;obtain⟨np,hnp⟩:∃np,pool.length=np:=⟨_,rfl⟩;have Hnp:=iH hnp;rw[hnp]at h0 h1⊢;have H:=iH h;have HP:=iH hp;clear h hp hnp;go_enter Tryz.func33,Tryz.ntmps33;go_wp2_with fail;(with_reducible refine(next_g (np:Int) H.out (by omega) (by omega)).mono ?_);rintro e w1 ⟨x,rfl,x0,x1,hs1⟩;obtain⟨turn,rfl⟩:=Int.eq_ofNat_of_zero_le x0;have HS1:=iH hs1;clear hs1 x0;go_wp2_with fail;(with_reducible refine(next_g (most:Int) HS1.out.ok (by omega) (by omega)).mono ?_);rintro e w2 ⟨y,rfl,y0,y1,hs2⟩;obtain⟨y,rfl⟩:=Int.eq_ofNat_of_zero_le y0;have HS2:=iH (HS1.out.trans hs2);clear hs2 HS1 y0;have HP2:=iH (HS2.out.bk HP.out hb);go_wp2_with fail;go_loopw [9,10] (fun v i wr=>∃k:Nat,k<=1+y∧i=.int .i64 k∧wr.ownsRow w.heap.size 9 1 v k (strs (poolN pool turn k))∧Bk wr b 9 (strs pool)∧GSt w wr g) (fun _ i _=>1+y-(intOf i).toNat)
 case atStart=>exact⟨0,by omega,rfl,World.ownsRow_nil _ _ _ _,HP2.out,HS2.out⟩
 case round =>
  obtain⟨k,hk,rfl,hown,hbk,hst⟩:=hrel;have HO:=iH hown;have HB:=iH hbk;have HS:=iH hst;have hsz:=hst.size;have hbl:=HP.out.lt;clear hown hbk hst;by_cases hlt:k<1+y
  ·obtain⟨j,hj⟩:∃j,(k+turn) % np=j:=⟨_,rfl⟩;have hjn:j<np:=by rw[<- hj];exact Nat.mod_lt _ h0
   have e1:((k:Int)+(turn:Int)) % (np:Int)=(j:Int):=by rw[<- hj];simp
   have HT:=iH (poolN_succ pool turn k);rw[Hnp.out,hj]at HT;have hjp:j<pool.length:=by rw[Hnp.out];exact hjn
   have c0:wr.cell? ⟨b,j,none⟩=some (.string pool[j]):=(HB.out.cell j).trans (by simp[strs,hjp]);have e2:pool[j]?.getD ⟨#[]⟩=pool[j]:=by simp[hjp]
   rw[e2]at HT;generalize pool[j]=s at *;have hbw:=HB.out.lt;clear hj hjp e2;go_wp2_with(at_builtin;refine wpList_append_own_at _ rfl _ _ 39 rfl w.heap.size 9 i0 (.string ⟨#[]⟩) 1 16 Tryz.underlying39 hinf hz0 hz1 hz2 rfl (by decide) _ k (strs (poolN pool turn k)) rfl (HO.out.alloc _) ⟨wr.heap.size,0,none⟩ 1 1 [.string s] rfl rfl (new1 _ _ _) (one1s _) (by unfold maxLen;omega) (by omega) (by simp;omega) ?_);intro v' w3 hown' hgrow _ _;have hbase:=row_base HO.out;have HB3:=iH ((HB.out.alloc (.cells #[.string s] 9)).grown hgrow (fun e=>by have:=hbase b e.symm;omega));have HS3:=iH ((HS.out.alloc (.cells #[.string s] 9)).grow hgrow hbase);have HO3:=iH hown';clear hown' hgrow;go_wp2;go_roundw
   case rel=>exact⟨k+1,by omega,by go_num,by rw[HT.out,strs_snoc];exact HO3.out,HB3.out,HS3.out⟩
   case measure=>simp[intOf];omega
  ·obtain rfl:1+y=k:=by omega
   have ht:turn<pool.length:=by rw[Hnp.out];omega
   go_wp2;go_ret;exact⟨_,turn,1+y,rfl,ht,by omega,by omega,HO.out,HS.out⟩
end
end
section
def Am (n:Nat) (l:List P2):Prop:=l.Pairwise (fun a b=>a.1<b.1)∧∀p∈l,0<=p.1∧p.1<n∧1<=p.2∧p.2<=4
theorem Am.snoc {k:Nat} {l:List P2} (h:Am k l) {x:Int} (h1:1<=x) (h2:x<=4):Am (k+1) (l ++ [((k:Int),x)]):=by
 refine⟨List.pairwise_append.2 ⟨h.1,by simp,fun a ha b hb=>?_⟩,fun p hp=>?_⟩
 ·rw[List.mem_singleton.1 hb];have:=h.2 a ha;dsimp only;omega
 ·rcases List.mem_append.1 hp with hp | hp
  ·have:=h.2 p hp;omega
  ·rw[List.mem_singleton.1 hp];dsimp only;omega
theorem Am.mono {k n:Nat} {l:List P2} (h:Am k l) (hkn:k<=n):Am n l:=⟨h.1,fun p hp=>by have:=h.2 p hp;omega⟩
theorem Am.sort {n:Nat} {l:List P2} (h:Am n l):sortB n l=true:=by
 have key : ∀ k, k <= l.length -> sortTo n l k = true := by
  intro k
  induction k with
  | zero=>intro _;rfl
  | succ k ih =>
    intro hk;have hkl:k<l.length:=by omega
    have e1:itemK l k=l[k].1:=by simp[itemK,hkl]
    have hm:=h.2 l[k] (List.getElem_mem hkl);have e2:lastAt l k<itemK l k:=by
     rw[e1];unfold lastAt;split
     ·omega
     ·have:=List.pairwise_iff_getElem.1 h.1 (k-1) k (by omega) hkl (by omega);simpa[show k-1<l.length by omega]using this
    simp only[sortTo,ih (by omega),decide_eq_true e2];rw[e1,decide_eq_true hm.2.1];rfl
 exact key _ (Nat.le_refl _)
theorem Am.units {n:Nat} {l:List P2} (h:Am n l):l.all unitP=true:=by
 rw[List.all_eq_true];intro p hp;have:=h.2 p hp;simp only[unitP,Bool.and_eq_true,decide_eq_true_eq];omega
theorem info132:(Tryz.prog.info? 132).map (fun i=>(i.zero,i.size,i.bytes))=some (some (.agg #[.int .i64 0,.int .i64 0]),2,16):=by kernel_rfl
theorem new2 (w:World) (t:TypeId) (a b:Value):∀j u,([a,b]:List Value)[j]? = some u->(w.alloc (.cells #[a,b] t)).cell? ((⟨w.heap.size,0,none⟩:Addr).add j)=some u:=by
 intro j u hj
 match j,hj with
 | 0,hj=>simp at hj;subst hj;simp[Addr.add]
 | 1,hj=>simp at hj;subst hj;simp[Addr.add]
 | j+2,hj=>simp at hj
theorem one2 (x y:Int):∀u∈([.int .i64 x,.int .i64 y]:List Value),u.oneCell'=true:=by
 intro u hu;simp only[List.mem_cons,List.not_mem_nil,or_false]at hu;rcases hu with rfl|rfl <;> rfl
def AmtsG (V:World) (g n most:Nat) (e:Ending) (W:World):Prop :=
 ∃v l,e=.returned v∧W.ownsRow V.heap.size 132 2 v l.length (pcells l)∧Am n l∧l.length<=most∧GSt V W g
theorem amounts_g {w : World} {g : Nat} (n most : Nat) (h : GOk w g) (hn : n <= 1000) (hm : most <= 1000) :
 Calls Tryz.prog 36 #[.pointer (some ⟨g,0,none⟩),.int .i64 n,.int .i64 most] w (AmtsG w g n most):=by
 obtain⟨i0,hinf,hz0,hz1,hz2⟩:=info_parts info132;have H:=iH h;clear h;go_enter Tryz.func36,Tryz.ntmps36;go_wp2_with fail;go_loopw [7,8,9] (fun v lf i wr=>∃(k:Nat) (l:List P2),k<=n∧l.length<=most∧i=.int .i64 k∧lf=.int .i64 ((most-l.length:Nat):Int)∧wr.ownsRow w.heap.size 132 2 v l.length (pcells l)∧Am k l∧GSt w wr g) (fun _ _ i _=>n-(intOf i).toNat)
 case atStart=>exact⟨0,[],by omega,by simp,rfl,by simp,World.ownsRow_nil _ _ _ _,⟨by simp,by simp⟩,GSt.refl H.out⟩
 case round =>
  obtain⟨k,l,hk,hl,rfl,rfl,hown,hA,hst⟩:=hrel;have HO:=iH hown;have HA:=iH hA;have HS:=iH hst;have hsz:=hst.size;clear hown hA hst;obtain⟨m,hm2⟩:∃m,l.length=m:=⟨_,rfl⟩;have Hm:=iH hm2;rw[hm2]at hl HO⊢;clear hm2;obtain⟨lf,hlf⟩:∃lf,most-m=lf:=⟨_,rfl⟩;have Hlf:=iH hlf;rw[hlf];have hlf2:lf<=1000:=by omega
  clear hlf;by_cases hlt:k<n
  ·by_cases hpos:0<lf
   ·have a1:decide ((0:Int)<(lf:Int))=true:=decide_eq_true (by omega);go_wp2_with fail;(with_reducible refine(next_g 3 HS.out.ok (by omega) (by omega)).mono ?_);rintro e w1 ⟨x,rfl,x0,x1,hs1⟩;have HS1:=iH (HS.out.trans hs1);have hgne:u7.ownBlock≠some g:=fun e=>by have h1:=row_base HO.out g e;have h2:=HS.out.lt;omega
    have HO1:=iH (hs1.own HO.out hgne);clear hs1;by_cases hx:x=0
    ·subst hx;go_wp2_with fail;(with_reducible refine(next_g 4 HS1.out.ok (by omega) (by omega)).mono ?_);rintro e w2 ⟨y,rfl,y0,y1,hs2⟩;have HS2:=iH (HS1.out.trans hs2);have HO2:=iH (hs2.own HO1.out hgne);have hsz2:=HS2.out.size;clear hs2;go_wp2_with(at_builtin;refine wpList_append_own_at _ rfl _ _ 78 rfl w.heap.size 132 i0 (.agg #[.int .i64 0,.int .i64 0]) 2 16 Tryz.underlying78 hinf hz0 hz1 hz2 rfl (by decide) _ m (pcells l) rfl (HO2.out.alloc _) ⟨w2.heap.size,0,none⟩ 1 1 [.int .i64 (k:Int),.int .i64 (1+y)] rfl rfl (new2 _ _ _ _) (one2 _ _) (by unfold maxLen;omega) (by omega) (by simp;omega) ?_);intro v' w3 hown' hgrow _ _;have HS3:=iH ((HS2.out.alloc (.cells #[.int .i64 (k:Int),.int .i64 (1+y)] 132)).grow hgrow (row_base HO2.out));have HO3:=iH hown';clear hown' hgrow;have e1:(lf:Int)-1=((lf-1:Nat):Int):=by omega
     go_wp2;go_roundw
     case rel =>
      refine⟨k+1,l ++ [((k:Int),1+y)],by omega,?_,by go_num,?_,?_,HA.out.snoc (by omega) (by omega),HS3.out⟩
      ·have:=Hm.out;have:=Hlf.out;simp;omega
      ·have h1:=Hm.out;have h2:=Hlf.out
       first
        | (congr 2;simp;omega)
        | (simp;omega)
      ·have h1:=Hm.out;rw[pcells_snoc,List.length_append,h1];exact HO3.out
     case measure=>simp[intOf];omega
    ·have e1:(x == 0)=false:=by simpa using hx
     go_wp2;go_roundw
     case rel=>exact⟨k+1,l,by omega,by have:=Hm.out;omega,by go_num,by rw[Hm.out,Hlf.out],by rw[Hm.out];exact HO1.out,HA.out.mono (by omega),HS1.out⟩
     case measure=>simp[intOf];omega
   ·have a1:decide ((0:Int)<(lf:Int))=false:=decide_eq_false (by omega);have a2:decide (0<lf)=false:=decide_eq_false hpos;go_wp2;go_ret;exact⟨_,l,rfl,by rw[Hm.out];exact HO.out,HA.out.mono hk,by have:=Hm.out;omega,HS.out⟩
  ·go_wp2;go_ret;exact⟨_,l,rfl,by rw[Hm.out];exact HO.out,HA.out.mono hk,by have:=Hm.out;omega,HS.out⟩
def ItemG (V:World) (g:Nat) (nm:ByteArray) (e:Ending) (W:World):Prop :=
 ∃t:It,e=.returned t.val∧t.name=nm∧itFormedB t=true∧itRangeB t=true∧GSt V W g
structure ItAt (V W : World) (g : Nat) (t : It) : Prop where
 st:GSt V W g
 res:Bk W V.heap.size 76 [.string ⟨#[]⟩,.bool false,.bool false,.bool false,.int .i64 0,.int .i64 0,.int .i64 0]
 bx:Bk W (V.heap.size+1) 76 t.cells
section
variable {V W W' : World} {g : Nat} {t t' : It}
theorem ItAt.next (h:ItAt V W g t) (k:GSt W W' g):ItAt V W' g t:=by
 have:=h.st.lt;exact⟨h.st.trans k,k.bk h.res (by omega),k.bk h.bx (by omega)⟩
theorem ItAt.set (h:ItAt V W g t) (j:Nat) (u:Value) (hu:t.cells.set j u=t'.cells):ItAt V (W.setCell ⟨V.heap.size+1,j,none⟩ u) g t' :=
 ⟨h.st.set _ _ _ (by omega),h.res.far (by simp) _,by rw[<- hu];exact h.bx.set j u⟩
end
theorem ItAt.done {V W:World} {g:Nat} {t:It} (h:ItAt V W g t) (f:itFormedB t=true) (r:itRangeB t=true) :
 ItemG V g t.name (.returned t.val) (((((((W.setCell ⟨V.heap.size,0,none⟩ (.string t.name)).setCell ⟨V.heap.size,1,none⟩ (.bool t.object)).setCell ⟨V.heap.size,2,none⟩ (.bool t.mixed)).setCell ⟨V.heap.size,3,none⟩ (.bool t.coin)).setCell ⟨V.heap.size,4,none⟩ (.int .i64 t.wear)).setCell ⟨V.heap.size,5,none⟩ (.int .i64 t.bnd)).setCell ⟨V.heap.size,6,none⟩ (.int .i64 t.level)) ∧
 (((((((W.setCell ⟨V.heap.size,0,none⟩ (.string t.name)).setCell ⟨V.heap.size,1,none⟩ (.bool t.object)).setCell ⟨V.heap.size,2,none⟩ (.bool t.mixed)).setCell ⟨V.heap.size,3,none⟩ (.bool t.coin)).setCell ⟨V.heap.size,4,none⟩ (.int .i64 t.wear)).setCell ⟨V.heap.size,5,none⟩ (.int .i64 t.bnd)).setCell ⟨V.heap.size,6,none⟩ (.int .i64 t.level)).heap[V.heap.size]? = some (.cells #[.string t.name,.bool t.object,.bool t.mixed,.bool t.coin,.int .i64 t.wear,.int .i64 t.bnd,.int .i64 t.level] 76 (0,0)):=by
 refine⟨⟨t,rfl,rfl,f,r,?_⟩,?_⟩
 ·exact((((((h.st.set _ _ _ (by omega)).set _ _ _ (by omega)).set _ _ _ (by omega)).set _ _ _ (by omega)).set _ _ _ (by omega)).set _ _ _ (by omega)).set _ _ _ (by omega)
 ·exact((((((h.res.set 0 _).set 1 _).set 2 _).set 3 _).set 4 _).set 5 _).set 6 _
theorem item_g {w:World} {g:Nat} (nm:ByteArray) (i:Nat) (h:GOk w g) (hi:i<=1000):Calls Tryz.prog 34 #[.pointer (some ⟨g,0,none⟩),.string nm,.int .i64 i] w (ItemG w g nm):=by
 have hA:ItAt w ((w.alloc (.cells #[.string ⟨#[]⟩,.bool false,.bool false,.bool false,.int .i64 0,.int .i64 0,.int .i64 0] 76)).alloc (.cells #[.string nm,.bool false,.bool false,.bool false,.int .i64 0,.int .i64 0,.int .i64 0] 76)) g ⟨nm,false,false,false,0,0,0⟩:=by
  have kx:=Bk.new (w.alloc (.cells #[.string ⟨#[]⟩,.bool false,.bool false,.bool false,.int .i64 0,.int .i64 0,.int .i64 0] 76)) 76 [.string nm,.bool false,.bool false,.bool false,.int .i64 0,.int .i64 0,.int .i64 0];rw[World.size_alloc]at kx;exact⟨((GSt.refl h).alloc _).alloc _,(Bk.new w 76 [.string ⟨#[]⟩,.bool false,.bool false,.bool false,.int .i64 0,.int .i64 0,.int .i64 0]).alloc _,kx⟩
 have HA:=iH hA;clear h hA;go_enter Tryz.func34,Tryz.ntmps34;go_wp2_with fail;(with_reducible refine(next_g 5 HA.out.st.ok (by omega) (by omega)).mono ?_);rintro e w1 ⟨x,rfl,x0,x1,hs1⟩;have HA1:=iH (HA.out.next hs1);clear hs1 HA;by_cases hx0:x=0
 ·subst hx0;have x:=HA1.out.bx.k2;have y:=HA1.out.bx.frozen 2;have z:=HA1.out.bx.lt;have HA2:=iH (HA1.out.set (t':=⟨nm,false,true,false,0,0,0⟩) 2 (.bool true) rfl);go_upto_region 11 with fail;obtain⟨W2,hW2⟩:∃W2,w1.setCell ⟨w.heap.size+1,2,none⟩ (.bool true)=W2:=⟨_,rfl⟩;rw[hW2]at HA2⊢;clear hW2 x y z HA1;have x:=HA2.out.bx.k3;have y:=HA2.out.bx.frozen 3;have z:=HA2.out.bx.lt;have HA9:=iH (HA2.out.set (t':=⟨nm,false,true,((i:Int) == 0),0,0,0⟩) 3 (.bool ((i:Int) == 0)) rfl);go_upto_region 12 with fail;obtain⟨W9,hW9⟩:∃W9,W2.setCell ⟨w.heap.size+1,3,none⟩ (.bool ((i:Int) == 0))=W9:=⟨_,rfl⟩;rw[hW9]at HA9⊢;clear hW9 x y z HA2;have x0:=HA9.out.bx.k0;have r0:=HA9.out.res.k0;have f0:=HA9.out.res.frozen 0;have x1:=HA9.out.bx.k1;have r1:=HA9.out.res.k1;have f1:=HA9.out.res.frozen 1;have x2:=HA9.out.bx.k2;have r2:=HA9.out.res.k2;have f2:=HA9.out.res.frozen 2;have x3:=HA9.out.bx.k3;have r3:=HA9.out.res.k3;have f3:=HA9.out.res.frozen 3;have x4:=HA9.out.bx.k4;have r4:=HA9.out.res.k4;have f4:=HA9.out.res.frozen 4;have x5:=HA9.out.bx.k5;have r5:=HA9.out.res.k5;have f5:=HA9.out.res.frozen 5;have x6:=HA9.out.bx.k6;have r6:=HA9.out.res.k6;have f6:=HA9.out.res.frozen 6;have hl9:=HA9.out.bx.lt;have HD:=iH (HA9.out.done (by rfl) (by rfl));generalize((i:Int) == 0)=ci at *;go_wp2;have t1:=HD.out.2;refine bodyPost_ret (v:=.agg #[.string nm,.bool false,.bool true,.bool ci,.int .i64 0,.int .i64 0,.int .i64 0]) (by simp[results,Tryz.results34,go_sem,World.cell?,t1]) rfl HD.out.1
 have e0:(x == 0)=false:=by simpa using hx0
 by_cases hx1:x=1;rotate_left
 ·have e1:(x == 1)=false:=by simpa using hx1
  go_upto_region 11 with fail;have x:=HA1.out.bx.k3;have y:=HA1.out.bx.frozen 3;have z:=HA1.out.bx.lt;have HA9:=iH (HA1.out.set (t':=⟨nm,false,false,((i:Int) == 0),0,0,0⟩) 3 (.bool ((i:Int) == 0)) rfl);go_upto_region 12 with fail;obtain⟨W9,hW9⟩:∃W9,w1.setCell ⟨w.heap.size+1,3,none⟩ (.bool ((i:Int) == 0))=W9:=⟨_,rfl⟩;rw[hW9]at HA9⊢;clear hW9 x y z HA1;have x0:=HA9.out.bx.k0;have r0:=HA9.out.res.k0;have f0:=HA9.out.res.frozen 0;have x1:=HA9.out.bx.k1;have r1:=HA9.out.res.k1;have f1:=HA9.out.res.frozen 1;have x2:=HA9.out.bx.k2;have r2:=HA9.out.res.k2;have f2:=HA9.out.res.frozen 2;have x3:=HA9.out.bx.k3;have r3:=HA9.out.res.k3;have f3:=HA9.out.res.frozen 3;have x4:=HA9.out.bx.k4;have r4:=HA9.out.res.k4;have f4:=HA9.out.res.frozen 4;have x5:=HA9.out.bx.k5;have r5:=HA9.out.res.k5;have f5:=HA9.out.res.frozen 5;have x6:=HA9.out.bx.k6;have r6:=HA9.out.res.k6;have f6:=HA9.out.res.frozen 6;have hl9:=HA9.out.bx.lt;have HD:=iH (HA9.out.done (by rfl) (by rfl));generalize((i:Int) == 0)=ci at *;go_wp2;have t1:=HD.out.2;refine bodyPost_ret (v:=.agg #[.string nm,.bool false,.bool false,.bool ci,.int .i64 0,.int .i64 0,.int .i64 0]) (by simp[results,Tryz.results34,go_sem,World.cell?,t1]) rfl HD.out.1
 subst hx1;by_cases hi0:0<i;rotate_left
 ·have e1:decide ((0:Int)<(i:Int))=false:=decide_eq_false (by omega);have e2:decide (0<i)=false:=decide_eq_false hi0;have x:=HA1.out.bx.k1;have y:=HA1.out.bx.frozen 1;have z:=HA1.out.bx.lt;have HA2:=iH (HA1.out.set (t':=⟨nm,false,false,false,0,0,0⟩) 1 (.bool false) rfl);go_upto_region 7 with fail;obtain⟨W2,hW2⟩:∃W2,w1.setCell ⟨w.heap.size+1,1,none⟩ (.bool false)=W2:=⟨_,rfl⟩;rw[hW2]at HA2⊢;clear hW2 x y z HA1;have ob:=HA2.out.bx.k1;have obl:=HA2.out.bx.lt;go_upto_region 11 with fail;clear ob obl;have x:=HA2.out.bx.k3;have y:=HA2.out.bx.frozen 3;have z:=HA2.out.bx.lt;have HA9:=iH (HA2.out.set (t':=⟨nm,false,false,((i:Int) == 0),0,0,0⟩) 3 (.bool ((i:Int) == 0)) rfl);go_upto_region 12 with fail;obtain⟨W9,hW9⟩:∃W9,W2.setCell ⟨w.heap.size+1,3,none⟩ (.bool ((i:Int) == 0))=W9:=⟨_,rfl⟩;rw[hW9]at HA9⊢;clear hW9 x y z HA2;have x0:=HA9.out.bx.k0;have r0:=HA9.out.res.k0;have f0:=HA9.out.res.frozen 0;have x1:=HA9.out.bx.k1;have r1:=HA9.out.res.k1;have f1:=HA9.out.res.frozen 1;have x2:=HA9.out.bx.k2;have r2:=HA9.out.res.k2;have f2:=HA9.out.res.frozen 2;have x3:=HA9.out.bx.k3;have r3:=HA9.out.res.k3;have f3:=HA9.out.res.frozen 3;have x4:=HA9.out.bx.k4;have r4:=HA9.out.res.k4;have f4:=HA9.out.res.frozen 4;have x5:=HA9.out.bx.k5;have r5:=HA9.out.res.k5;have f5:=HA9.out.res.frozen 5;have x6:=HA9.out.bx.k6;have r6:=HA9.out.res.k6;have f6:=HA9.out.res.frozen 6;have hl9:=HA9.out.bx.lt;have HD:=iH (HA9.out.done (by rfl) (by rfl));generalize((i:Int) == 0)=ci at *;go_wp2;have t1:=HD.out.2;refine bodyPost_ret (v:=.agg #[.string nm,.bool false,.bool false,.bool ci,.int .i64 0,.int .i64 0,.int .i64 0]) (by simp[results,Tryz.results34,go_sem,World.cell?,t1]) rfl HD.out.1
 have e1:decide ((0:Int)<(i:Int))=true:=decide_eq_true (by omega);have e2:decide (0<i)=true:=decide_eq_true hi0;have x:=HA1.out.bx.k1;have y:=HA1.out.bx.frozen 1;have z:=HA1.out.bx.lt;have HA2:=iH (HA1.out.set (t':=⟨nm,true,false,false,0,0,0⟩) 1 (.bool true) rfl);go_upto_region 7 with fail;obtain⟨W2,hW2⟩:∃W2,w1.setCell ⟨w.heap.size+1,1,none⟩ (.bool true)=W2:=⟨_,rfl⟩;rw[hW2]at HA2⊢;clear hW2 x y z HA1;have ob:=HA2.out.bx.k1;have obl:=HA2.out.bx.lt;go_wp2_with fail;clear ob obl;(with_reducible refine(next_g 9 HA2.out.st.ok (by omega) (by omega)).mono ?_);rintro e w3 ⟨a,rfl,a0,a1,hs3⟩;have HA3:=iH (HA2.out.next hs3);clear hs3 HA2;have x:=HA3.out.bx.k4;have y:=HA3.out.bx.frozen 4;have z:=HA3.out.bx.lt;have HA4:=iH (HA3.out.set (t':=⟨nm,true,false,false,1+a,0,0⟩) 4 (.int .i64 (1+a)) rfl);go_upto_region 9 with fail;obtain⟨W4,hW4⟩:∃W4,w3.setCell ⟨w.heap.size+1,4,none⟩ (.int .i64 (1+a))=W4:=⟨_,rfl⟩;rw[hW4]at HA4⊢;clear hW4 x y z HA3;go_wp2_with fail;(with_reducible refine(next_g 3 HA4.out.st.ok (by omega) (by omega)).mono ?_);rintro e w5 ⟨b,rfl,b0,b1,hs5⟩;have HA5:=iH (HA4.out.next hs5);clear hs5 HA4;have x:=HA5.out.bx.k5;have y:=HA5.out.bx.frozen 5;have z:=HA5.out.bx.lt;have HA6:=iH (HA5.out.set (t':=⟨nm,true,false,false,1+a,b,0⟩) 5 (.int .i64 b) rfl);go_upto_region 10 with fail;obtain⟨W6,hW6⟩:∃W6,w5.setCell ⟨w.heap.size+1,5,none⟩ (.int .i64 b)=W6:=⟨_,rfl⟩;rw[hW6]at HA6⊢;clear hW6 x y z HA5;go_wp2_with fail;(with_reducible refine(next_g 4 HA6.out.st.ok (by omega) (by omega)).mono ?_);rintro e w7 ⟨d,rfl,d0,d1,hs7⟩;have HA7:=iH (HA6.out.next hs7);clear hs7 HA6;have x:=HA7.out.bx.k6;have y:=HA7.out.bx.frozen 6;have z:=HA7.out.bx.lt;have HA8:=iH (HA7.out.set (t':=⟨nm,true,false,false,1+a,b,d⟩) 6 (.int .i64 d) rfl);go_upto_region 11 with fail;obtain⟨W8,hW8⟩:∃W8,w7.setCell ⟨w.heap.size+1,6,none⟩ (.int .i64 d)=W8:=⟨_,rfl⟩;rw[hW8]at HA8⊢;clear hW8 x y z HA7;have ei:((i:Int) == 0)=false:=by simp;omega
 have Hei:=iH ei;clear ei;have x:=HA8.out.bx.k3;have y:=HA8.out.bx.frozen 3;have z:=HA8.out.bx.lt;have HA9:=iH (HA8.out.set (t':=⟨nm,true,false,((i:Int) == 0),1+a,b,d⟩) 3 (.bool ((i:Int) == 0)) rfl);go_upto_region 12 with fail;obtain⟨W9,hW9⟩:∃W9,W8.setCell ⟨w.heap.size+1,3,none⟩ (.bool ((i:Int) == 0))=W9:=⟨_,rfl⟩;rw[hW9]at HA9⊢;clear hW9 x y z HA8;have x0:=HA9.out.bx.k0;have r0:=HA9.out.res.k0;have f0:=HA9.out.res.frozen 0;have x1:=HA9.out.bx.k1;have r1:=HA9.out.res.k1;have f1:=HA9.out.res.frozen 1;have x2:=HA9.out.bx.k2;have r2:=HA9.out.res.k2;have f2:=HA9.out.res.frozen 2;have x3:=HA9.out.bx.k3;have r3:=HA9.out.res.k3;have f3:=HA9.out.res.frozen 3;have x4:=HA9.out.bx.k4;have r4:=HA9.out.res.k4;have f4:=HA9.out.res.frozen 4;have x5:=HA9.out.bx.k5;have r5:=HA9.out.res.k5;have f5:=HA9.out.res.frozen 5;have x6:=HA9.out.bx.k6;have r6:=HA9.out.res.k6;have f6:=HA9.out.res.frozen 6;have hl9:=HA9.out.bx.lt;have HD:=iH (HA9.out.done (by have q1:decide (0<=b)=true:=decide_eq_true b0;have q2:decide (b<=2)=true:=decide_eq_true (by omega);simp only[itFormedB,if_true,Hei.out,q1,q2];rfl) (by have q1:decide (1<=1+a)=true:=decide_eq_true (by omega);have q2:decide (1+a<=1048576)=true:=decide_eq_true (by omega);have q3:decide (0<=d)=true:=decide_eq_true d0;have q4:decide (d<=100)=true:=decide_eq_true (by omega);simp only[itRangeB,q1,q2,q3,q4];rfl));generalize((i:Int) == 0)=ci at *;go_wp2;have t1:=HD.out.2;refine bodyPost_ret (v:=.agg #[.string nm,.bool true,.bool false,.bool ci,.int .i64 (1+a),.int .i64 b,.int .i64 d]) (by simp[results,Tryz.results34,go_sem,World.cell?,t1]) rfl HD.out.1
end
end
set_option linter.unusedVariables false
set_option linter.unusedSimpArgs false
inductive SubA : List P2 -> List P2 -> Prop where
 | nil:SubA [] []
 | skip {t b:List P2} (p:P2):SubA t b->SubA (t ++ [p]) b
 | take {t b:List P2} (x N m:Int):SubA t b->1<=m->m<=N->SubA (t ++ [(x,N)]) (b ++ [(x,m)])
theorem SubA.len {t b:List P2} (h:SubA t b):b.length<=t.length:=by
 induction h with
 | nil=>exact Nat.le_refl _
 | skip p _ ih=>simp;omega
 | take x N m _ _ _ ih=>simp;omega
theorem SubA.empty (t:List P2):SubA t []:=by
 have:∀k,k<=t.length->SubA (t.take k) []:=by
  intro k
  induction k with
  | zero=>intro _;exact .nil
  | succ k ih=>intro hk;rw[List.take_succ_eq_append_getElem (by omega)];exact .skip _ (ih (by omega))
 have h:=this t.length (Nat.le_refl _)
 rwa [List.take_length]at h
theorem Am.init {n:Nat} {l:List P2} {p:P2} (h:Am n (l ++ [p])):Am n l:=⟨(List.pairwise_append.1 h.1).1,fun q hq=>h.2 q (List.mem_append_left _ hq)⟩
theorem SubA.am {n:Nat} {t b:List P2} (h:SubA t b):Am n t->Am n b∧∀q∈b,∃p∈t,p.1=q.1∧q.2<=p.2:=by
 induction h with
 | nil=>intro h;exact⟨h,by simp⟩
 | skip p _ ih =>
   intro h;obtain⟨h1,h2⟩:=ih h.init;refine⟨h1,fun q hq=>?_⟩;obtain⟨p',hp',e⟩:=h2 q hq;exact⟨p',List.mem_append_left _ hp',e⟩
 | take x N m _ h1 h2 ih =>
   intro h;obtain⟨i1,i2⟩:=ih h.init;have hx:=h.2 (x,N) (by simp);dsimp only at hx;refine⟨⟨List.pairwise_append.2 ⟨i1.1,by simp,fun a ha c hc=>?_⟩,fun p hp=>?_⟩,fun q hq=>?_⟩
   ·rw[List.mem_singleton.1 hc];obtain⟨p',hp',e,_⟩:=i2 a ha;have:=(List.pairwise_append.1 h.1).2.2 p' hp' (x,N) (by simp);rw[<- e];exact this
   ·rcases List.mem_append.1 hp with hp | hp
    ·exact i1.2 p hp
    ·rw[List.mem_singleton.1 hp];dsimp only;omega
   ·rcases List.mem_append.1 hq with hq | hq
    ·obtain⟨p',hp',e⟩:=i2 q hq;exact⟨p',List.mem_append_left _ hp',e⟩
    ·rw[List.mem_singleton.1 hq];exact⟨(x,N),by simp,rfl,h2⟩
theorem unitsW_at {n:Nat} {l:List P2} (h:Am n l) {j:Nat} (hj:j<l.length):∀k,k<=l.length->unitsW l l[j].1 k=if j<k then l[j].2 else 0:=by
 intro k
 induction k with
 | zero=>intro _;simp[unitsW]
 | succ k ih =>
   intro hk;have hkl:k<l.length:=by omega
   have e1:itemK l k=l[k].1:=by simp[itemK,hkl]
   have e2:nK l k=l[k].2:=by simp[nK,hkl]
   have hm:=h.2 l[k] (List.getElem_mem hkl);simp only[unitsW,ih (by omega),e1,e2];rcases Nat.lt_trichotomy j k with h1|h1|h1
   ·have:=List.pairwise_iff_getElem.1 h.1 j k hj hkl h1;rw[if_neg (by omega),if_pos h1,if_pos (by omega)]
   ·subst h1;rw[if_pos rfl,if_neg (by omega),if_pos (by omega),Int.zero_add];exact IntWalk.i64_in _ (by omega)
   ·have:=List.pairwise_iff_getElem.1 h.1 k j hkl hj h1;rw[if_neg (by omega),if_neg (by omega),if_neg (by omega)]
theorem unitsW_mem {n:Nat} {l:List P2} (h:Am n l) {p:P2} (hp:p∈l):unitsW l p.1 l.length=p.2:=by
 obtain⟨j,hj,rfl⟩:=List.getElem_of_mem hp;rw[unitsW_at h hj _ (Nat.le_refl _),if_pos hj]
theorem SubA.cont {n:Nat} {t b:List P2} (h:SubA t b) (ht:Am n t):contB t b=true:=by
 obtain⟨hb,hs⟩:=h.am ht;have key:∀k,k<=b.length->contTo t b k=true:=by
  intro k
  induction k with
  | zero=>intro _;rfl
  | succ k ih =>
    intro hk;have hkl:k<b.length:=by omega
    have e1:itemK b k=b[k].1:=by simp[itemK,hkl]
    obtain⟨p,hp,e,hle⟩:=hs b[k] (List.getElem_mem hkl);have u1:=unitsW_mem hb (List.getElem_mem hkl);have u2:=unitsW_mem ht hp;rw[e]at u2;simp only[contTo,ih (by omega),Bool.true_and,e1,u1,u2,decide_eq_true_eq];exact hle
 exact key _ (Nat.le_refl _)
section
def KOk (w:World) (g:Nat):Prop:=∃(A:Option Addr) (n c:Nat) (zs:List Int) (i:Int),Bk w g 97 [.slice A n c,.int .i64 i]∧IntsV w A n zs∧(∀b off,A=some ⟨b,off,none⟩->b<g)∧In64 i
section
variable {w w' V W W' X : World} {g : Nat}
theorem KOk.lt (h:KOk w g):g<w.heap.size:=by obtain⟨A,n,c,zs,i,h1,_⟩:=h;exact h1.lt
theorem KOk.below (h:KOk w g) (hb:Below w.heap.size w w'):KOk w' g:=by
 obtain⟨A,n,c,zs,i,h1,h2,h3,h4⟩:=h;exact⟨A,n,c,zs,i,h1.below hb h1.lt,h2.below hb,h3,h4⟩
theorem KOk.keep {b:Nat} (h:KOk w g) (hg:w.grownBy w' (some b)) (hb:g<b):KOk w' g:=by
 obtain⟨A,n,c,zs,i,h1,h2,h3,h4⟩:=h;exact⟨A,n,c,zs,i,h1.grown hg (by simp;omega),⟨(row_far h2.row hg (fun b' off e=>by have:=h3 b' off e;omega) (Nat.le_refl _)).more hg.size,h2.len,h2.wf⟩,h3,h4⟩
theorem KOk.row {v:Value} (h:KOk w g) (hg:w.grownBy w' v.ownBlock) (hb:∀b,v.ownBlock=some b->g<b):KOk w' g:=by
 cases hv:v.ownBlock with
 | none=>rw[hv]at hg;exact h.below ⟨hg.os,hg.tape,hg.output,hg.size,fun b hb=>hg.block b hb (by simp)⟩
 | some b=>rw[hv]at hg;exact h.keep hg (hb b hv)
structure KSt (V W : World) (g : Nat) : Prop where
 gr:V.grownBy W (some g)
 ok:KOk W g
 lt:g<V.heap.size
theorem KSt.refl (h:KOk V g):KSt V V g:=⟨⟨rfl,rfl,rfl,Nat.le_refl _,fun _ _ _=>rfl⟩,h,h.lt⟩
theorem KSt.trans (h:KSt V W g) (k:KSt W X g):KSt V X g:=⟨grown_trans h.gr k.gr,k.ok,h.lt⟩
theorem KSt.size (h:KSt V W g):V.heap.size<=W.heap.size:=h.gr.size
theorem KSt.below (h:KSt V W g) (hb:Below W.heap.size W W'):KSt V W' g:=⟨grown_trans h.gr (grown_of_below hb _),h.ok.below hb,h.lt⟩
theorem KSt.alloc (h:KSt V W g) (o:Obj):KSt V (W.alloc o) g:=h.below ((Below.refl _ _).alloc (Nat.le_refl _) o)
theorem KSt.grow {row:Option Nat} (h:KSt V W g) (hg:W.grownBy W' row) (hr:∀b,row=some b->V.heap.size<=b):KSt V W' g:=by
 have hlt:=h.lt;refine⟨⟨hg.os.trans h.gr.os,hg.tape.trans h.gr.tape,hg.output.trans h.gr.output,Nat.le_trans h.gr.size hg.size,fun i hi hne=>(hg.block i (Nat.lt_of_lt_of_le hi h.gr.size) (fun e=>?_)).trans (h.gr.block i hi hne)⟩,?_,hlt⟩
 ·have:=hr i e.symm;omega
 ·cases row with
  | none=>exact h.ok.below ⟨hg.os,hg.tape,hg.output,hg.size,fun b hb=>hg.block b hb (by simp)⟩
  | some b=>exact h.ok.keep hg (by have:=hr b rfl;omega)
theorem KSt.set (h:KSt V W g) (b k:Nat) (u:Value) (hb:V.heap.size<=b):KSt V (W.setCell ⟨b,k,none⟩ u) g:=h.grow (grown_setCell W b k u) (fun b' e=>by cases e;exact hb)
theorem KSt.bk (h:KSt V W g) {b:Nat} {t:TypeId} {xs:List Value} (k:Bk V b t xs) (hne:b≠g):Bk W b t xs:=k.grown h.gr (by simpa using hne)
theorem KSt.keep (h:KSt V W g) (hg:KOk V g) (t:TypeId) (ht:t≠97):Keep t V W:=by
 obtain⟨A,n,c,zs,i,h1,_⟩:=hg;refine .grown h.gr fun cur fl e=>?_
 unfold Bk at h1;rw[h1]at e;cases e;exact ht rfl
theorem KSt.own (h:KSt V W g) {base e size n:Nat} {v:Value} {xs:List Value} (k:V.ownsRow base e size v n xs) (hne:v.ownBlock≠some g):W.ownsRow base e size v n xs:=k.kept h.gr (.inr hne)
def NextK (V:World) (g:Nat) (m:Int) (e:Ending) (W:World):Prop:=∃x,e=.returned (.int .i64 x)∧0<=x∧x<m∧KSt V W g
theorem next_k (m:Int) (h:KOk w g) (m0:1<=m) (m1:m<=9223372036854775807):Calls Tryz.prog 59 #[.pointer (some ⟨g,0,none⟩),.int .i64 m] w (NextK w g m):=by
 obtain⟨A,n,c,zs,i,h1,h2,h3,h4⟩:=h;have hlt:=h1.lt;have c0:=h1.k0;have c1:=h1.k1;have f1:=h1.frozen 1;obtain⟨i2,hi2⟩:∃i2,IntKind.i64.wrap (i+1)=i2:=⟨_,rfl⟩;obtain⟨i3,hi3⟩:∃i3,IntKind.i64.wrap (i2-1)=i3:=⟨_,rfl⟩;have in3:In64 i3:=by rw[<- hi3];exact in64_wrap _
 have hg:=grown_setCell w g 1 (.int .i64 i2);have hI:IntsV (w.setCell ⟨g,1,none⟩ (.int .i64 i2)) A n zs:=⟨(row_far h2.row hg (fun b' off e=>by have:=h3 b' off e;omega) (Nat.le_refl _)).more hg.size,h2.len,h2.wf⟩;have HG:Hid (KSt w (w.setCell ⟨g,1,none⟩ (.int .i64 i2)) g):=⟨hg,⟨A,n,c,zs,i2,h1.set 1 _,hI,h3,by rw[<- hi2];exact in64_wrap _⟩,hlt⟩;have HK:Hid (Bk (w.setCell ⟨g,1,none⟩ (.int .i64 i2)) g 97 [.slice A n c,.int .i64 i2]):=h1.set 1 _;have HI:=iH hI;have Hin:=iH in3;clear h1 h2 h3 h4 hg hI in3;go_enter Tryz.func59,Tryz.ntmps59;go_wp2_with fail;obtain⟨W,hW⟩:∃W,w.setCell ⟨g,1,none⟩ (.int .i64 i2)=W:=⟨_,rfl⟩;rw[hW]at HG HK HI⊢;clear hW c0 c1 f1;have d0:=HK.out.k0;have d1:=HK.out.k1;have K:=iH (fun q=>pick_q (c:=c) i3 m HI.out Hin.out m0 m1 q);have p0:=pick_lo zs i3 m m0;have p1:=pick_hi zs i3 m m0;generalize pick zs i3 m=x at *;go_quiet ((go_at_call 66;exact Calls.quiet_of_same (K.out _)));go_wp2;go_ret;exact⟨x,rfl,p0,p1,HG.out.below (bel_drewN (Below.refl _ _) _)⟩
end
end
theorem sizeL_app (l:List Mk) (k:Mk):Mk.sizeL (l ++ [k])=Mk.sizeL l+k.size:=by
 induction l with
 | nil=>simp[Mk.sizeL]
 | cons x xs ih=>simp[Mk.sizeL,ih];omega
theorem sizeL_le (l:List Mk) (j:Nat):Mk.sizeL (l.take j)<=Mk.sizeL l:=by
 induction l generalizing j with
 | nil=>simp
 | cons x xs ih =>
   cases j with
   | zero=>simp[Mk.sizeL]
   | succ j=>simp only[List.take_succ_cons,Mk.sizeL];have:=ih j;omega
theorem depthL_app (l:List Mk) (k:Mk):Mk.depthL (l ++ [k])=max (Mk.depthL l) k.depth:=by
 induction l with
 | nil=>simp[Mk.depthL]
 | cons x xs ih=>simp[Mk.depthL,ih,Nat.max_assoc]
theorem core_size (M:MkM):M.core.size=1+Mk.sizeL (M.ks.map MkM.core):=by cases M;simp[MkM.core,Mk.size,coreL_map];omega
theorem core_depth (M:MkM):M.core.depth=Mk.depthL (M.ks.map MkM.core)+1:=by cases M;simp[MkM.core,Mk.depth,coreL_map]
theorem kid_size {M t:MkM} (h:t∈M.ks):t.core.size<M.core.size:=by
 rw[core_size M];have:=Mk.size_mem (List.mem_map_of_mem (f:=MkM.core) h);omega
mutual
theorem depth_size:∀m:Mk,m.depth<=m.size
 | .node op a b ks=>by have:=depthL_size ks;simp only[Mk.depth,Mk.size];omega
theorem depthL_size:∀l:List Mk,Mk.depthL l<=Mk.sizeL l
 | []=>Nat.le_refl _
 | k :: ks=>by have:=depth_size k;have:=depthL_size ks;simp only[Mk.depthL,Mk.sizeL];omega
end
theorem size_any:∀(M:MkM) (w:World) (P:Nat->Prop),M.Ok w 35 P->M.core.size<=1000000000->Calls Tryz.prog 41 #[.agg #[.string M.op,.int .i64 M.a,.int .i64 M.b,.slice M.s.A M.s.n M.s.c]] w fun e w'=>e=.returned (.int .i64 (M.core.size:Nat))∧Below w.heap.size w w':=by
 intro M
 induction M using MkM.ind with
 | h M ih =>
   intro w P h hsm;have y:Below w.heap.size w (w.alloc (.cells #[.string M.op,.int .i64 M.a,.int .i64 M.b,.slice M.s.A M.s.n M.s.c] 35)):=(Below.refl _ _).alloc (Nat.le_refl _) _;have Hn:=iH h.len;have H:=iH h;have hs:=h.small;have HI:=iH ih;have HS:=iH hsm;have hT:=core_size M;have HKS:Hid (∀t∈M.ks,t.core.size<M.core.size):=fun t ht=>kid_size ht
   generalize M.core.size=T at *;have HT:=iH hT;obtain⟨mop,ma,mbb,l,s⟩:=M;dsimp only[MkM.ks,MkM.s,MkM.op,MkM.a,MkM.b]at *;obtain⟨A,n,c⟩:=s;dsimp only at *;have B0:=iH (Bk.new w 35 [.string mop,.int .i64 ma,.int .i64 mbb,.slice A n c]);clear h ih hT hsm;go_enter Tryz.func41,Tryz.ntmps41;go_wp2_with fail;go_loopw [3,4] (fun v i wr=>∃k x:Nat,k<=n∧i=.int .i64 k∧x=1+Mk.sizeL ((l.take k).map MkM.core)∧v=.int .i64 x∧Below w.heap.size w wr∧Bk wr w.heap.size 35 [.string mop,.int .i64 ma,.int .i64 mbb,.slice A n c]) (fun _ i _=>n-(intOf i).toNat)
   case atStart=>exact⟨0,1,Nat.zero_le _,rfl,rfl,rfl,y,B0.out⟩
   case round =>
    obtain⟨k,x,hk,rfl,hx,rfl,hb,hbx⟩:=hrel;have HB:=iH hb;have HX:=iH hbx;have hsz:=hb.size;have hxl:=hbx.lt;have b3:=hbx.k3;have hxT:x<=T:=by
     have h1:=sizeL_le (l.map MkM.core) k;rw[<- List.map_take]at h1;have h2:=HT.out;omega
    have hxb:x<=1000000000:=Nat.le_trans hxT HS.out;by_cases hlt:k<n
    ·have hkl:k<l.length:=by have:=Hn.out;omega
     obtain⟨b,off,rfl,hbb,c0,c1,c2,c3⟩:=(H.out.bel hb).at_ k hkl;dsimp only[MkM.ks,MkM.s]at c0 c1 c2 c3;have hmem:=List.getElem_mem hkl;have HX2:Hid (x+l[k].core.size=1+Mk.sizeL ((l.take (k+1)).map MkM.core)):=by
      show _=_;rw[List.take_succ_eq_append_getElem hkl,List.map_append,List.map_cons,List.map_nil,sizeL_app,hx];omega
     have hks:=HKS.out _ hmem;have HC:=iH (HI.out l[k] hmem wr P ((H.out.bel hb).each l[k] hmem) (by have:=HS.out;omega));have hzb:l[k].core.size<=1000000000:=by have:=HS.out;omega
     clear hmem hx hb hbx hks;generalize l[k]=t at *;generalize t.core.size=z at *;clear hkl;have hwz:IntKind.i64.wrap ((x:Int)+(z:Int))=((x+z:Nat):Int):=by simp[IntKind.wrap_i64];omega
     go_wp2_with fail;refine HC.out.mono ?_;rintro e w1 ⟨rfl,hb1⟩;have HB3:=iH (HB.out.trans (hb1.mono HB.out.size));have HX3:=iH (HX.out.below hb1 HX.out.lt);clear HC hb1 HB HX;generalize hxz:x+z=xz at *;go_wp2;go_roundw
     case rel=>exact⟨k+1,xz,by omega,by go_num,HX2.out,rfl,HB3.out,HX3.out⟩
     case measure=>simp[intOf];omega
    ·have hkn:k=n:=by omega
     have HF:Hid (x=T):=by
      show x=T;rw[hx,HT.out,hkn,List.take_of_length_le (by have:=Hn.out;omega)]
     clear hx hkn;go_wp2;go_ret;exact⟨by rw[HF.out];rfl,HB.out⟩
theorem depth_any:∀(M:MkM) (w:World) (P:Nat->Prop),M.Ok w 35 P->M.core.size<=1000000000->Calls Tryz.prog 57 #[.agg #[.string M.op,.int .i64 M.a,.int .i64 M.b,.slice M.s.A M.s.n M.s.c]] w fun e w'=>e=.returned (.int .i64 (M.core.depth:Nat))∧Below w.heap.size w w':=by
 intro M
 induction M using MkM.ind with
 | h M ih =>
   intro w P h hsm;have y:Below w.heap.size w (w.alloc (.cells #[.string M.op,.int .i64 M.a,.int .i64 M.b,.slice M.s.A M.s.n M.s.c] 35)):=(Below.refl _ _).alloc (Nat.le_refl _) _;have Hn:=iH h.len;have H:=iH h;have hs:=h.small;have HI:=iH ih;have HS:=iH hsm;have hT:=core_depth M;have HKS:Hid (∀t∈M.ks,t.core.size<M.core.size):=fun t ht=>kid_size ht
   have hdT:=depth_size M.core;generalize M.core.depth=T at *;have HT:=iH hT;generalize M.core.size=T2 at *;obtain⟨mop,ma,mbb,l,s⟩:=M;dsimp only[MkM.ks,MkM.s,MkM.op,MkM.a,MkM.b]at *;obtain⟨A,n,c⟩:=s;dsimp only at *;have B0:=iH (Bk.new w 35 [.string mop,.int .i64 ma,.int .i64 mbb,.slice A n c]);clear h ih hT hsm;go_enter Tryz.func57,Tryz.ntmps57;go_wp2_with fail;go_loopw [3,4] (fun v i wr=>∃k x:Nat,k<=n∧i=.int .i64 k∧x=Mk.depthL ((l.take k).map MkM.core)∧x<=1000000000∧v=.int .i64 x∧Below w.heap.size w wr∧Bk wr w.heap.size 35 [.string mop,.int .i64 ma,.int .i64 mbb,.slice A n c]) (fun _ i _=>n-(intOf i).toNat)
   case atStart=>exact⟨0,0,Nat.zero_le _,rfl,rfl,by decide,rfl,y,B0.out⟩
   case round =>
    obtain⟨k,x,hk,rfl,hx,hxb,rfl,hb,hbx⟩:=hrel;have HB:=iH hb;have HX:=iH hbx;have hsz:=hb.size;have hxl:=hbx.lt;have b3:=hbx.k3;by_cases hlt:k<n
    ·have hkl:k<l.length:=by have:=Hn.out;omega
     obtain⟨b,off,rfl,hbb,c0,c1,c2,c3⟩:=(H.out.bel hb).at_ k hkl;dsimp only[MkM.ks,MkM.s]at c0 c1 c2 c3;have hmem:=List.getElem_mem hkl;have HX2:Hid (max x l[k].core.depth=Mk.depthL ((l.take (k+1)).map MkM.core)):=by
      show _=_;rw[List.take_succ_eq_append_getElem hkl,List.map_append,List.map_cons,List.map_nil,depthL_app,hx]
     have hks:=HKS.out _ hmem;have HC:=iH (HI.out l[k] hmem wr P ((H.out.bel hb).each l[k] hmem) (by have:=HS.out;omega));have hzb:l[k].core.depth<=1000000000:=by have:=HS.out;have:=depth_size l[k].core;omega
     clear hmem hx hb hbx hks;generalize l[k]=t at *;generalize t.core.depth=z at *;clear hkl;go_wp2_with fail;refine HC.out.mono ?_;rintro e w1 ⟨rfl,hb1⟩;have HB3:=iH (HB.out.trans (hb1.mono HB.out.size));have HX3:=iH (HX.out.below hb1 HX.out.lt);clear HC hb1 HB HX;go_wp2;go_roundw
     case rel=>exact⟨k+1,max x z,by omega,by go_num,HX2.out,by omega,by go_num,HB3.out,HX3.out⟩
     case measure=>simp[intOf];omega
    ·have hkn:k=n:=by omega
     have HF:Hid (T=x+1):=by
      show T=_;rw[hx,HT.out,hkn,List.take_of_length_le (by have:=Hn.out;omega)]
     have hw1:IntKind.i64.wrap ((x:Int)+1)=((x+1:Nat):Int):=by simp[IntKind.wrap_i64];omega
     clear hx hkn;go_wp2;go_ret;exact⟨by rw[HF.out];go_num,HB.out⟩
section
section
variable {P : Program} {ops : Array Oper} {Q : Exit -> Act -> World -> Prop} {md : Region.Mode} {S : World -> Prop} {T : Nat}
theorem wpAnyX_firstU {i:Nat} {oi:Oper} {v:Value} (hi:ops[i]? = some oi) (hsel:∀(j:Nat) (o:Oper) cs b,ops[j]? = some o->o.op≠.select cs b)
 (hT:ops[T]? = none) (hQ:∀c a w,Q (.panic c) (a.put oi.dst v) w->Q (.panic c) a w) :
 ∀(fuel:Nat) (listed:Array Bool) (a:Act) (w:World),
  (∀j oj,ops[j]? = some oj->j≠i->listed.getD j true=false->(∀e∈oj.after,Region.binds md e=true->e.on≠i)->oi.apart ops oj=true) ->
  i∈Region.ready md ops listed->YieldsIf P ops S oi v a->S w ->
  wpAnyX P md ops Q S T fuel (listed.setIfInBounds i true) (a.put oi.dst v) w->wpAnyX P md ops Q S T (fuel+1) listed a w:=by
 intro fuel
 induction fuel with
 | zero =>
   intro listed a w _ hr hy hS H;refine .inr ⟨fun h=>(by rw[h]at hr;cases hr),fun j hj=>?_⟩;by_cases hji:j=i
   ·subst hji;exact hy.wpOp hi hS ⟨hS,H⟩
   ·have:=ready_mono hj hji;rw[H.1]at this;cases this
 | succ fuel ih =>
   intro listed a w hfree hr hy hS H;refine .inr ⟨fun h=>(by rw[h]at hr;cases hr),fun j hj=>?_⟩;by_cases hji:j=i
   ·subst hji;exact hy.wpOp hi hS ⟨hS,H⟩
   ·obtain⟨hjun,oj,hoj,hall⟩:=mem_ready.1 hj;have hnot:∀e∈oj.after,Region.binds md e=true->e.on≠i:=fun e he hb heq=>by
     have h1:=hall e he hb;have h0:=(mem_ready.1 hr).1;rw[heq]at h1;rcases Nat.lt_or_ge i listed.size with h'|h'
     ·simp[h']at h0 h1;rw[h0]at h1;cases h1
     ·simp[Array.getElem?_eq_none h']at h1
    rcases H with H|H
    ·have h1:=ready_mono hj hji;rw[H.1]at h1;obtain rfl:j=T:=by simpa using h1
     rw[hT]at hoj;cases hoj
    ·have h1:=H.2 j (ready_mono hj hji);have h2:=wpOp_putIf hoj (hfree j oj hoj hji hjun hnot) (fun cs b=>hsel i oi cs b hi) (fun cs b=>hsel j oj cs b hoj) hQ hy h1;have hfree':∀k ok,ops[k]? = some ok->k≠i->(listed.setIfInBounds j true).getD k true=false ->
      (∀e∈ok.after,Region.binds md e=true->e.on≠i)->oi.apart ops ok=true:=fun k ok hk hki hun hno=>by
      refine hfree k ok hk hki ?_ hno;by_cases hjk:j=k
      ·subst hjk;exact hjun
      ·rw[getD_set_ne true hjk]at hun;exact hun
     refine wpOp_mono (fun a' w' h3=>⟨h3.2.1,ih (listed.setIfInBounds j true) a' w' hfree' (ready_mono hr (Ne.symm hji)) h3.1 h3.2.1 ?_⟩) h2;rw[Array.setIfInBounds_comm _ _ hji];exact h3.2.2
theorem X_takeU (i:Nat) (d:Option Tmp) {oi:Oper} {v:Value} {fuel:Nat} {listed listed':Array Bool} {a:Act} {w:World} (hi:ops[i]? = some oi) (hd:oi.dst=d) (hl:listed.setIfInBounds i true=listed')
 (hB:(Region.noSelect ops && Region.free md ops listed i && (Region.ready md ops listed).contains i)=true) (hT:ops[T]? = none)
 (hQ:∀c a w,Q (.panic c) (a.put oi.dst v) w->Q (.panic c) a w) (hy:Region.wanted oi (yielded ops a.tmps)=true∧∀w,S w->(execOp a.eval oi).run P w=.ok (.value v) w) (hS:S w)
 (h:wpAnyX P md ops Q S T fuel listed' (a.put d v) w):wpAnyX P md ops Q S T (fuel+1) listed a w:=by
 simp only[Bool.and_eq_true]at hB;subst hd hl;exact wpAnyX_firstU hi (Region.noSelect_spec hB.1.1) hT hQ fuel listed a w (Region.free_spec hi hB.1.2) (by simpa using hB.2) (.inl hy) hS h
theorem tU (i:Nat)(d:Option Tmp){oi:Oper}{v:Value}{fuel:Nat}{listed:Array Bool}{a:Act}{w:World}(hi:ops[i]?=some oi)
 (hy:Region.wanted oi (yielded ops a.tmps)=true∧∀w,S w→(execOp a.eval oi).run P w=.ok (.value v) w)(hS:S w)
 (h:wpAnyX P md ops Q S T fuel (listed.setIfInBounds i true) (a.put d v) w)(hd:oi.dst=d:=by rfl)(hT:ops[T]?=none:=by rfl)(hQ:∀c a w,Q (.panic c) (a.put oi.dst v) w→Q (.panic c) a w:=by exact fun _ _ _ h=>h)(hB:(Region.noSelect ops&&Region.free md ops listed i&&(Region.ready md ops listed).contains i)=true:=by kernel_rfl):wpAnyX P md ops Q S T (fuel+1) listed a w:=X_takeU i d hi hd rfl hB hT hQ hy hS h
theorem X_done {listed:Array Bool} {a:Act} {w:World} (hr:Region.ready md ops listed=[]) (h:Q .normal a w):wpAnyX P md ops Q S T 0 listed a w:=⟨hr,h⟩
end
end
theorem In64.le {x:Int} (h:In64 x) : -9223372036854775808<=x∧x<=9223372036854775807:=h
end Go.Proofs.YtocodlpgaamblaaGreatDoor
