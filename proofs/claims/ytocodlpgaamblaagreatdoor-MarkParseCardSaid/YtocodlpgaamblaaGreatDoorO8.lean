/- Valid: the error of a mark. -/
import Derived.Test.YtocodlpgaamblaaGreatDoorO7
set_option linter.unusedVariables false
set_option linter.unusedSimpArgs false
set_option maxRecDepth 100000
set_option maxHeartbeats 2000000
open Go.RowKit
namespace Go.Proofs.YtocodlpgaamblaaGreatDoor
theorem lAnd:sAnd.toList=[97,110,100]:=by decide +kernel
theorem lOr:sOr.toList=[111,114]:=by decide +kernel
theorem lNot:sNot.toList=[110,111,116]:=by decide +kernel
theorem alone_any {w:World} {bm k b1 b2 b3:Nat} (hm:MapC w bm k (condsM b1 b2 b3)) (op:ByteArray) (a b:Int) (A:Option Addr) (n c:Nat) (si sr st sx:Sl) (hop:op.size<=8192) (hn:n<=100000) :
 Calls Tryz.prog 84 #[.map (some bm),.agg #[.slice si.A si.n si.c,.slice sr.A sr.n sr.c,.slice st.A st.n st.c,.slice sx.A sx.n sx.c],.agg #[.string op,.int .i64 a,.int .i64 b,.slice A n c]] w fun e w'=>e=.returned (.int .i64 (aloneE si.n sr.n op a b n))∧Below w.heap.size w w':=by
 have y:Below w.heap.size w ((w.alloc (.cells #[.slice si.A si.n si.c,.slice sr.A sr.n sr.c,.slice st.A st.n st.c,.slice sx.A sx.n sx.c] 28)).alloc (.cells #[.string op,.int .i64 a,.int .i64 b,.slice A n c] 49)):=((Below.refl _ _).alloc (Nat.le_refl _) _).alloc (by simp) _;have Y:=iH y;have q1:(op.toList == [97,110,100])=decide (op=sAnd):=by rw[<- lAnd];exact eqL _ _
 have q2:(op.toList == [111,114])=decide (op=sOr):=by rw[<- lOr];exact eqL _ _
 have q3:(op.toList == [110,111,116])=decide (op=sNot):=by rw[<- lNot];exact eqL _ _
 by_cases e1:op=sAnd
 ·have al1:n<2∨a≠0∨b≠0->aloneE si.n sr.n op a b n=1:=fun h=>by unfold aloneE;rw[if_pos (.inl e1),if_pos h]
  have al0:¬ n<2->a=0->b=0->aloneE si.n sr.n op a b n=0:=fun h ha hb=>by unfold aloneE;rw[if_pos (.inl e1),if_neg (by simp[h,ha,hb])]
  rw[decide_eq_true e1]at q1;clear e1 q2 q3 hm y;by_cases hk:(n:Int)<2
  ·have HQ:Hid (aloneE si.n sr.n op a b n=1):=iH (al1 (.inl (by omega)));clear al0 al1;go_enter Tryz.func84,Tryz.ntmps84;go_wp2;go_ret;exact⟨by rw[HQ.out];rfl,Y.out⟩
  by_cases ha:a=0
  ·subst ha;by_cases hb:b=0
   ·subst hb;have HQ:Hid (aloneE si.n sr.n op 0 0 n=0):=iH (al0 (by omega) rfl rfl);clear al0 al1;go_enter Tryz.func84,Tryz.ntmps84;go_wp2;go_ret;exact⟨by rw[HQ.out];rfl,Y.out⟩
   ·have HQ:Hid (aloneE si.n sr.n op 0 b n=1):=iH (al1 (.inr (.inr hb)));clear al0 al1;go_enter Tryz.func84,Tryz.ntmps84;go_wp2;go_ret;exact⟨by rw[HQ.out];rfl,Y.out⟩
  ·have HQ:Hid (aloneE si.n sr.n op a b n=1):=iH (al1 (.inr (.inl ha)));clear al0 al1;go_enter Tryz.func84,Tryz.ntmps84;go_wp2;go_ret;exact⟨by rw[HQ.out];rfl,Y.out⟩
 rw[decide_eq_false e1]at q1;by_cases e2:op=sOr
 ·have al1:n<2∨a≠0∨b≠0->aloneE si.n sr.n op a b n=1:=fun h=>by unfold aloneE;rw[if_pos (.inr e2),if_pos h]
  have al0:¬ n<2->a=0->b=0->aloneE si.n sr.n op a b n=0:=fun h ha hb=>by unfold aloneE;rw[if_pos (.inr e2),if_neg (by simp[h,ha,hb])]
  rw[decide_eq_true e2]at q2;clear e1 e2 q3 hm y;by_cases hk:(n:Int)<2
  ·have HQ:Hid (aloneE si.n sr.n op a b n=1):=iH (al1 (.inl (by omega)));clear al0 al1;go_enter Tryz.func84,Tryz.ntmps84;go_wp2;go_ret;exact⟨by rw[HQ.out];rfl,Y.out⟩
  by_cases ha:a=0
  ·subst ha;by_cases hb:b=0
   ·subst hb;have HQ:Hid (aloneE si.n sr.n op 0 0 n=0):=iH (al0 (by omega) rfl rfl);clear al0 al1;go_enter Tryz.func84,Tryz.ntmps84;go_wp2;go_ret;exact⟨by rw[HQ.out];rfl,Y.out⟩
   ·have HQ:Hid (aloneE si.n sr.n op 0 b n=1):=iH (al1 (.inr (.inr hb)));clear al0 al1;go_enter Tryz.func84,Tryz.ntmps84;go_wp2;go_ret;exact⟨by rw[HQ.out];rfl,Y.out⟩
  ·have HQ:Hid (aloneE si.n sr.n op a b n=1):=iH (al1 (.inr (.inl ha)));clear al0 al1;go_enter Tryz.func84,Tryz.ntmps84;go_wp2;go_ret;exact⟨by rw[HQ.out];rfl,Y.out⟩
 rw[decide_eq_false e2]at q2;by_cases e3:op=sNot
 ·have al1:n≠1∨a≠0∨b≠0->aloneE si.n sr.n op a b n=1:=fun h=>by unfold aloneE;rw[if_neg (by simp[e1,e2]),if_pos e3,if_pos h]
  have al0:n=1->a=0->b=0->aloneE si.n sr.n op a b n=0:=fun h ha hb=>by unfold aloneE;rw[if_neg (by simp[e1,e2]),if_pos e3,if_neg (by simp[h,ha,hb])]
  rw[decide_eq_true e3]at q3;clear e1 e2 e3 hm y;by_cases hk:n=1
  ·subst hk;by_cases ha:a=0
   ·subst ha;by_cases hb:b=0
    ·subst hb;have HQ:Hid (aloneE si.n sr.n op 0 0 1=0):=iH (al0 (by rfl) rfl rfl);clear al0 al1;go_enter Tryz.func84,Tryz.ntmps84;go_wp2;go_ret;exact⟨by rw[HQ.out];rfl,Y.out⟩
    ·have HQ:Hid (aloneE si.n sr.n op 0 b 1=1):=iH (al1 (.inr (.inr hb)));clear al0 al1;go_enter Tryz.func84,Tryz.ntmps84;go_wp2;go_ret;exact⟨by rw[HQ.out];rfl,Y.out⟩
   ·have HQ:Hid (aloneE si.n sr.n op a b 1=1):=iH (al1 (.inr (.inl ha)));clear al0 al1;go_enter Tryz.func84,Tryz.ntmps84;go_wp2;go_ret;exact⟨by rw[HQ.out];rfl,Y.out⟩
  have HQ:Hid (aloneE si.n sr.n op a b n=1):=iH (al1 (.inl hk));have hk':¬ (n:Int)=1:=by omega
  clear al0 al1 hk;go_enter Tryz.func84,Tryz.ntmps84;go_wp2;go_ret;exact⟨by rw[HQ.out];rfl,Y.out⟩
 rw[decide_eq_false e3]at q3;have hlook:=(hm.below y).look_ok (s:=op) (by unfold maxLen;omega);have al:aloneE si.n sr.n op a b n=if isOp op=false∨0<n∨(b≠0∧usesB op=false) then 1 else if namesOk op si.n sr.n a b=false then 6 else if rangeK op a b=false then 5 else 0:=by
  unfold aloneE;rw[if_neg (by simp[e1,e2]),if_neg e3]
 clear e1 e2 e3 hm y;cases ho:isOp op
 ·have hz:condsM b1 b2 b3 op=none:=by
   have:=condsM_is b1 b2 b3 op;rw[ho]at this;cases hc:condsM b1 b2 b3 op with
   | none=>rfl
   | some c=>rw[hc]at this;cases this
  rw[hz]at hlook;change(Instr.lookup 121 (.map (some bm)) (.string op) true).run Tryz.prog _=.ok (.tuple #[.agg #[.bool false,.nilFunc,.nilFunc,.nilFunc],.bool false]) _ at hlook;rw[if_pos (.inl ho)]at al;have HQ:=iH al;clear al ho hz;have y2:Below w.heap.size w (((w.alloc (.cells #[.slice si.A si.n si.c,.slice sr.A sr.n sr.c,.slice st.A st.n st.c,.slice sx.A sx.n sx.c] 28)).alloc (.cells #[.string op,.int .i64 a,.int .i64 b,.slice A n c] 49)).alloc (.cells #[.bool false,.nilFunc,.nilFunc,.nilFunc] 169)):=Y.out.alloc (by simp;omega) _;have Y:=iH y2;clear y2;go_enter Tryz.func84,Tryz.ntmps84;go_wp2;go_ret;exact⟨by rw[HQ.out];rfl,Y.out⟩
 ·obtain⟨⟨u,f,cap,nm,rg⟩,hc,hu,hnm,hen,hrg,her⟩:=conds_ok b1 b2 b3 ho;dsimp only at hu hnm hen hrg her;rw[hc]at hlook;change(Instr.lookup 121 (.map (some bm)) (.string op) true).run Tryz.prog _=.ok (.tuple #[.agg #[.bool u,.func (.func f) #[] (capsV cap),.func (.func nm) #[] #[],.func (.func rg) #[] #[]],.bool true]) _ at hlook;generalize capsV cap=cv at *;have y2:Below w.heap.size w (((w.alloc (.cells #[.slice si.A si.n si.c,.slice sr.A sr.n sr.c,.slice st.A st.n st.c,.slice sx.A sx.n sx.c] 28)).alloc (.cells #[.string op,.int .i64 a,.int .i64 b,.slice A n c] 49)).alloc (.cells #[.bool u,.func (.func f) #[] cv,.func (.func nm) #[] #[],.func (.func rg) #[] #[]] 169)):=Y.out.alloc (by simp;omega) _;have Y:=iH y2;rw[<- hu]at al;have hen':∀(args:Array Value) (W:World),(callFunc nm args).run Tryz.prog W=.ok (.enter nm args) W:=hen;have her':∀(args:Array Value) (W:World),(callFunc rg args).run Tryz.prog W=.ok (.enter rg args) W:=her;have HNM:=iH (hnm op a b A n c si sr st sx (((w.alloc (.cells #[.slice si.A si.n si.c,.slice sr.A sr.n sr.c,.slice st.A st.n st.c,.slice sx.A sx.n sx.c] 28)).alloc (.cells #[.string op,.int .i64 a,.int .i64 b,.slice A n c] 49)).alloc (.cells #[.bool u,.func (.func f) #[] cv,.func (.func nm) #[] #[],.func (.func rg) #[] #[]] 169)));have HRG:=iH (fun W=>hrg op a b A n c W);have hno:¬ isOp op=false:=by rw[ho];simp
  have HAL:=iH al;have BK:Hid (Bk (((w.alloc (.cells #[.slice si.A si.n si.c,.slice sr.A sr.n sr.c,.slice st.A st.n st.c,.slice sx.A sx.n sx.c] 28)).alloc (.cells #[.string op,.int .i64 a,.int .i64 b,.slice A n c] 49)).alloc (.cells #[.bool u,.func (.func f) #[] cv,.func (.func nm) #[] #[],.func (.func rg) #[] #[]] 169)) (w.heap.size+1) 49 [.string op,.int .i64 a,.int .i64 b,.slice A n c]):=by
   have:=(Bk.new (w.alloc (.cells #[.slice si.A si.n si.c,.slice sr.A sr.n sr.c,.slice st.A st.n st.c,.slice sx.A sx.n sx.c] 28)) 49 [.string op,.int .i64 a,.int .i64 b,.slice A n c]).alloc (.cells #[.bool u,.func (.func f) #[] cv,.func (.func nm) #[] #[],.func (.func rg) #[] #[]] 169);rw[World.size_alloc]at this;exact iH this
  have BB:Hid (Bk (((w.alloc (.cells #[.slice si.A si.n si.c,.slice sr.A sr.n sr.c,.slice st.A st.n st.c,.slice sx.A sx.n sx.c] 28)).alloc (.cells #[.string op,.int .i64 a,.int .i64 b,.slice A n c] 49)).alloc (.cells #[.bool u,.func (.func f) #[] cv,.func (.func nm) #[] #[],.func (.func rg) #[] #[]] 169)) (w.heap.size+1+1) 169 [.bool u,.func (.func f) #[] cv,.func (.func nm) #[] #[],.func (.func rg) #[] #[]]):=by
   have:=Bk.new ((w.alloc (.cells #[.slice si.A si.n si.c,.slice sr.A sr.n sr.c,.slice st.A st.n st.c,.slice sx.A sx.n sx.c] 28)).alloc (.cells #[.string op,.int .i64 a,.int .i64 b,.slice A n c] 49)) 169 [.bool u,.func (.func f) #[] cv,.func (.func nm) #[] #[],.func (.func rg) #[] #[]];rw[World.size_alloc,World.size_alloc]at this;exact iH this
  clear hc hu hnm hen hrg her y2 al;by_cases hk:0<(n:Int)
  ·have HQ:Hid (aloneE si.n sr.n op a b n=1):=by show _=_;rw[HAL.out,if_pos (.inr (.inl (by omega)))]
   clear HAL HNM HRG hno ho;go_enter Tryz.func84,Tryz.ntmps84;go_wp2;go_ret;exact⟨by rw[HQ.out];rfl,Y.out⟩
  obtain rfl:n=0:=by omega
  clear hk;by_cases hb:b=0
  ·subst hb;have HQ:Hid (aloneE si.n sr.n op a 0 0=if namesOk op si.n sr.n a 0=false then 6 else if rangeK op a 0=false then 5 else 0):=by show _=_;rw[HAL.out,if_neg (by simp[ho])]
   clear HAL hno ho;go_enter Tryz.func84,Tryz.ntmps84;go_wp2_with fail;refine HNM.out.mono ?_;rintro e w1 ⟨rfl,hb1⟩;have YB:=iH (Y.out.trans (hb1.mono Y.out.size));have B8:=BB.out.below hb1 BB.out.lt;have B5:=BK.out.below hb1 BK.out.lt;have HR1:=iH (HRG.out w1);have f3:=B8.k3;have l8:=B8.lt;have⟨c0,c1,c2,c3,l5⟩:=B5.p4;clear HNM hb1 B8 B5 HRG BB BK;cases hnq:namesOk op si.n sr.n a 0
   ·have HQ2:Hid (aloneE si.n sr.n op a 0 0=6):=by show _=_;rw[HQ.out,if_pos hnq]
    clear HQ hnq;go_wp2;go_ret;exact⟨by rw[HQ2.out];rfl,YB.out⟩
   ·have HQ2:Hid (aloneE si.n sr.n op a 0 0=if rangeK op a 0=false then 5 else 0):=by show _=_;rw[HQ.out,if_neg (by simp[hnq])]
    clear HQ hnq;go_wp2_with fail;refine HR1.out.mono ?_;rintro e w2 ⟨rfl,hb2⟩;have YC:=iH (YB.out.trans (hb2.mono YB.out.size));clear HR1 hb2 YB;cases hrq:rangeK op a 0
    ·have HQ3:Hid (aloneE si.n sr.n op a 0 0=5):=by show _=_;rw[HQ2.out,if_pos hrq]
     clear HQ2 hrq;go_wp2;go_ret;exact⟨by rw[HQ3.out];rfl,YC.out⟩
    ·have HQ3:Hid (aloneE si.n sr.n op a 0 0=0):=by show _=_;rw[HQ2.out,if_neg (by simp[hrq])]
     clear HQ2 hrq;go_wp2;go_ret;exact⟨by rw[HQ3.out];rfl,YC.out⟩
  ·cases u
   ·have HQ:Hid (aloneE si.n sr.n op a b 0=1):=by show _=_;rw[HAL.out,if_pos (.inr (.inr ⟨hb,rfl⟩))]
    clear HAL HNM HRG hno ho;go_enter Tryz.func84,Tryz.ntmps84;go_wp2;go_ret;exact⟨by rw[HQ.out];rfl,Y.out⟩
   ·have HQ:Hid (aloneE si.n sr.n op a b 0=if namesOk op si.n sr.n a b=false then 6 else if rangeK op a b=false then 5 else 0):=by show _=_;rw[HAL.out,if_neg (by simp[ho])]
    clear HAL hno ho;go_enter Tryz.func84,Tryz.ntmps84;go_wp2_with fail;refine HNM.out.mono ?_;rintro e w1 ⟨rfl,hb1⟩;have YB:=iH (Y.out.trans (hb1.mono Y.out.size));have B8:=BB.out.below hb1 BB.out.lt;have B5:=BK.out.below hb1 BK.out.lt;have HR1:=iH (HRG.out w1);have f3:=B8.k3;have l8:=B8.lt;have⟨c0,c1,c2,c3,l5⟩:=B5.p4;clear HNM hb1 B8 B5 HRG BB BK;cases hnq:namesOk op si.n sr.n a b
    ·have HQ2:Hid (aloneE si.n sr.n op a b 0=6):=by show _=_;rw[HQ.out,if_pos hnq]
     clear HQ hnq;go_wp2;go_ret;exact⟨by rw[HQ2.out];rfl,YB.out⟩
    ·have HQ2:Hid (aloneE si.n sr.n op a b 0=if rangeK op a b=false then 5 else 0):=by show _=_;rw[HQ.out,if_neg (by simp[hnq])]
     clear HQ hnq;go_wp2_with fail;refine HR1.out.mono ?_;rintro e w2 ⟨rfl,hb2⟩;have YC:=iH (YB.out.trans (hb2.mono YB.out.size));clear HR1 hb2 YB;cases hrq:rangeK op a b
     ·have HQ3:Hid (aloneE si.n sr.n op a b 0=5):=by show _=_;rw[HQ2.out,if_pos hrq]
      clear HQ2 hrq;go_wp2;go_ret;exact⟨by rw[HQ3.out];rfl,YC.out⟩
     ·have HQ3:Hid (aloneE si.n sr.n op a b 0=0):=by show _=_;rw[HQ2.out,if_neg (by simp[hrq])]
      clear HQ2 hrq;go_wp2;go_ret;exact⟨by rw[HQ3.out];rfl,YC.out⟩
theorem check_any {bm kk b1 b2 b3:Nat} (si sr st sx:Sl):∀(M:MkM) (w:World) (P:Nat->Prop),M.Ok w 49 P->MapC w bm kk (condsM b1 b2 b3) ->
 Calls Tryz.prog 55 #[.map (some bm),.agg #[.slice si.A si.n si.c,.slice sr.A sr.n sr.c,.slice st.A st.n st.c,.slice sx.A sx.n sx.c],.agg #[.string M.op,.int .i64 M.a,.int .i64 M.b,.slice M.s.A M.s.n M.s.c]] w fun e w'=>e=.returned (.int .i64 (M.core.check si.n sr.n))∧Below w.heap.size w w':=by
 intro M
 induction M using MkM.ind with
 | h M ih =>
   intro w P h hm;have y:Below w.heap.size w ((w.alloc (.cells #[.slice si.A si.n si.c,.slice sr.A sr.n sr.c,.slice st.A st.n st.c,.slice sx.A sx.n sx.c] 28)).alloc (.cells #[.string M.op,.int .i64 M.a,.int .i64 M.b,.slice M.s.A M.s.n M.s.c] 49)):=((Below.refl _ _).alloc (Nat.le_refl _) _).alloc (by simp) _;have Y:=iH y;have KA:=iH (alone_any (hm.below y) M.op M.a M.b M.s.A M.s.n M.s.c si sr st sx h.hop h.small);have B4:=iH ((Bk.new w 28 [.slice si.A si.n si.c,.slice sr.A sr.n sr.c,.slice st.A st.n st.c,.slice sx.A sx.n sx.c]).alloc (.cells #[.string M.op,.int .i64 M.a,.int .i64 M.b,.slice M.s.A M.s.n M.s.c] 49));have B5:Hid (Bk ((w.alloc (.cells #[.slice si.A si.n si.c,.slice sr.A sr.n sr.c,.slice st.A st.n st.c,.slice sx.A sx.n sx.c] 28)).alloc (.cells #[.string M.op,.int .i64 M.a,.int .i64 M.b,.slice M.s.A M.s.n M.s.c] 49)) (w.heap.size+1) 49 [.string M.op,.int .i64 M.a,.int .i64 M.b,.slice M.s.A M.s.n M.s.c]):=by
    have:=Bk.new (w.alloc (.cells #[.slice si.A si.n si.c,.slice sr.A sr.n sr.c,.slice st.A st.n st.c,.slice sx.A sx.n sx.c] 28)) 49 [.string M.op,.int .i64 M.a,.int .i64 M.b,.slice M.s.A M.s.n M.s.c];rw[World.size_alloc]at this;exact iH this
   have Hn:=iH h.len;have H:=iH h;have HM:=iH hm;have hs:=h.small;have hT:M.core.check si.n sr.n=if aloneE si.n sr.n M.op M.a M.b M.s.n≠0 then aloneE si.n sr.n M.op M.a M.b M.s.n else Mk.checkL si.n sr.n ((M.ks.drop 0).map MkM.core):=by
    rw[List.drop_zero,<- coreL_map,h.len,<- coreL_len];cases M;rfl
   have HT:=iH hT;have HI:=iH ih;generalize M.core.check si.n sr.n=T at *;obtain⟨mop,ma,mbb,l,s⟩:=M;dsimp only[MkM.ks,MkM.s,MkM.op,MkM.a,MkM.b]at *;obtain⟨A,n,c⟩:=s;dsimp only at *;clear h hT ih hm y;go_enter Tryz.func55,Tryz.ntmps55;go_wp2_with fail;refine KA.out.mono ?_;rintro e w1 ⟨rfl,hb1⟩;have Y1:=iH (Y.out.trans (hb1.mono Y.out.size));have B41:=B4.out.below hb1 B4.out.lt;have B51:=B5.out.below hb1 B5.out.lt;have c0:=B51.k3;have l5:=B51.lt;have HB4:=iH B41;clear KA hb1 B4 B5 B51 B41 Y;cases ha:(aloneE si.n sr.n mop ma mbb n == 0)
   ·have HQ:Hid (T=aloneE si.n sr.n mop ma mbb n):=by show T=_;rw[HT.out,if_pos (by simpa using ha)]
    generalize aloneE si.n sr.n mop ma mbb n=er at *;have ha':¬ er=0:=by simpa using ha
    clear HT HI;go_wp2;go_ret;exact⟨by rw[HQ.out];rfl,Y1.out⟩
   ·have ha0:aloneE si.n sr.n mop ma mbb n=0:=by simpa using ha
    have HQ:Hid (T=Mk.checkL si.n sr.n ((l.drop 0).map MkM.core)):=by show T=_;rw[HT.out,if_neg (by simpa using ha)]
    rw[ha0];clear HT ha ha0;go_wp2_with fail;go_loopw [21] (fun i wr=>∃k:Nat,k<=n∧i=.int .i64 k∧T=Mk.checkL si.n sr.n ((l.drop k).map MkM.core)∧Below w.heap.size w wr∧Bk wr w.heap.size 28 [.slice si.A si.n si.c,.slice sr.A sr.n sr.c,.slice st.A st.n st.c,.slice sx.A sx.n sx.c]) (fun i _=>n-(intOf i).toNat)
    case atStart=>exact⟨0,Nat.zero_le _,rfl,HQ.out,Y1.out,HB4.out⟩
    case round =>
     obtain⟨k,hk,rfl,hR,hb,hB⟩:=hrel;have HB:=iH hb;have hsz:=hb.size;by_cases hlt:k<n
     ·have hkl:k<l.length:=by have:=Hn.out;omega
      obtain⟨b,off,rfl,hbb,c0,c1,c2,c3⟩:=(H.out.bel hb).at_ k hkl;dsimp only[MkM.ks,MkM.s]at c0 c1 c2 c3;have hdr:l.drop k=l[k] :: l.drop (k+1):=List.drop_eq_getElem_cons hkl;have HR2:Hid (T=if l[k].core.check si.n sr.n≠0 then l[k].core.check si.n sr.n else Mk.checkL si.n sr.n ((l.drop (k+1)).map MkM.core)):=by
       show T=_;rw[hR,hdr,List.map_cons];rfl
      have hmem:=List.getElem_mem hkl;have y2:Below wr.heap.size wr (wr.alloc (.cells #[.string l[k].op,.int .i64 l[k].a,.int .i64 l[k].b,.slice l[k].s.A l[k].s.n l[k].s.c] 49)):=(Below.refl _ _).alloc (Nat.le_refl _) _;have HC:=iH (HI.out l[k] hmem _ P (((H.out.bel hb).each l[k] hmem).bel y2) ((HM.out.below hb).below y2));have HB2:=iH (hb.trans (y2.mono hsz));have hBk:=hB.below y2 hB.lt;have⟨e0,e1,e2,e3,el⟩:=hB.p4;have HBk:=iH hBk;clear hmem hdr hR hb y2 hB hBk HB4;generalize l[k]=t at *;generalize t.core.check si.n sr.n=z at *;clear hkl;go_wp2_with fail;refine HC.out.mono ?_;rintro e w1 ⟨rfl,hb1⟩;have HB3:=iH (HB2.out.trans (hb1.mono HB2.out.size));have HBk3:=iH (HBk.out.below hb1 HBk.out.lt);clear HC hb1 HB2 HBk;by_cases hz:z=0
      ·subst hz;have HF:Hid (T=Mk.checkL si.n sr.n ((l.drop (k+1)).map MkM.core)):=by show T=_;rw[HR2.out,if_neg (by simp)]
       clear HR2;go_wp2;go_roundw
       case rel=>exact⟨k+1,by omega,by go_num,HF.out,HB3.out,HBk3.out⟩
       case measure=>simp[intOf];omega
      ·have HF:Hid (T=z):=by show T=_;rw[HR2.out,if_pos hz]
       clear HR2;go_wp2;go_ret;exact⟨by rw[HF.out];rfl,HB3.out⟩
     ·have hkn:k=n:=by omega
      have HF:Hid (T=0):=by
       show T=0;rw[hR,hkn,List.drop_of_length_le (by have:=Hn.out;omega)];rfl
      clear hR hkn;go_wp2;go_ret;exact⟨by rw[HF.out];rfl,HB.out⟩
end Go.Proofs.YtocodlpgaamblaaGreatDoor
