/- The reference's error of a mark without its Kids. -/
import Derived.Test.YtocodlpgaamblaaGreatDoorO5
import Derived.Test.YtocodlpgaamblaaGreatDoorO7
import Derived.Test.YtocodlpgaamblaaGreatDoorO8
import Derived.Deep.CutBlock
import Derived.Deep.DeepCutAuto
set_option linter.unusedVariables false
set_option linter.unusedSimpArgs false
set_option maxRecDepth 100000
set_option maxHeartbeats 8000000
open Go.RowKit
namespace Go.Proofs.YtocodlpgaamblaaGreatDoor
theorem lKind':sKind.toList=[107,105,110,100]:=by decide +kernel
theorem lActor':sActor.toList=[97,99,116,111,114]:=by decide +kernel
theorem lRule':sRule.toList=[114,117,108,101]:=by decide +kernel
theorem lTick':sTick.toList=[116,105,99,107]:=by decide +kernel
theorem lItem':sItem.toList=[105,116,101,109]:=by decide +kernel
theorem lMore':sMore.toList=[109,111,114,101]:=by decide +kernel
theorem lStep':sStep.toList=[115,116,101,112]:=by decide +kernel
theorem lAccount':sAccount.toList=[97,99,99,111,117,110,116]:=by decide +kernel
theorem ix_isOp (op:ByteArray):(ixOf condNs op<0)=(isOp op=false):=by
 unfold ixOf;by_cases h:isOp op=true
 ·have:nameIx condNs op≠none:=by
   unfold isOp at h;simp only[Bool.or_eq_true,decide_eq_true_eq]at h;rcases h with ((((((rfl|rfl)|rfl)|rfl)|rfl)|rfl)|rfl)|rfl <;> decide
  cases hq:nameIx condNs op with
  | none=>exact absurd hq this
  | some k=>simp[h]
 ·have:nameIx condNs op=none:=by
   refine nameIx_none fun j hj e=>h ?_
   have hm:op∈condNs:=e ▸ List.getElem_mem hj;simp only[condNs,List.mem_cons,List.not_mem_nil,or_false]at hm;rcases hm with rfl|rfl|rfl|rfl|rfl|rfl|rfl|rfl <;> decide
  rw[this];simpa using h
theorem rown_join {w:World} (op:ByteArray) (a b:Int) (A:Option Addr) (n c:Nat) (si sr st sx:Sl) (hn:n<=100000) (ho:op=sAnd∨op=sOr∨op=sNot) :
 Calls Tryz.prog 106 #[.agg #[.slice si.A si.n si.c,.slice sr.A sr.n sr.c,.slice st.A st.n st.c,.slice sx.A sx.n sx.c],.agg #[.string op,.int .i64 a,.int .i64 b,.slice A n c]] w fun e w'=>e=.returned (.int .i64 (aloneE si.n sr.n op a b n))∧Below w.heap.size w w':=by
 have y:Below w.heap.size w ((w.alloc (.cells #[.slice si.A si.n si.c,.slice sr.A sr.n sr.c,.slice st.A st.n st.c,.slice sx.A sx.n sx.c] 28)).alloc (.cells #[.string op,.int .i64 a,.int .i64 b,.slice A n c] 35)):=((Below.refl _ _).alloc (Nat.le_refl _) _).alloc (by simp) _;have Y:=iH y;have q1:(op.toList == [97,110,100])=decide (op=sAnd):=by rw[<- lAnd];exact eqL _ _
 have q2:(op.toList == [111,114])=decide (op=sOr):=by rw[<- lOr];exact eqL _ _
 have q3:(op.toList == [110,111,116])=decide (op=sNot):=by rw[<- lNot];exact eqL _ _
 rcases ho with rfl|ho
 ·rw [decide_eq_true rfl] at q1;rw[decide_eq_false (by decide)]at q2;rw[decide_eq_false (by decide)]at q3;clear y;by_cases hk:¬ (n:Int)<2
  ·have hk':=hk;have hkn:¬ n<2:=by omega
   by_cases ha:a=0
   ·subst ha;by_cases hb:b=0
    ·subst hb;have HQ:Hid (aloneE si.n sr.n sAnd 0 0 n=0):=iH (by unfold aloneE;rw[if_pos (.inl rfl),if_neg (by simp;omega)]);go_enter Tryz.func106,Tryz.ntmps106;go_wp2;go_ret;exact⟨by rw[HQ.out];rfl,Y.out⟩
    ·have HQ:Hid (aloneE si.n sr.n sAnd 0 b n=1):=iH (by unfold aloneE;rw[if_pos (.inl rfl),if_pos (.inr (.inr hb))]);go_enter Tryz.func106,Tryz.ntmps106;go_wp2;go_ret;exact⟨by rw[HQ.out];rfl,Y.out⟩
   ·have HQ:Hid (aloneE si.n sr.n sAnd a b n=1):=iH (by unfold aloneE;rw[if_pos (.inl rfl),if_pos (.inr (.inl ha))]);go_enter Tryz.func106,Tryz.ntmps106;go_wp2;go_ret;exact⟨by rw[HQ.out];rfl,Y.out⟩
  ·have hk2:(n:Int)<2:=by omega
   by_cases ha:a=0
   ·subst ha;by_cases hb:b=0
    ·subst hb;have HQ:Hid (aloneE si.n sr.n sAnd 0 0 n=1):=iH (by unfold aloneE;rw[if_pos (.inl rfl),if_pos (.inl (by omega))]);go_enter Tryz.func106,Tryz.ntmps106;go_wp2;go_ret;exact⟨by rw[HQ.out];rfl,Y.out⟩
    ·have HQ:Hid (aloneE si.n sr.n sAnd 0 b n=1):=iH (by unfold aloneE;rw[if_pos (.inl rfl),if_pos (.inl (by omega))]);go_enter Tryz.func106,Tryz.ntmps106;go_wp2;go_ret;exact⟨by rw[HQ.out];rfl,Y.out⟩
   ·have HQ:Hid (aloneE si.n sr.n sAnd a b n=1):=iH (by unfold aloneE;rw[if_pos (.inl rfl),if_pos (.inl (by omega))]);go_enter Tryz.func106,Tryz.ntmps106;go_wp2;go_ret;exact⟨by rw[HQ.out];rfl,Y.out⟩
 rcases ho with rfl|ho
 ·rw [decide_eq_true rfl] at q2;rw[decide_eq_false (by decide)]at q1;rw[decide_eq_false (by decide)]at q3;clear y;by_cases hk:¬ (n:Int)<2
  ·have hk':=hk;have hkn:¬ n<2:=by omega
   by_cases ha:a=0
   ·subst ha;by_cases hb:b=0
    ·subst hb;have HQ:Hid (aloneE si.n sr.n sOr 0 0 n=0):=iH (by unfold aloneE;rw[if_pos (.inr rfl),if_neg (by simp;omega)]);go_enter Tryz.func106,Tryz.ntmps106;go_wp2;go_ret;exact⟨by rw[HQ.out];rfl,Y.out⟩
    ·have HQ:Hid (aloneE si.n sr.n sOr 0 b n=1):=iH (by unfold aloneE;rw[if_pos (.inr rfl),if_pos (.inr (.inr hb))]);go_enter Tryz.func106,Tryz.ntmps106;go_wp2;go_ret;exact⟨by rw[HQ.out];rfl,Y.out⟩
   ·have HQ:Hid (aloneE si.n sr.n sOr a b n=1):=iH (by unfold aloneE;rw[if_pos (.inr rfl),if_pos (.inr (.inl ha))]);go_enter Tryz.func106,Tryz.ntmps106;go_wp2;go_ret;exact⟨by rw[HQ.out];rfl,Y.out⟩
  ·have hk2:(n:Int)<2:=by omega
   by_cases ha:a=0
   ·subst ha;by_cases hb:b=0
    ·subst hb;have HQ:Hid (aloneE si.n sr.n sOr 0 0 n=1):=iH (by unfold aloneE;rw[if_pos (.inr rfl),if_pos (.inl (by omega))]);go_enter Tryz.func106,Tryz.ntmps106;go_wp2;go_ret;exact⟨by rw[HQ.out];rfl,Y.out⟩
    ·have HQ:Hid (aloneE si.n sr.n sOr 0 b n=1):=iH (by unfold aloneE;rw[if_pos (.inr rfl),if_pos (.inl (by omega))]);go_enter Tryz.func106,Tryz.ntmps106;go_wp2;go_ret;exact⟨by rw[HQ.out];rfl,Y.out⟩
   ·have HQ:Hid (aloneE si.n sr.n sOr a b n=1):=iH (by unfold aloneE;rw[if_pos (.inr rfl),if_pos (.inl (by omega))]);go_enter Tryz.func106,Tryz.ntmps106;go_wp2;go_ret;exact⟨by rw[HQ.out];rfl,Y.out⟩
 subst ho;rw[decide_eq_true rfl]at q3;rw[decide_eq_false (by decide)]at q1;rw[decide_eq_false (by decide)]at q2;clear y;by_cases hk:(n:Int)=1
 ·obtain rfl:n=1:=by omega
  clear hk;by_cases ha:a=0
  ·subst ha;by_cases hb:b=0
   ·subst hb;have HQ:Hid (aloneE si.n sr.n sNot 0 0 1=0):=iH (by unfold aloneE;rw[if_neg (by rintro(h | h) <;> exact absurd h (by decide)),if_pos rfl,if_neg (by simp)]);go_enter Tryz.func106,Tryz.ntmps106;go_wp2;go_ret;exact⟨by rw[HQ.out];rfl,Y.out⟩
   ·have HQ:Hid (aloneE si.n sr.n sNot 0 b 1=1):=iH (by unfold aloneE;rw[if_neg (by rintro(h | h) <;> exact absurd h (by decide)),if_pos rfl,if_pos (.inr (.inr hb))]);go_enter Tryz.func106,Tryz.ntmps106;go_wp2;go_ret;exact⟨by rw[HQ.out];rfl,Y.out⟩
  ·have HQ:Hid (aloneE si.n sr.n sNot a b 1=1):=iH (by unfold aloneE;rw[if_neg (by rintro(h | h) <;> exact absurd h (by decide)),if_pos rfl,if_pos (.inr (.inl ha))]);go_enter Tryz.func106,Tryz.ntmps106;go_wp2;go_ret;exact⟨by rw[HQ.out];rfl,Y.out⟩
 ·have hk2:((n:Int) == 1)=false:=by simp;omega
  have hk3:((n:Int) != 1)=true:=by simp;omega
  by_cases ha:a=0
  ·subst ha;by_cases hb:b=0
   ·subst hb;have HQ:Hid (aloneE si.n sr.n sNot 0 0 n=1):=iH (by unfold aloneE;rw[if_neg (by rintro(h | h) <;> exact absurd h (by decide)),if_pos rfl,if_pos (.inl (by omega))]);go_enter Tryz.func106,Tryz.ntmps106;go_wp2;go_ret;exact⟨by rw[HQ.out];rfl,Y.out⟩
   ·have HQ:Hid (aloneE si.n sr.n sNot 0 b n=1):=iH (by unfold aloneE;rw[if_neg (by rintro(h | h) <;> exact absurd h (by decide)),if_pos rfl,if_pos (.inl (by omega))]);go_enter Tryz.func106,Tryz.ntmps106;go_wp2;go_ret;exact⟨by rw[HQ.out];rfl,Y.out⟩
  ·have HQ:Hid (aloneE si.n sr.n sNot a b n=1):=iH (by unfold aloneE;rw[if_neg (by rintro(h | h) <;> exact absurd h (by decide)),if_pos rfl,if_pos (.inl (by omega))]);go_enter Tryz.func106,Tryz.ntmps106;go_wp2;go_ret;exact⟨by rw[HQ.out];rfl,Y.out⟩
set_option linter.unusedSimpArgs false in
theorem rown_cond {w : World} (op : ByteArray) (a b : Int) (A : Option Addr) (n c : Nat) (si sr st sx : Sl) (hn : n <= 100000) (hi : si.n <= 1000000) (hr : sr.n <= 1000000) (h1 : op ≠ sAnd) (h2 : op ≠ sOr) (h3 : op ≠ sNot) :
 Calls Tryz.prog 106 #[.agg #[.slice si.A si.n si.c,.slice sr.A sr.n sr.c,.slice st.A st.n st.c,.slice sx.A sx.n sx.c],.agg #[.string op,.int .i64 a,.int .i64 b,.slice A n c]] w fun e w'=>e=.returned (.int .i64 (aloneE si.n sr.n op a b n))∧Below w.heap.size w w':=by
 have y:Below w.heap.size w ((w.alloc (.cells #[.slice si.A si.n si.c,.slice sr.A sr.n sr.c,.slice st.A st.n st.c,.slice sx.A sx.n sx.c] 28)).alloc (.cells #[.string op,.int .i64 a,.int .i64 b,.slice A n c] 35)):=((Below.refl _ _).alloc (Nat.le_refl _) _).alloc (by simp) _;have Y:=iH y;have q1:(op.toList == [97,110,100])=decide (op=sAnd):=by rw[<- lAnd];exact eqL _ _
 have q2:(op.toList == [111,114])=decide (op=sOr):=by rw[<- lOr];exact eqL _ _
 have q3:(op.toList == [110,111,116])=decide (op=sNot):=by rw[<- lNot];exact eqL _ _
 have qKind:(op.toList == [107,105,110,100])=decide (op=sKind):=by rw[<- lKind'];exact eqL _ _
 have qActor:(op.toList == [97,99,116,111,114])=decide (op=sActor):=by rw[<- lActor'];exact eqL _ _
 have qRule:(op.toList == [114,117,108,101])=decide (op=sRule):=by rw[<- lRule'];exact eqL _ _
 have qTick:(op.toList == [116,105,99,107])=decide (op=sTick):=by rw[<- lTick'];exact eqL _ _
 have qItem:(op.toList == [105,116,101,109])=decide (op=sItem):=by rw[<- lItem'];exact eqL _ _
 have qMore:(op.toList == [109,111,114,101])=decide (op=sMore):=by rw[<- lMore'];exact eqL _ _
 have qStep:(op.toList == [115,116,101,112])=decide (op=sStep):=by rw[<- lStep'];exact eqL _ _
 have qAccount:(op.toList == [97,99,99,111,117,110,116])=decide (op=sAccount):=by rw[<- lAccount'];exact eqL _ _
 rw[decide_eq_false h1]at q1;rw[decide_eq_false h2]at q2;rw[decide_eq_false h3]at q3;have HAL:Hid (aloneE si.n sr.n op a b n=if isOp op=false∨0<n∨(b≠0∧usesB op=false) then 1 else if namesOk op si.n sr.n a b=false then 6 else if rangeK op a b=false then 5 else 0):=by
  show _=_;unfold aloneE;rw[if_neg (by rintro(h | h) <;> contradiction),if_neg h3]
 have HIX:=iH (ix_isOp op);have B0:=iH ((Bk.new w 28 [.slice si.A si.n si.c,.slice sr.A sr.n sr.c,.slice st.A st.n st.c,.slice sx.A sx.n sx.c]).alloc (.cells #[.string op,.int .i64 a,.int .i64 b,.slice A n c] 35));have B1:Hid (Bk ((w.alloc (.cells #[.slice si.A si.n si.c,.slice sr.A sr.n sr.c,.slice st.A st.n st.c,.slice sx.A sx.n sx.c] 28)).alloc (.cells #[.string op,.int .i64 a,.int .i64 b,.slice A n c] 35)) (w.heap.size+1) 35 [.string op,.int .i64 a,.int .i64 b,.slice A n c]):=by
  have:=Bk.new (w.alloc (.cells #[.slice si.A si.n si.c,.slice sr.A sr.n sr.c,.slice st.A st.n st.c,.slice sx.A sx.n sx.c] 28)) 35 [.string op,.int .i64 a,.int .i64 b,.slice A n c];rw[World.size_alloc]at this;exact iH this
 clear y h1 h2 h3;go_enter Tryz.func106,Tryz.ntmps106;go_upto_region 6 with fail;go_cut [6] (fun v wx=>v=.bool (usesB op)∧wx=((w.alloc (.cells #[.slice si.A si.n si.c,.slice sr.A sr.n sr.c,.slice st.A st.n st.c,.slice sx.A sx.n sx.c] 28)).alloc (.cells #[.string op,.int .i64 a,.int .i64 b,.slice A n c] 35)))
 case first =>
  clear HAL HIX B0 B1 Y;by_cases e1:op=sTick
  ·rw[decide_eq_true e1]at qTick;have hu:usesB op=true:=by subst e1;decide
   clear e1;go_wp2;go_meet;exact⟨by rw[hu],rfl⟩
  by_cases e2:op=sStep
  ·rw[decide_eq_false e1]at qTick;rw[decide_eq_true e2]at qStep;have hu:usesB op=true:=by subst e2;decide
   clear e1 e2;go_wp2;go_meet;exact⟨by rw[hu],rfl⟩
  by_cases e3:op=sMore
  ·rw[decide_eq_false e1]at qTick;rw[decide_eq_false e2]at qStep;rw[decide_eq_true e3]at qMore;have hu:usesB op=true:=by subst e3;decide
   clear e1 e2 e3;go_wp2;go_meet;exact⟨by rw[hu],rfl⟩
  have hu:usesB op=false:=by simp[usesB,isTwo,e1,e2,e3]
  rw[decide_eq_false e1]at qTick;rw[decide_eq_false e2]at qStep;rw[decide_eq_false e3]at qMore;clear e1 e2 e3;go_wp2;go_meet;exact⟨by rw[hu],rfl⟩
 case rest =>
  obtain⟨rfl,rfl⟩:=hcut;generalize hub:usesB op=ub at *;go_upto_region 7 with fail;go_cut [80] (fun v wx=>v=.bool (decide (isOp op=false∨0<n∨(b≠0∧ub=false)))∧Below w.heap.size w wx∧Bk wx w.heap.size 28 [.slice si.A si.n si.c,.slice sr.A sr.n sr.c,.slice st.A st.n st.c,.slice sx.A sx.n sx.c]∧Bk wx (w.heap.size+1) 35 [.string op,.int .i64 a,.int .i64 b,.slice A n c])
  case first =>
   as_aux_lemma =>
    clear HAL hub qKind qActor qRule qTick qItem qMore qStep qAccount q1 q2 q3;refine wp_region_X (fun w'=>Bk w' (w.heap.size+1) 35 [.string op,.int .i64 a,.int .i64 b,.slice A n c]) 18 (n:=18) rfl (by kernel_rfl) (B1.out.drew) (fun hS=>?_);refine uT 1 64 hS ?_ (hy:=fun w' hS'=>by have⟨e0,e1,e2,e3,el⟩:=hS'.p4;(go_simp;try with_reducible rfl));refine uT 2 65 hS ?_ (hy:=fun w' hS'=>by have⟨e0,e1,e2,e3,el⟩:=hS'.p4;(go_simp;try with_reducible rfl));refine X_o 0 rfl fun K hK=>?_;go_simp;have K1:=iH (condNs_any ((w.alloc (.cells #[.slice si.A si.n si.c,.slice sr.A sr.n sr.c,.slice st.A st.n st.c,.slice sx.A sx.n sx.c] 28)).alloc (.cells #[.string op,.int .i64 a,.int .i64 b,.slice A n c] 35)).drew);(with_reducible refine K1.out.mono ?_);rintro e w1 ⟨A1,n1,c1,rfl,hnm,hb⟩;have hd:=(Below.refl ((w.alloc (.cells #[.slice si.A si.n si.c,.slice sr.A sr.n sr.c,.slice st.A st.n st.c,.slice sx.A sx.n sx.c] 28)).alloc (.cells #[.string op,.int .i64 a,.int .i64 b,.slice A n c] 35)).heap.size ((w.alloc (.cells #[.slice si.A si.n si.c,.slice sr.A sr.n sr.c,.slice st.A st.n st.c,.slice sx.A sx.n sx.c] 28)).alloc (.cells #[.string op,.int .i64 a,.int .i64 b,.slice A n c] 35))).drew.trans hb;have HBa:=iH (Y.out.trans (hd.mono Y.out.size));have BBa:=iH (B1.out.below hd B1.out.lt);have BCa:=iH (B0.out.below hd B0.out.lt);have HNM:=iH hnm;refine hK _ _ BBa.out ?_;clear hK K1 hnm hb hd;refine X_o 3 rfl fun K hK=>?_;go_simp;have K1:=iH (rindex_any (c:=c1) op HNM.out);(with_reducible refine K1.out.mono ?_);rintro e w2 ⟨rfl,rfl⟩;refine hK _ _ BBa.out ?_;clear hK K1 HNM;generalize ixOf condNs op=ix at *;by_cases hix:ix<0
    ·have ho:isOp op=false:=HIX.out.mp hix;clear HIX;refine X_o 4 rfl fun K hK=>?_;go_simp;refine hK _ _ BBa.out ?_;clear hK;refine X_o 5 rfl fun K hK=>?_;go_simp;refine hK _ _ BBa.out ?_;clear hK;refine X_o 6 rfl fun K hK=>?_;go_simp;refine hK _ _ BBa.out ?_;clear hK;refine X_o 7 rfl fun K hK=>?_;go_simp;refine hK _ _ BBa.out ?_;clear hK;refine X_o 8 rfl fun K hK=>?_;go_simp;refine hK _ _ BBa.out ?_;clear hK;refine X_o 9 rfl fun K hK=>?_;go_simp;refine hK _ _ BBa.out ?_;clear hK;refine X_o 10 rfl fun K hK=>?_;go_simp;refine hK _ _ BBa.out ?_;clear hK;refine X_o 11 rfl fun K hK=>?_;go_simp;refine hK _ _ BBa.out ?_;clear hK;refine X_o 12 rfl fun K hK=>?_;go_simp;refine hK _ _ BBa.out ?_;clear hK;refine X_o 13 rfl fun K hK=>?_;have e2:=BBa.out.k2;have el:=BBa.out.lt;go_simp;refine hK _ _ BBa.out ?_;clear hK e2 el;refine X_o 14 rfl fun K hK=>?_;have e2:=BBa.out.k2;have el:=BBa.out.lt;go_simp;refine hK _ _ BBa.out ?_;clear hK e2 el;refine X_o 15 rfl fun K hK=>?_;go_simp;refine hK _ _ BBa.out ?_;clear hK;refine X_o 16 rfl fun K hK=>?_;go_simp;refine hK _ _ BBa.out ?_;clear hK;refine X_o 17 rfl fun K hK=>?_;go_simp;refine hK _ _ BBa.out ?_;clear hK;refine X_done (by kernel_rfl) ?_;go_wp2;go_meet;exact⟨by simp[ho],HBa.out,BCa.out,BBa.out⟩
    ·have ho:¬ isOp op=false:=fun k=>hix (HIX.out.mpr k)
     clear HIX;by_cases hn0:n=0
     ·subst hn0;cases ub
      ·by_cases hb0:b=0
       ·subst hb0;refine X_o 4 rfl fun K hK=>?_;go_simp;refine hK _ _ BBa.out ?_;clear hK;refine X_o 5 rfl fun K hK=>?_;go_simp;refine hK _ _ BBa.out ?_;clear hK;refine X_o 6 rfl fun K hK=>?_;go_simp;refine hK _ _ BBa.out ?_;clear hK;refine X_o 7 rfl fun K hK=>?_;go_simp;refine hK _ _ BBa.out ?_;clear hK;refine X_o 8 rfl fun K hK=>?_;go_simp;refine hK _ _ BBa.out ?_;clear hK;refine X_o 9 rfl fun K hK=>?_;go_simp;refine hK _ _ BBa.out ?_;clear hK;refine X_o 10 rfl fun K hK=>?_;go_simp;refine hK _ _ BBa.out ?_;clear hK;refine X_o 11 rfl fun K hK=>?_;go_simp;refine hK _ _ BBa.out ?_;clear hK;refine X_o 12 rfl fun K hK=>?_;go_simp;refine hK _ _ BBa.out ?_;clear hK;refine X_o 13 rfl fun K hK=>?_;have e2:=BBa.out.k2;have el:=BBa.out.lt;go_simp;refine hK _ _ BBa.out ?_;clear hK e2 el;refine X_o 14 rfl fun K hK=>?_;have e2:=BBa.out.k2;have el:=BBa.out.lt;go_simp;refine hK _ _ BBa.out ?_;clear hK e2 el;refine X_o 15 rfl fun K hK=>?_;go_simp;refine hK _ _ BBa.out ?_;clear hK;refine X_o 16 rfl fun K hK=>?_;go_simp;refine hK _ _ BBa.out ?_;clear hK;refine X_o 17 rfl fun K hK=>?_;go_simp;refine hK _ _ BBa.out ?_;clear hK;refine X_done (by kernel_rfl) ?_;go_wp2;go_meet;exact⟨by simp[ho],HBa.out,BCa.out,BBa.out⟩
       ·
        refine X_o 4 rfl fun K hK=>?_;go_simp;refine hK _ _ BBa.out ?_;clear hK;refine X_o 5 rfl fun K hK=>?_;go_simp;refine hK _ _ BBa.out ?_;clear hK;refine X_o 6 rfl fun K hK=>?_;go_simp;refine hK _ _ BBa.out ?_;clear hK;refine X_o 7 rfl fun K hK=>?_;go_simp;refine hK _ _ BBa.out ?_;clear hK;refine X_o 8 rfl fun K hK=>?_;go_simp;refine hK _ _ BBa.out ?_;clear hK;refine X_o 9 rfl fun K hK=>?_;go_simp;refine hK _ _ BBa.out ?_;clear hK;refine X_o 10 rfl fun K hK=>?_;go_simp;refine hK _ _ BBa.out ?_;clear hK;refine X_o 11 rfl fun K hK=>?_;go_simp;refine hK _ _ BBa.out ?_;clear hK;refine X_o 12 rfl fun K hK=>?_;go_simp;refine hK _ _ BBa.out ?_;clear hK;refine X_o 13 rfl fun K hK=>?_;have e2:=BBa.out.k2;have el:=BBa.out.lt;go_simp;refine hK _ _ BBa.out ?_;clear hK e2 el;refine X_o 14 rfl fun K hK=>?_;have e2:=BBa.out.k2;have el:=BBa.out.lt;go_simp;refine hK _ _ BBa.out ?_;clear hK e2 el;refine X_o 15 rfl fun K hK=>?_;go_simp;refine hK _ _ BBa.out ?_;clear hK;refine X_o 16 rfl fun K hK=>?_;go_simp;refine hK _ _ BBa.out ?_;clear hK;refine X_o 17 rfl fun K hK=>?_;go_simp;refine hK _ _ BBa.out ?_;clear hK;refine X_done (by kernel_rfl) ?_;go_wp2;go_meet;exact⟨by simp[ho,hb0],HBa.out,BCa.out,BBa.out⟩
      ·
       refine X_o 4 rfl fun K hK=>?_;go_simp;refine hK _ _ BBa.out ?_;clear hK;refine X_o 5 rfl fun K hK=>?_;go_simp;refine hK _ _ BBa.out ?_;clear hK;refine X_o 6 rfl fun K hK=>?_;go_simp;refine hK _ _ BBa.out ?_;clear hK;refine X_o 7 rfl fun K hK=>?_;go_simp;refine hK _ _ BBa.out ?_;clear hK;refine X_o 8 rfl fun K hK=>?_;go_simp;refine hK _ _ BBa.out ?_;clear hK;refine X_o 9 rfl fun K hK=>?_;go_simp;refine hK _ _ BBa.out ?_;clear hK;refine X_o 10 rfl fun K hK=>?_;go_simp;refine hK _ _ BBa.out ?_;clear hK;refine X_o 11 rfl fun K hK=>?_;go_simp;refine hK _ _ BBa.out ?_;clear hK;refine X_o 12 rfl fun K hK=>?_;go_simp;refine hK _ _ BBa.out ?_;clear hK;refine X_o 13 rfl fun K hK=>?_;have e2:=BBa.out.k2;have el:=BBa.out.lt;go_simp;refine hK _ _ BBa.out ?_;clear hK e2 el;refine X_o 14 rfl fun K hK=>?_;have e2:=BBa.out.k2;have el:=BBa.out.lt;go_simp;refine hK _ _ BBa.out ?_;clear hK e2 el;refine X_o 15 rfl fun K hK=>?_;go_simp;refine hK _ _ BBa.out ?_;clear hK;refine X_o 16 rfl fun K hK=>?_;go_simp;refine hK _ _ BBa.out ?_;clear hK;refine X_o 17 rfl fun K hK=>?_;go_simp;refine hK _ _ BBa.out ?_;clear hK;refine X_done (by kernel_rfl) ?_;go_wp2;go_meet;exact⟨by simp[ho],HBa.out,BCa.out,BBa.out⟩
     ·have hn1:((n:Int) == 0)=false:=by simp;omega
      have hn2:((n:Int) != 0)=true:=by simp;omega
      have hn3:0<n:=by omega
      refine X_o 4 rfl fun K hK=>?_;go_simp;refine hK _ _ BBa.out ?_;clear hK;refine X_o 5 rfl fun K hK=>?_;go_simp;refine hK _ _ BBa.out ?_;clear hK;refine X_o 6 rfl fun K hK=>?_;go_simp;refine hK _ _ BBa.out ?_;clear hK;refine X_o 7 rfl fun K hK=>?_;go_simp;refine hK _ _ BBa.out ?_;clear hK;refine X_o 8 rfl fun K hK=>?_;go_simp;refine hK _ _ BBa.out ?_;clear hK;refine X_o 9 rfl fun K hK=>?_;go_simp;refine hK _ _ BBa.out ?_;clear hK;refine X_o 10 rfl fun K hK=>?_;go_simp;refine hK _ _ BBa.out ?_;clear hK;refine X_o 11 rfl fun K hK=>?_;go_simp;refine hK _ _ BBa.out ?_;clear hK;refine X_o 12 rfl fun K hK=>?_;go_simp;refine hK _ _ BBa.out ?_;clear hK;refine X_o 13 rfl fun K hK=>?_;have e2:=BBa.out.k2;have el:=BBa.out.lt;go_simp;refine hK _ _ BBa.out ?_;clear hK e2 el;refine X_o 14 rfl fun K hK=>?_;have e2:=BBa.out.k2;have el:=BBa.out.lt;go_simp;refine hK _ _ BBa.out ?_;clear hK e2 el;refine X_o 15 rfl fun K hK=>?_;go_simp;refine hK _ _ BBa.out ?_;clear hK;refine X_o 16 rfl fun K hK=>?_;go_simp;refine hK _ _ BBa.out ?_;clear hK;refine X_o 17 rfl fun K hK=>?_;go_simp;refine hK _ _ BBa.out ?_;clear hK;refine X_done (by kernel_rfl) ?_;go_wp2;go_meet;exact⟨by simp[hn3],HBa.out,BCa.out,BBa.out⟩
  case rest =>
   obtain⟨rfl,hb,hb0,hb1⟩:=hcut;have HX:=iH hb;have BB:=iH hb1;have BC:=iH hb0;clear hb hb0 hb1 HIX B0 B1;by_cases hbad:isOp op=false∨0<n∨(b≠0∧ub=false)
   ·have HQ:Hid (aloneE si.n sr.n op a b n=1):=iH (by rw[HAL.out,if_pos hbad]);rw[decide_eq_true hbad];clear HAL hbad hub;go_wp2;go_ret;exact⟨by rw[HQ.out];rfl,HX.out⟩
   ·rw [decide_eq_false hbad];have ho:isOp op=true:=by
     cases h:isOp op with
     | true=>rfl
     | false=>exact absurd (.inl h) hbad
    obtain rfl:n=0:=by
     rcases Nat.eq_zero_or_pos n with h|h
     ·exact h
     ·exact absurd (.inr (.inl h)) hbad
    clear hub;unfold isOp at ho;simp only[Bool.or_eq_true,decide_eq_true_eq]at ho;have⟨b0,b1,b2,b3,_⟩:=BB.out.p4;have⟨d0,d1,_⟩:=BC.out.p2;have bl:=BB.out.lt;rcases ho with ((((((rfl|rfl)|rfl)|rfl)|rfl)|rfl)|rfl)|rfl
    ·rw[decide_eq_true rfl]at qKind;rw[decide_eq_false (by decide)]at qActor;rw[decide_eq_false (by decide)]at qRule;rw[decide_eq_false (by decide)]at qTick;rw[decide_eq_false (by decide)]at qItem;rw[decide_eq_false (by decide)]at qMore;rw[decide_eq_false (by decide)]at qStep;rw[decide_eq_false (by decide)]at qAccount;by_cases h1:a<0
     ·have HQ:Hid (aloneE si.n sr.n sKind a b 0=5):=iH (by show _=_;rw[HAL.out];rw[if_neg hbad];simp[namesOk,rangeK,isTwo,(by decide:(sKind=sActor)=False),(by decide:(sKind=sRule)=False),(by decide:(sKind=sTick)=False),(by decide:(sKind=sItem)=False),(by decide:(sKind=sMore)=False),(by decide:(sKind=sStep)=False),(by decide:(sKind=sAccount)=False)];try omega);clear HAL;go_wp2;go_ret;exact⟨by rw[HQ.out];rfl,HX.out⟩
     ·by_cases h2:10<a
      ·have HQ:Hid (aloneE si.n sr.n sKind a b 0=5):=iH (by show _=_;rw[HAL.out];rw[if_neg hbad];simp[namesOk,rangeK,isTwo,(by decide:(sKind=sActor)=False),(by decide:(sKind=sRule)=False),(by decide:(sKind=sTick)=False),(by decide:(sKind=sItem)=False),(by decide:(sKind=sMore)=False),(by decide:(sKind=sStep)=False),(by decide:(sKind=sAccount)=False)];try omega);clear HAL;go_wp2;go_ret;exact⟨by rw[HQ.out];rfl,HX.out⟩
      ·have HQ:Hid (aloneE si.n sr.n sKind a b 0=0):=iH (by show _=_;rw[HAL.out];rw[if_neg hbad];simp[namesOk,rangeK,isTwo,(by decide:(sKind=sActor)=False),(by decide:(sKind=sRule)=False),(by decide:(sKind=sTick)=False),(by decide:(sKind=sItem)=False),(by decide:(sKind=sMore)=False),(by decide:(sKind=sStep)=False),(by decide:(sKind=sAccount)=False)];try omega);clear HAL;go_wp2;go_ret;exact⟨by rw[HQ.out];rfl,HX.out⟩
    ·rw[decide_eq_false (by decide)]at qKind;rw[decide_eq_true rfl]at qActor;rw[decide_eq_false (by decide)]at qRule;rw[decide_eq_false (by decide)]at qTick;rw[decide_eq_false (by decide)]at qItem;rw[decide_eq_false (by decide)]at qMore;rw[decide_eq_false (by decide)]at qStep;rw[decide_eq_false (by decide)]at qAccount;by_cases h1:a<0
     ·have HQ:Hid (aloneE si.n sr.n sActor a b 0=5):=iH (by show _=_;rw[HAL.out];rw[if_neg hbad];simp[namesOk,rangeK,isTwo,(by decide:(sActor=sKind)=False),(by decide:(sActor=sRule)=False),(by decide:(sActor=sTick)=False),(by decide:(sActor=sItem)=False),(by decide:(sActor=sMore)=False),(by decide:(sActor=sStep)=False),(by decide:(sActor=sAccount)=False)];try omega);clear HAL;go_wp2;go_ret;exact⟨by rw[HQ.out];rfl,HX.out⟩
     ·by_cases h2:1073741824<a
      ·have HQ:Hid (aloneE si.n sr.n sActor a b 0=5):=iH (by show _=_;rw[HAL.out];rw[if_neg hbad];simp[namesOk,rangeK,isTwo,(by decide:(sActor=sKind)=False),(by decide:(sActor=sRule)=False),(by decide:(sActor=sTick)=False),(by decide:(sActor=sItem)=False),(by decide:(sActor=sMore)=False),(by decide:(sActor=sStep)=False),(by decide:(sActor=sAccount)=False)];try omega);clear HAL;go_wp2;go_ret;exact⟨by rw[HQ.out];rfl,HX.out⟩
      ·have HQ:Hid (aloneE si.n sr.n sActor a b 0=0):=iH (by show _=_;rw[HAL.out];rw[if_neg hbad];simp[namesOk,rangeK,isTwo,(by decide:(sActor=sKind)=False),(by decide:(sActor=sRule)=False),(by decide:(sActor=sTick)=False),(by decide:(sActor=sItem)=False),(by decide:(sActor=sMore)=False),(by decide:(sActor=sStep)=False),(by decide:(sActor=sAccount)=False)];try omega);clear HAL;go_wp2;go_ret;exact⟨by rw[HQ.out];rfl,HX.out⟩
    ·rw[decide_eq_false (by decide)]at qKind;rw[decide_eq_false (by decide)]at qActor;rw[decide_eq_true rfl]at qRule;rw[decide_eq_false (by decide)]at qTick;rw[decide_eq_false (by decide)]at qItem;rw[decide_eq_false (by decide)]at qMore;rw[decide_eq_false (by decide)]at qStep;rw[decide_eq_false (by decide)]at qAccount;by_cases h1:a<0
     ·have HQ:Hid (aloneE si.n sr.n sRule a b 0=6):=iH (by show _=_;rw[HAL.out];rw[if_neg hbad];simp[namesOk,rangeK,isTwo,(by decide:(sRule=sKind)=False),(by decide:(sRule=sActor)=False),(by decide:(sRule=sTick)=False),(by decide:(sRule=sItem)=False),(by decide:(sRule=sMore)=False),(by decide:(sRule=sStep)=False),(by decide:(sRule=sAccount)=False)];try omega);clear HAL;go_wp2;go_ret;exact⟨by rw[HQ.out];rfl,HX.out⟩
     ·by_cases h2:(sr.n:Int)<=a
      ·have HQ:Hid (aloneE si.n sr.n sRule a b 0=6):=iH (by show _=_;rw[HAL.out];rw[if_neg hbad];simp[namesOk,rangeK,isTwo,(by decide:(sRule=sKind)=False),(by decide:(sRule=sActor)=False),(by decide:(sRule=sTick)=False),(by decide:(sRule=sItem)=False),(by decide:(sRule=sMore)=False),(by decide:(sRule=sStep)=False),(by decide:(sRule=sAccount)=False)];try omega);clear HAL;go_wp2;go_ret;exact⟨by rw[HQ.out];rfl,HX.out⟩
      ·have HQ:Hid (aloneE si.n sr.n sRule a b 0=0):=iH (by show _=_;rw[HAL.out];rw[if_neg hbad];simp[namesOk,rangeK,isTwo,(by decide:(sRule=sKind)=False),(by decide:(sRule=sActor)=False),(by decide:(sRule=sTick)=False),(by decide:(sRule=sItem)=False),(by decide:(sRule=sMore)=False),(by decide:(sRule=sStep)=False),(by decide:(sRule=sAccount)=False)];try omega);clear HAL;go_wp2;go_ret;exact⟨by rw[HQ.out];rfl,HX.out⟩
    ·rw [decide_eq_false (by decide)] at qKind;rw[decide_eq_false (by decide)]at qActor;rw[decide_eq_false (by decide)]at qRule;rw[decide_eq_true rfl]at qTick;rw[decide_eq_false (by decide)]at qItem;rw[decide_eq_false (by decide)]at qMore;rw[decide_eq_false (by decide)]at qStep;rw[decide_eq_false (by decide)]at qAccount;by_cases h1:a<0
     ·have HQ:Hid (aloneE si.n sr.n sTick a b 0=5):=iH (by show _=_;rw[HAL.out];rw[if_neg hbad];simp[namesOk,rangeK,isTwo,(by decide:(sTick=sKind)=False),(by decide:(sTick=sActor)=False),(by decide:(sTick=sRule)=False),(by decide:(sTick=sItem)=False),(by decide:(sTick=sMore)=False),(by decide:(sTick=sStep)=False),(by decide:(sTick=sAccount)=False)];try omega);clear HAL;go_wp2;go_ret;exact⟨by rw[HQ.out];rfl,HX.out⟩
     ·by_cases h2:1099511627776<a
      ·have HQ:Hid (aloneE si.n sr.n sTick a b 0=5):=iH (by show _=_;rw[HAL.out];rw[if_neg hbad];simp[namesOk,rangeK,isTwo,(by decide:(sTick=sKind)=False),(by decide:(sTick=sActor)=False),(by decide:(sTick=sRule)=False),(by decide:(sTick=sItem)=False),(by decide:(sTick=sMore)=False),(by decide:(sTick=sStep)=False),(by decide:(sTick=sAccount)=False)];try omega);clear HAL;go_wp2;go_ret;exact⟨by rw[HQ.out];rfl,HX.out⟩
      ·by_cases h3:b<a
       ·have HQ:Hid (aloneE si.n sr.n sTick a b 0=5):=iH (by show _=_;rw[HAL.out];rw[if_neg hbad];simp[namesOk,rangeK,isTwo,(by decide:(sTick=sKind)=False),(by decide:(sTick=sActor)=False),(by decide:(sTick=sRule)=False),(by decide:(sTick=sItem)=False),(by decide:(sTick=sMore)=False),(by decide:(sTick=sStep)=False),(by decide:(sTick=sAccount)=False)];try omega);clear HAL;go_wp2;go_ret;exact⟨by rw[HQ.out];rfl,HX.out⟩
       ·by_cases h4:1099511627776<b
        ·have HQ:Hid (aloneE si.n sr.n sTick a b 0=5):=iH (by show _=_;rw[HAL.out];rw[if_neg hbad];simp[namesOk,rangeK,isTwo,(by decide:(sTick=sKind)=False),(by decide:(sTick=sActor)=False),(by decide:(sTick=sRule)=False),(by decide:(sTick=sItem)=False),(by decide:(sTick=sMore)=False),(by decide:(sTick=sStep)=False),(by decide:(sTick=sAccount)=False)];try omega);clear HAL;go_wp2;go_ret;exact⟨by rw[HQ.out];rfl,HX.out⟩
        ·have HQ:Hid (aloneE si.n sr.n sTick a b 0=0):=iH (by show _=_;rw[HAL.out];rw[if_neg hbad];simp[namesOk,rangeK,isTwo,(by decide:(sTick=sKind)=False),(by decide:(sTick=sActor)=False),(by decide:(sTick=sRule)=False),(by decide:(sTick=sItem)=False),(by decide:(sTick=sMore)=False),(by decide:(sTick=sStep)=False),(by decide:(sTick=sAccount)=False)];try omega);clear HAL;go_wp2;go_ret;exact⟨by rw[HQ.out];rfl,HX.out⟩
    ·rw[decide_eq_false (by decide)]at qKind;rw[decide_eq_false (by decide)]at qActor;rw[decide_eq_false (by decide)]at qRule;rw[decide_eq_false (by decide)]at qTick;rw[decide_eq_true rfl]at qItem;rw[decide_eq_false (by decide)]at qMore;rw[decide_eq_false (by decide)]at qStep;rw[decide_eq_false (by decide)]at qAccount;by_cases h1:a<0
     ·have HQ:Hid (aloneE si.n sr.n sItem a b 0=6):=iH (by show _=_;rw[HAL.out];rw[if_neg hbad];simp[namesOk,rangeK,isTwo,(by decide:(sItem=sKind)=False),(by decide:(sItem=sActor)=False),(by decide:(sItem=sRule)=False),(by decide:(sItem=sTick)=False),(by decide:(sItem=sMore)=False),(by decide:(sItem=sStep)=False),(by decide:(sItem=sAccount)=False)];try omega);clear HAL;go_wp2;go_ret;exact⟨by rw[HQ.out];rfl,HX.out⟩
     ·by_cases h2:(si.n:Int)<=a
      ·have HQ:Hid (aloneE si.n sr.n sItem a b 0=6):=iH (by show _=_;rw[HAL.out];rw[if_neg hbad];simp[namesOk,rangeK,isTwo,(by decide:(sItem=sKind)=False),(by decide:(sItem=sActor)=False),(by decide:(sItem=sRule)=False),(by decide:(sItem=sTick)=False),(by decide:(sItem=sMore)=False),(by decide:(sItem=sStep)=False),(by decide:(sItem=sAccount)=False)];try omega);clear HAL;go_wp2;go_ret;exact⟨by rw[HQ.out];rfl,HX.out⟩
      ·have HQ:Hid (aloneE si.n sr.n sItem a b 0=0):=iH (by show _=_;rw[HAL.out];rw[if_neg hbad];simp[namesOk,rangeK,isTwo,(by decide:(sItem=sKind)=False),(by decide:(sItem=sActor)=False),(by decide:(sItem=sRule)=False),(by decide:(sItem=sTick)=False),(by decide:(sItem=sMore)=False),(by decide:(sItem=sStep)=False),(by decide:(sItem=sAccount)=False)];try omega);clear HAL;go_wp2;go_ret;exact⟨by rw[HQ.out];rfl,HX.out⟩
    ·rw [decide_eq_false (by decide)] at qKind;rw[decide_eq_false (by decide)]at qActor;rw[decide_eq_false (by decide)]at qRule;rw[decide_eq_false (by decide)]at qTick;rw[decide_eq_false (by decide)]at qItem;rw[decide_eq_true rfl]at qMore;rw[decide_eq_false (by decide)]at qStep;rw[decide_eq_false (by decide)]at qAccount;by_cases h1:b<0
     ·have HQ:Hid (aloneE si.n sr.n sMore a b 0=6):=iH (by show _=_;rw[HAL.out];rw[if_neg hbad];simp[namesOk,rangeK,isTwo,(by decide:(sMore=sKind)=False),(by decide:(sMore=sActor)=False),(by decide:(sMore=sRule)=False),(by decide:(sMore=sTick)=False),(by decide:(sMore=sItem)=False),(by decide:(sMore=sStep)=False),(by decide:(sMore=sAccount)=False)];try omega);clear HAL;go_wp2;go_ret;exact⟨by rw[HQ.out];rfl,HX.out⟩
     ·by_cases h2:(si.n:Int)<=b
      ·have HQ:Hid (aloneE si.n sr.n sMore a b 0=6):=iH (by show _=_;rw[HAL.out];rw[if_neg hbad];simp[namesOk,rangeK,isTwo,(by decide:(sMore=sKind)=False),(by decide:(sMore=sActor)=False),(by decide:(sMore=sRule)=False),(by decide:(sMore=sTick)=False),(by decide:(sMore=sItem)=False),(by decide:(sMore=sStep)=False),(by decide:(sMore=sAccount)=False)];try omega);clear HAL;go_wp2;go_ret;exact⟨by rw[HQ.out];rfl,HX.out⟩
      ·by_cases h3:a<0
       ·have HQ:Hid (aloneE si.n sr.n sMore a b 0=5):=iH (by show _=_;rw[HAL.out];rw[if_neg hbad];simp[namesOk,rangeK,isTwo,(by decide:(sMore=sKind)=False),(by decide:(sMore=sActor)=False),(by decide:(sMore=sRule)=False),(by decide:(sMore=sTick)=False),(by decide:(sMore=sItem)=False),(by decide:(sMore=sStep)=False),(by decide:(sMore=sAccount)=False)];try omega);clear HAL;go_wp2;go_ret;exact⟨by rw[HQ.out];rfl,HX.out⟩
       ·by_cases h4:1099511627776<a
        ·have HQ:Hid (aloneE si.n sr.n sMore a b 0=5):=iH (by show _=_;rw[HAL.out];rw[if_neg hbad];simp[namesOk,rangeK,isTwo,(by decide:(sMore=sKind)=False),(by decide:(sMore=sActor)=False),(by decide:(sMore=sRule)=False),(by decide:(sMore=sTick)=False),(by decide:(sMore=sItem)=False),(by decide:(sMore=sStep)=False),(by decide:(sMore=sAccount)=False)];try omega);clear HAL;go_wp2;go_ret;exact⟨by rw[HQ.out];rfl,HX.out⟩
        ·have HQ:Hid (aloneE si.n sr.n sMore a b 0=0):=iH (by show _=_;rw[HAL.out];rw[if_neg hbad];simp[namesOk,rangeK,isTwo,(by decide:(sMore=sKind)=False),(by decide:(sMore=sActor)=False),(by decide:(sMore=sRule)=False),(by decide:(sMore=sTick)=False),(by decide:(sMore=sItem)=False),(by decide:(sMore=sStep)=False),(by decide:(sMore=sAccount)=False)];try omega);clear HAL;go_wp2;go_ret;exact⟨by rw[HQ.out];rfl,HX.out⟩
    ·rw [decide_eq_false (by decide)] at qKind;rw[decide_eq_false (by decide)]at qActor;rw[decide_eq_false (by decide)]at qRule;rw[decide_eq_false (by decide)]at qTick;rw[decide_eq_false (by decide)]at qItem;rw[decide_eq_false (by decide)]at qMore;rw[decide_eq_true rfl]at qStep;rw[decide_eq_false (by decide)]at qAccount;by_cases h1:a<0
     ·have HQ:Hid (aloneE si.n sr.n sStep a b 0=5):=iH (by show _=_;rw[HAL.out];rw[if_neg hbad];simp[namesOk,rangeK,isTwo,(by decide:(sStep=sKind)=False),(by decide:(sStep=sActor)=False),(by decide:(sStep=sRule)=False),(by decide:(sStep=sTick)=False),(by decide:(sStep=sItem)=False),(by decide:(sStep=sMore)=False),(by decide:(sStep=sAccount)=False)];try omega);clear HAL;go_wp2;go_ret;exact⟨by rw[HQ.out];rfl,HX.out⟩
     ·by_cases h2:1099511627776<a
      ·have HQ:Hid (aloneE si.n sr.n sStep a b 0=5):=iH (by show _=_;rw[HAL.out];rw[if_neg hbad];simp[namesOk,rangeK,isTwo,(by decide:(sStep=sKind)=False),(by decide:(sStep=sActor)=False),(by decide:(sStep=sRule)=False),(by decide:(sStep=sTick)=False),(by decide:(sStep=sItem)=False),(by decide:(sStep=sMore)=False),(by decide:(sStep=sAccount)=False)];try omega);clear HAL;go_wp2;go_ret;exact⟨by rw[HQ.out];rfl,HX.out⟩
      ·by_cases h3:b<a
       ·have HQ:Hid (aloneE si.n sr.n sStep a b 0=5):=iH (by show _=_;rw[HAL.out];rw[if_neg hbad];simp[namesOk,rangeK,isTwo,(by decide:(sStep=sKind)=False),(by decide:(sStep=sActor)=False),(by decide:(sStep=sRule)=False),(by decide:(sStep=sTick)=False),(by decide:(sStep=sItem)=False),(by decide:(sStep=sMore)=False),(by decide:(sStep=sAccount)=False)];try omega);clear HAL;go_wp2;go_ret;exact⟨by rw[HQ.out];rfl,HX.out⟩
       ·by_cases h4:1099511627776<b
        ·have HQ:Hid (aloneE si.n sr.n sStep a b 0=5):=iH (by show _=_;rw[HAL.out];rw[if_neg hbad];simp[namesOk,rangeK,isTwo,(by decide:(sStep=sKind)=False),(by decide:(sStep=sActor)=False),(by decide:(sStep=sRule)=False),(by decide:(sStep=sTick)=False),(by decide:(sStep=sItem)=False),(by decide:(sStep=sMore)=False),(by decide:(sStep=sAccount)=False)];try omega);clear HAL;go_wp2;go_ret;exact⟨by rw[HQ.out];rfl,HX.out⟩
        ·have HQ:Hid (aloneE si.n sr.n sStep a b 0=0):=iH (by show _=_;rw[HAL.out];rw[if_neg hbad];simp[namesOk,rangeK,isTwo,(by decide:(sStep=sKind)=False),(by decide:(sStep=sActor)=False),(by decide:(sStep=sRule)=False),(by decide:(sStep=sTick)=False),(by decide:(sStep=sItem)=False),(by decide:(sStep=sMore)=False),(by decide:(sStep=sAccount)=False)];try omega);clear HAL;go_wp2;go_ret;exact⟨by rw[HQ.out];rfl,HX.out⟩
    ·rw[decide_eq_false (by decide)]at qKind;rw[decide_eq_false (by decide)]at qActor;rw[decide_eq_false (by decide)]at qRule;rw[decide_eq_false (by decide)]at qTick;rw[decide_eq_false (by decide)]at qItem;rw[decide_eq_false (by decide)]at qMore;rw[decide_eq_false (by decide)]at qStep;rw[decide_eq_true rfl]at qAccount;by_cases h1:a<0
     ·have HQ:Hid (aloneE si.n sr.n sAccount a b 0=5):=iH (by show _=_;rw[HAL.out];rw[if_neg hbad];simp[namesOk,rangeK,isTwo,(by decide:(sAccount=sKind)=False),(by decide:(sAccount=sActor)=False),(by decide:(sAccount=sRule)=False),(by decide:(sAccount=sTick)=False),(by decide:(sAccount=sItem)=False),(by decide:(sAccount=sMore)=False),(by decide:(sAccount=sStep)=False)];try omega);clear HAL;go_wp2;go_ret;exact⟨by rw[HQ.out];rfl,HX.out⟩
     ·by_cases h2:1073741824<a
      ·have HQ:Hid (aloneE si.n sr.n sAccount a b 0=5):=iH (by show _=_;rw[HAL.out];rw[if_neg hbad];simp[namesOk,rangeK,isTwo,(by decide:(sAccount=sKind)=False),(by decide:(sAccount=sActor)=False),(by decide:(sAccount=sRule)=False),(by decide:(sAccount=sTick)=False),(by decide:(sAccount=sItem)=False),(by decide:(sAccount=sMore)=False),(by decide:(sAccount=sStep)=False)];try omega);clear HAL;go_wp2;go_ret;exact⟨by rw[HQ.out];rfl,HX.out⟩
      ·have HQ:Hid (aloneE si.n sr.n sAccount a b 0=0):=iH (by show _=_;rw[HAL.out];rw[if_neg hbad];simp[namesOk,rangeK,isTwo,(by decide:(sAccount=sKind)=False),(by decide:(sAccount=sActor)=False),(by decide:(sAccount=sRule)=False),(by decide:(sAccount=sTick)=False),(by decide:(sAccount=sItem)=False),(by decide:(sAccount=sMore)=False),(by decide:(sAccount=sStep)=False)];try omega);clear HAL;go_wp2;go_ret;exact⟨by rw[HQ.out];rfl,HX.out⟩
end Go.Proofs.YtocodlpgaamblaaGreatDoor
