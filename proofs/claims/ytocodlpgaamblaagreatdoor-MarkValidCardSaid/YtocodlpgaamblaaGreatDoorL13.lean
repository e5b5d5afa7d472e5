/- The writer writes a mark. Valid. Print. reading.Try: the panic of a token that does not fit is recovered. Try, Parse. Parse. Matches, Steps. -/
import Derived.Test.YtocodlpgaamblaaGreatDoorL5
import Derived.Test.YtocodlpgaamblaaGreatDoorL7
import Derived.Test.YtocodlpgaamblaaGreatDoorL8
import Derived.Test.YtocodlpgaamblaaGreatDoorL11
import Derived.Test.YtocodlpgaamblaaGreatDoorL12
import Derived.Defers
import Derived.Recover
import Derived.Laws.Pointers
set_option linter.unusedVariables false
set_option linter.unusedSimpArgs false
set_option maxRecDepth 100000
set_option maxHeartbeats 4000000
open Go.RowKit
namespace Go.Proofs.YtocodlpgaamblaaGreatDoor
def WriteS (its rus:Sl) (it rn:List ByteArray) (m:MkM):Prop:=∀(w:World) (B wb:Nat) (bs:List UInt8) (fit:Bool) (P:Nat->Prop),m.Ok w 49 P->m.core.check it.length rn.length=0->WCtx w B its rus it rn->WrAt w B wb bs its rus fit->bs.length+(Mk.text rn it m.core).length<=1000000 ->
 Calls Tryz.prog 52 #[.pointer (some ⟨wb,0,none⟩),.agg #[.string m.op,.int .i64 m.a,.int .i64 m.b,.slice m.s.A m.s.n m.s.c]] w (Wrote w B wb bs its rus fit (Mk.text rn it m.core) (Mk.named rn it m.core))
theorem core_op (m:MkM):m.core.op=m.op:=by cases m;rfl
theorem kid_writes {W:World} {B wb:Nat} {bs:List UInt8} {its rus:Sl} {it rn:List ByteArray} {fit:Bool} {P:Nat->Prop} (o:ByteArray) (m:MkM) (ih:WriteS its rus it rn m) (h:m.Ok W 49 P) (hc:m.core.check it.length rn.length=0) (hC:WCtx W B its rus it rn) (hW:WrAt W B wb bs its rus fit)
 (hlen:bs.length+(wrapT (parT o m.op) (Mk.text rn it m.core)).length<=1000000):Calls Tryz.prog 80 #[.pointer (some ⟨wb,0,none⟩),.string o,.agg #[.string m.op,.int .i64 m.a,.int .i64 m.b,.slice m.s.A m.s.n m.s.c]] W (Wrote W B wb bs its rus fit (wrapT (parT o m.op) (Mk.text rn it m.core)) (Mk.named rn it m.core)):=by
 have H0:=iH (WSt.start hC hW m.op m.a m.b m.s);have H:=iH h;have HI:=iH ih;have HC:=iH hc;have q1:(m.op.toList == [97,110,100])=decide (m.op=sAnd):=by rw[<- lAnd];exact eqL _ _
 have q2:(m.op.toList == [111,114])=decide (m.op=sOr):=by rw[<- lOr];exact eqL _ _
 have q3:(o.toList == [110,111,116])=decide (o=sNot):=by rw[<- lNot];exact eqL _ _
 have q4:(o.toList == m.op.toList)=decide (o=m.op):=eqL _ _;have q5:(o.toList == [97,110,100])=decide (o=sAnd):=by rw[<- lAnd];exact eqL _ _
 have hp:parT o m.op=((decide (m.op=sAnd) || decide (m.op=sOr)) && (decide (o=sNot) || decide (o=m.op) || decide (o=sAnd))):=rfl;have b0:(W.alloc (.cells #[.string m.op,.int .i64 m.a,.int .i64 m.b,.slice m.s.A m.s.n m.s.c] 49)).cell? ⟨W.heap.size,0,none⟩=some (.string m.op):=H0.out.bx.cell 0;generalize decide (m.op=sAnd)=p1 at *;generalize decide (m.op=sOr)=p2 at *;generalize decide (o=sNot)=p3 at *;generalize decide (o=m.op)=p4 at *;generalize decide (o=sAnd)=p5 at *;generalize hpp:parT o m.op=pp at *;clear h hc hC hW ih hpp;have HLEN:=iH hlen;clear hlen;have hYes:pp=true->Hid (∀w1:World,WSt W w1 B wb W.heap.size [.string m.op,.int .i64 m.a,.int .i64 m.b,.slice m.s.A m.s.n m.s.c] (bs ++ (⟨#[40]⟩:ByteArray).data.toList) its rus it rn fit->Calls Tryz.prog 52 #[.pointer (some ⟨wb,0,none⟩),.agg #[.string m.op,.int .i64 m.a,.int .i64 m.b,.slice m.s.A m.s.n m.s.c]] w1 (Wrote w1 B wb (bs ++ (⟨#[40]⟩:ByteArray).data.toList) its rus fit (Mk.text rn it m.core) (Mk.named rn it m.core))):=fun e=>iH fun w1 h1 =>
  HI.out w1 B wb _ fit P (H.out.keep (h1.gr.keep 49 (by decide) (by decide))) HC.out h1.ctx h1.wr (by
   have:=HLEN.out
   rw[e]at this
   simp only[wrapT,if_true,List.length_append,List.length_cons,List.length_nil]at this
   simp
   omega)
 have hLp:pp=true->Hid (bs.length+(⟨#[40]⟩:ByteArray).size<=1000000∧((bs ++ (⟨#[40]⟩:ByteArray).data.toList) ++ Mk.text rn it m.core).length+(⟨#[41]⟩:ByteArray).size<=1000000):=fun e=>iH (by
  have:=HLEN.out
  rw[e]at this
  simp only[wrapT,if_true,List.length_append,List.length_cons,List.length_nil]at this
  refine⟨?_,?_⟩
  ·show bs.length+1<=_;omega
  ·simp only[List.length_append];show bs.length+1+_+1<=_;omega)
 have hNo:pp=false->Hid (Calls Tryz.prog 52 #[.pointer (some ⟨wb,0,none⟩),.agg #[.string m.op,.int .i64 m.a,.int .i64 m.b,.slice m.s.A m.s.n m.s.c]] (W.alloc (.cells #[.string m.op,.int .i64 m.a,.int .i64 m.b,.slice m.s.A m.s.n m.s.c] 49)) (Wrote (W.alloc (.cells #[.string m.op,.int .i64 m.a,.int .i64 m.b,.slice m.s.A m.s.n m.s.c] 49)) B wb bs its rus fit (Mk.text rn it m.core) (Mk.named rn it m.core))):=fun e=>iH
  (HI.out _ B wb _ fit P (H.out.keep (H0.out.gr.keep 49 (by decide) (by decide))) HC.out H0.out.ctx H0.out.wr (by
   have:=HLEN.out
   rw[e]at this
   simpa[wrapT]using this))
 clear HLEN HI H HC;cases pp
 ·have KN:=hNo rfl;clear hYes hLp hNo;generalize Mk.text rn it m.core=tx at *;generalize Mk.named rn it m.core=nd at *;rcases Bool.eq_false_or_eq_true p1 with hp1|hp1 <;> rcases Bool.eq_false_or_eq_true p2 with hp2|hp2 <;> rcases Bool.eq_false_or_eq_true p3 with hp3|hp3 <;> rcases Bool.eq_false_or_eq_true p4 with hp4|hp4 <;> rcases Bool.eq_false_or_eq_true p5 with hp5|hp5 <;> subst hp1 hp2 hp3 hp4 hp5 <;> first
   | (exact absurd hp (by decide))
   | (clear hp
      go_enter Tryz.func80,Tryz.ntmps80
      go_wp2_with fail
      (with_reducible refine KN.out.mono ?_)
      rintro e w1 ⟨rfl,hw,hg⟩
      have HW:=iH hw
      have HG:=iH (H0.out.gr.trans hg)
      clear KN hw hg
      go_wp2
      go_end0
      exact⟨rfl,HW.out,HG.out⟩)
 ·have KY:=hYes rfl;have KL:=hLp rfl;clear hYes hLp hNo;generalize Mk.text rn it m.core=tx at *;generalize Mk.named rn it m.core=nd at *;rcases Bool.eq_false_or_eq_true p1 with hp1|hp1 <;> rcases Bool.eq_false_or_eq_true p2 with hp2|hp2 <;> rcases Bool.eq_false_or_eq_true p3 with hp3|hp3 <;> rcases Bool.eq_false_or_eq_true p4 with hp4|hp4 <;> rcases Bool.eq_false_or_eq_true p5 with hp5|hp5 <;> subst hp1 hp2 hp3 hp4 hp5 <;> first
   | (exact absurd hp (by decide))
   | (clear hp
      have K:=iH (H0.out.write _ KL.out.1)
      go_enter Tryz.func80,Tryz.ntmps80
      go_wp2_with fail
      (with_reducible refine K.out.mono ?_)
      rintro e w1 ⟨rfl,hw,_⟩
      have H1:=iH hw
      have c0:=hw.bx.k0
      have c1:=hw.bx.k1
      have c2:=hw.bx.k2
      have c3:=hw.bx.k3
      have cl:=hw.bx.lt
      have K2:=iH (KY.out w1 hw)
      clear K hw b0
      go_wp2_with fail
      (with_reducible refine K2.out.mono ?_)
      rintro e w2 ⟨rfl,hw,hg⟩
      have H2:=iH (H1.out.go hw hg)
      clear K2 hw hg c0 c1 c2 c3 cl
      have K3:=iH (H2.out.write _ KL.out.2)
      go_wp2_with fail
      (with_reducible refine K3.out.mono ?_)
      rintro e w3 ⟨rfl,hw,_⟩
      have H3:=iH hw
      clear K3 hw
      go_wp2
      go_end0
      refine⟨rfl,?_,H3.out.gr⟩
      have:=H3.out.wr
      simpa[wrapT,List.append_assoc]using this)
theorem kid_bound {rn it:List ByteArray} {o:ByteArray} {ks:List Mk} {k:Mk} {f:Bool} (h:k∈ks):(wrapT (parT o k.op) (Mk.text rn it k)).length<=(Mk.textL rn it o f ks).length:=by
 induction ks generalizing f with
 | nil=>cases h
 | cons x xs ih =>
   simp only[Mk.textL,List.length_append];rcases List.mem_cons.1 h with rfl|h
   ·omega
   ·have:=ih (f:=false) h;omega
theorem textL_take {rn it:List ByteArray} {o:ByteArray} (ks:List Mk) (k:Nat) (h:k<ks.length):Mk.textL rn it o true (ks.take (k+1))=Mk.textL rn it o true (ks.take k) ++ (sepT o (k == 0) ++ wrapT (parT o ks[k].op) (Mk.text rn it ks[k])):=by
 rw[List.take_succ_eq_append_getElem h,textL_snoc];have:(true && (ks.take k).isEmpty)=(k == 0):=by
  cases k with
  | zero=>rfl
  | succ k => cases ks with
    | nil=>simp at h
    | cons x xs=>rfl
 rw[this]
theorem textL_le {rn it:List ByteArray} {o:ByteArray} (ks:List Mk) (k:Nat):(Mk.textL rn it o true (ks.take k)).length<=(Mk.textL rn it o true ks).length:=by
 have h:∀(l m:List Mk) f,(Mk.textL rn it o f l).length<=(Mk.textL rn it o f (l ++ m)).length:=by
  intro l m
  induction l with
  | nil=>intro f;simp[Mk.textL]
  | cons x xs ih=>intro f;simp only[Mk.textL,List.cons_append,List.length_append];have:=ih false;omega
 have:=h (ks.take k) (ks.drop k) true
 rwa [List.take_append_drop]at this
theorem namedL_take {rn it:List ByteArray} (ks:List Mk) (k:Nat) (h:k<ks.length):Mk.namedL rn it (ks.take (k+1))=(Mk.namedL rn it (ks.take k) && Mk.named rn it ks[k]):=by
 rw[List.take_succ_eq_append_getElem h,namedL_snoc]
theorem join_writes {W:World} {B wb:Nat} {bs:List UInt8} {its rus:Sl} {it rn:List ByteArray} {fit:Bool} {P:Nat->Prop} {op:ByteArray} {a b:Int} {l:List MkM} {s:Sl} (h:MkM.Ok W 49 P ⟨op,a,b,l,s⟩) (ho:op=sAnd∨op=sOr) (ih:∀t∈l,WriteS its rus it rn t) (hc:∀t∈l,t.core.check it.length rn.length=0) (hC:WCtx W B its rus it rn) (hW:WrAt W B wb bs its rus fit)
 (hlen:bs.length+(Mk.textL rn it op true (l.map MkM.core)).length<=1000000):Calls Tryz.prog 52 #[.pointer (some ⟨wb,0,none⟩),.agg #[.string op,.int .i64 a,.int .i64 b,.slice s.A s.n s.c]] W (Wrote W B wb bs its rus fit (Mk.textL rn it op true (l.map MkM.core)) (Mk.namedL rn it (l.map MkM.core))):=by
 have H0:=iH (WSt.start hC hW op a b s);have H:=iH h;have Hn:=iH h.len;have hs:=h.small;have HI:=iH ih;have HC:=iH hc;have HLEN:=iH hlen;have hos:op.size<=3:=by rcases ho with rfl | rfl <;> decide
 have b0:(W.alloc (.cells #[.string op,.int .i64 a,.int .i64 b,.slice s.A s.n s.c] 49)).cell? ⟨W.heap.size,0,none⟩=some (.string op):=H0.out.bx.cell 0;have b3:(W.alloc (.cells #[.string op,.int .i64 a,.int .i64 b,.slice s.A s.n s.c] 49)).cell? ⟨W.heap.size,3,none⟩=some (.slice s.A s.n s.c):=H0.out.bx.cell 3;obtain⟨A,n,c⟩:=s;dsimp only at *;have hway:(op.toList == [97,110,100])=true∨((op.toList == [97,110,100])=false∧(op.toList == [111,114])=true):=by
  rcases ho with rfl|rfl
  ·left;rw[lAnd];rfl
  ·right;rw[lOr];exact⟨rfl,rfl⟩
 clear h ih hc hC hW hlen ho;rcases hway with q1|⟨q1,q2⟩
 all_goals
  go_enter Tryz.func52,Tryz.ntmps52;go_wp2_with fail;go_loopw [14] (fun i wr=>∃k:Nat,k<=n∧i=.int .i64 k∧WSt W wr B wb W.heap.size [.string op,.int .i64 a,.int .i64 b,.slice A n c] (bs ++ Mk.textL rn it op true ((l.map MkM.core).take k)) its rus it rn (fit && Mk.namedL rn it ((l.map MkM.core).take k))) (fun i _=>n-(intOf i).toNat)
  case atStart=>exact⟨0,Nat.zero_le _,rfl,by simpa[Mk.textL,Mk.namedL]using H0.out⟩
  case round =>
   obtain⟨k,hk,rfl,hst⟩:=hrel;by_cases hlt:k<n
   ·have hkl:k<l.length:=by have:=Hn.out;omega
    have hkm:k<(l.map MkM.core).length:=by simpa using hkl
    have h49:Keep 49 W wr:=hst.gr.keep 49 (by decide) (by decide);obtain⟨bb,off,rfl,hbb,c0,c1,c2,c3⟩:=(H.out.keep h49).at_ k hkl;dsimp only[MkM.ks,MkM.s]at c0 c1 c2 c3;have hmem:=List.getElem_mem hkl;have hgm:(l.map MkM.core)[k]=l[k].core:=by simp
    have HT:Hid (Mk.textL rn it op true ((l.map MkM.core).take (k+1))=Mk.textL rn it op true ((l.map MkM.core).take k) ++ (sepT op (k == 0) ++ wrapT (parT op l[k].op) (Mk.text rn it l[k].core))):=by
     show _=_;rw[textL_take _ k hkm,hgm,core_op]
    have HN:Hid (Mk.namedL rn it ((l.map MkM.core).take (k+1))=(Mk.namedL rn it ((l.map MkM.core).take k) && Mk.named rn it l[k].core)):=by
     show _=_;rw[namedL_take _ k hkm,hgm]
    have hbd:bs.length+(Mk.textL rn it op true ((l.map MkM.core).take k)).length+((sepT op (k == 0)).length+(wrapT (parT op l[k].op) (Mk.text rn it l[k].core)).length)<=1000000:=by
     have h1:=textL_le (rn:=rn) (it:=it) (o:=op) (l.map MkM.core) (k+1);rw[HT.out]at h1;simp only[List.length_append]at h1;have:=HLEN.out;omega
    have HBD:=iH hbd;have y2:Below wr.heap.size wr (wr.alloc (.cells #[.string l[k].op,.int .i64 l[k].a,.int .i64 l[k].b,.slice l[k].s.A l[k].s.n l[k].s.c] 49)):=(Below.refl _ _).alloc (Nat.le_refl _) _;have HA:=iH (hst.below y2);have HKB:=iH (Bk.new wr 49 [.string l[k].op,.int .i64 l[k].a,.int .i64 l[k].b,.slice l[k].s.A l[k].s.n l[k].s.c]);have HIK:=iH (HI.out _ hmem);have HOK:=iH (H.out.each _ hmem);have HCK:=iH (HC.out _ hmem);have HWL:=iH hst.bx.lt;clear hmem hgm hbd hst h49 y2 hkm;generalize Mk.textL rn it op true ((l.map MkM.core).take k)=tb at *;generalize Mk.namedL rn it ((l.map MkM.core).take k)=nb at *
    try dsimp only[MkM.ks]at HOK
    generalize l[k]=t at *;clear hkl;by_cases hk0:k=0
    ·subst hk0;simp only[Nat.zero_mul,Nat.add_zero]at c0 c1 c2 c3;have b0':(wr.alloc (.cells #[.string t.op,.int .i64 t.a,.int .i64 t.b,.slice t.s.A t.s.n t.s.c] 49)).cell? ⟨W.heap.size,0,none⟩=some (.string op):=HA.out.bx.cell 0;have kw:W.heap.size<wr.heap.size:=HWL.out;have HC2:=iH (kid_writes op t HIK.out (HOK.out.keep (HA.out.gr.keep 49 (by decide) (by decide))) HCK.out HA.out.ctx HA.out.wr (by have:=HBD.out;simp only[List.length_append];omega));have hT0:Hid (bs ++ Mk.textL rn it op true ((l.map MkM.core).take (0+1))=(bs ++ tb) ++ wrapT (parT op t.op) (Mk.text rn it t.core)):=by show _=_;rw[HT.out];simp[sepT]
     go_wp2_with fail;(with_reducible refine HC2.out.mono ?_);rintro e w3 ⟨rfl,hw,hg⟩;have H3:=iH (HA.out.go hw hg);clear HC2 hw hg b0';go_wp2_with fail;go_roundw
     case rel=>exact⟨1,by omega,by go_num,by rw[hT0.out,HN.out,<- Bool.and_assoc];exact H3.out⟩
     case measure=>simp[intOf];omega
    ·have hkp:(0:Int)<(k:Int):=by omega
     have hL1:Hid ((bs ++ tb).length+((⟨#[32]⟩:ByteArray) ++ op ++ (⟨#[32]⟩:ByteArray)).size<=1000000):=by
      show _<=_;have:=HBD.out;have hk1:(k == 0)=false:=by simpa using hk0
      rw[hk1]at this;have h2:(sepT op false).length=((⟨#[32]⟩:ByteArray) ++ op ++ (⟨#[32]⟩:ByteArray)).data.toList.length:=by simp[sepT]
      have h3:((⟨#[32]⟩:ByteArray) ++ op ++ (⟨#[32]⟩:ByteArray)).data.toList.length=((⟨#[32]⟩:ByteArray) ++ op ++ (⟨#[32]⟩:ByteArray)).size:=Array.length_toList;rw[List.length_append];omega
     have hT1:Hid (bs ++ Mk.textL rn it op true ((l.map MkM.core).take (k+1))=((bs ++ tb) ++ ((⟨#[32]⟩:ByteArray) ++ op ++ (⟨#[32]⟩:ByteArray)).data.toList) ++ wrapT (parT op t.op) (Mk.text rn it t.core)):=by
      show _=_;have hk1:(k == 0)=false:=by simpa using hk0
      rw[HT.out,hk1];simp[sepT]
     have hL2:Hid (((bs ++ tb) ++ ((⟨#[32]⟩:ByteArray) ++ op ++ (⟨#[32]⟩:ByteArray)).data.toList).length+(wrapT (parT op t.op) (Mk.text rn it t.core)).length<=1000000):=by
      show _<=_;have:=HBD.out;have hk1:(k == 0)=false:=by simpa using hk0
      rw[hk1]at this;have h2:(sepT op false).length=((⟨#[32]⟩:ByteArray) ++ op ++ (⟨#[32]⟩:ByteArray)).data.toList.length:=by simp[sepT]
      rw[List.length_append,List.length_append];omega
     go_wp2_with fail;refine wp_region_X (fun w'=>Bk w' W.heap.size 49 [.string op,.int .i64 a,.int .i64 b,.slice (some ⟨bb,off,none⟩) n c]) 8 (n:=8) rfl (by kernel_rfl) (HA.out.drew.bx) (fun hS=>?_);refine tU 0 (some 21) (v:=?_) rfl ⟨rfl,?_⟩ hS ?_;rotate_left
     ·intro w' hS';(go_simp;try with_reducible rfl)
     refine tU 1 (some 22) (v:=?_) rfl ⟨rfl,?_⟩ hS ?_;rotate_left
     ·intro w' hS';(go_simp;try with_reducible rfl)
     refine tU 2 (some 23) (v:=?_) rfl ⟨rfl,?_⟩ hS ?_;rotate_left
     ·intro w' hS';(go_simp;try with_reducible rfl)
     refine tU 3 (some 24) (v:=?_) rfl ⟨rfl,?_⟩ hS ?_;rotate_left
     ·intro w' hS';(go_simp;try with_reducible rfl)
     refine tU 4 (some 25) (v:=?_) rfl ⟨rfl,?_⟩ hS ?_;rotate_left
     ·intro w' hS';have e0:=hS'.k0;have e1:=hS'.k1;have e2:=hS'.k2;have e3:=hS'.k3;have el:=hS'.lt;(go_simp;try with_reducible rfl)
     refine tU 5 (some 26) (v:=?_) rfl ⟨rfl,?_⟩ hS ?_;rotate_left
     ·intro w' hS';have ez:¬ 9223372036854775807<1+op.size:=Nat.not_lt.2 (Nat.le_trans (Nat.add_le_add_left hos 1) (by decide));(go_simp;try with_reducible rfl)
     refine tU 6 (some 27) (v:=?_) rfl ⟨rfl,?_⟩ hS ?_;rotate_left
     ·intro w' hS';have ez:¬ 9223372036854775807<1+op.size+1:=Nat.not_lt.2 (Nat.le_trans (Nat.succ_le_succ (Nat.add_le_add_left hos 1)) (by decide));(go_simp;try with_reducible rfl)
     refine X_o 7 rfl fun K hK=>?_;go_simp;have K:=iH (HA.out.drew.write _ hL1.out);(with_reducible refine K.out.mono ?_);rintro e w2 ⟨rfl,hw,hg⟩;have Hw2:=iH hw;have HKB2:=iH (HKB.out.drew.keep (hg.keep 49 (by decide) (by decide)));refine hK _ _ Hw2.out.bx ?_;clear hK K hw hg;refine X_done (by kernel_rfl) ?_;clear hL1 hS;have b0':w2.cell? ⟨W.heap.size,0,none⟩=some (.string op):=Hw2.out.bx.cell 0;have kw:W.heap.size<w2.heap.size:=Hw2.out.bx.lt;have k0:=HKB2.out.k0;have k1:=HKB2.out.k1;have k2:=HKB2.out.k2;have k3:=HKB2.out.k3;have kl:=HKB2.out.lt;have HC2:=iH (kid_writes op t HIK.out (HOK.out.keep (Hw2.out.gr.keep 49 (by decide) (by decide))) HCK.out Hw2.out.ctx Hw2.out.wr hL2.out);go_wp2_with fail;(with_reducible refine HC2.out.mono ?_);rintro e w3 ⟨rfl,hw,hg⟩;have H3:=iH (Hw2.out.go hw hg);clear HC2 hw hg b0' k0 k1 k2 k3 kl kw;go_wp2_with fail;go_roundw
     case rel=>exact⟨k+1,by omega,by go_num,by rw[hT1.out,HN.out,<- Bool.and_assoc];exact H3.out⟩
     case measure=>simp[intOf];omega
   ·have hkn:k=n:=by omega
    have hTk:(l.map MkM.core).take k=l.map MkM.core:=List.take_of_length_le (by have:=Hn.out;simp;omega);rw[hTk]at hst;have HST:=iH hst;clear hst hkn hTk;go_wp2
    go_end0
    exact⟨rfl,HST.out.wr,HST.out.gr⟩
theorem not_writes {W:World} {B wb:Nat} {bs:List UInt8} {its rus:Sl} {it rn:List ByteArray} {fit:Bool} {P:Nat->Prop} {a b:Int} {t:MkM} {s:Sl} (h:MkM.Ok W 49 P ⟨sNot,a,b,[t],s⟩) (ih:WriteS its rus it rn t) (hc:t.core.check it.length rn.length=0) (hC:WCtx W B its rus it rn) (hW:WrAt W B wb bs its rus fit)
 (hlen:bs.length+([110,111,116,32] ++ wrapT (parT sNot t.op) (Mk.text rn it t.core)).length<=1000000):Calls Tryz.prog 52 #[.pointer (some ⟨wb,0,none⟩),.agg #[.string sNot,.int .i64 a,.int .i64 b,.slice s.A s.n s.c]] W (Wrote W B wb bs its rus fit ([110,111,116,32] ++ wrapT (parT sNot t.op) (Mk.text rn it t.core)) (Mk.named rn it t.core)):=by
 obtain⟨op,hop⟩:∃op,op=sNot:=⟨_,rfl⟩;rw[<- hop]at h hlen⊢;have q1:(op.toList == [97,110,100])=false:=by rw[hop,lNot];rfl
 have q2:(op.toList == [111,114])=false:=by rw[hop,lNot];rfl
 have q3:(op.toList == [110,111,116])=true:=by rw[hop,lNot];rfl
 have H0:=iH (WSt.start hC hW op a b s);have hn1:s.n=1:=h.len;obtain⟨A,n,c⟩:=s;dsimp only at hn1;subst hn1;obtain⟨bb,off,hA,hbb,d0,d1,d2,d3⟩:=h.at_ 0 (by simp);dsimp only[MkM.ks,MkM.s]at hA d0 d1 d2 d3;subst hA;simp only[Nat.zero_mul,Nat.add_zero,List.getElem_cons_zero]at d0 d1 d2 d3;have b0:(W.alloc (.cells #[.string op,.int .i64 a,.int .i64 b,.slice (some ⟨bb,off,none⟩) 1 c] 49)).cell? ⟨W.heap.size,0,none⟩=some (.string op):=H0.out.bx.cell 0;have hlt2:bb<W.heap.size:=by
  rcases h.row with h0|⟨b',off',cur,fl,hA',_,hb',_⟩
  ·have hl:=congrArg List.length h0;rw[mcells_len]at hl;simp at hl
  ·cases hA';exact(Array.getElem?_eq_some_iff.1 hb').1
 have HD1:Hid (∀U,Keep 49 W U->W.heap.size<=U.heap.size->(U.cell? ⟨bb,off,none⟩=some (.string t.op)∧U.cell? ⟨bb,off+1,none⟩=some (.int .i64 t.a)∧U.cell? ⟨bb,off+2,none⟩=some (.int .i64 t.b)∧U.cell? ⟨bb,off+3,none⟩=some (.slice t.s.A t.s.n t.s.c))∧bb<U.heap.size):=iH fun U hU hz=>by
  obtain⟨bb',off',hA',hbb',f0,f1,f2,f3⟩:=(h.keep hU).at_ 0 (by simp);dsimp only[MkM.ks,MkM.s]at hA' f0 f1 f2 f3;cases hA';simp only[Nat.zero_mul,Nat.add_zero,List.getElem_cons_zero]at f0 f1 f2 f3;exact⟨⟨f0,f1,f2,f3⟩,hbb'⟩
 have HOK:=iH (h.each t (by simp));have HLEN:=iH hlen;have HI:=iH ih;have HCK:=iH hc;have hLn:Hid (bs.length+(⟨#[110,111,116,32]⟩:ByteArray).size<=1000000):=by
  show _<=_;have:=HLEN.out;simp only[List.length_append,List.length_cons,List.length_nil]at this;show bs.length+4<=_;omega
 have hLk:Hid ((bs ++ (⟨#[110,111,116,32]⟩:ByteArray).data.toList).length+(wrapT (parT op t.op) (Mk.text rn it t.core)).length<=1000000):=by
  show _<=_;have:=HLEN.out;simp only[List.length_append,List.length_cons,List.length_nil]at this⊢;omega
 clear h hC hW ih hc hlen hop d0 d1 d2 d3 HLEN hbb;have K:=iH (H0.out.write _ hLn.out);go_enter Tryz.func52,Tryz.ntmps52;go_wp2_with fail;(with_reducible refine K.out.mono ?_);rintro e w1 ⟨rfl,hw,_⟩;have Hw1:=iH hw;have HD:=iH (HD1.out w1.drew (hw.drew.gr.keep 49 (by decide) (by decide)) hw.drew.gr.size);have HD2:Hid (∀U,GrW B w1.drew U->_):=iH fun U hU=>HD1.out U ((Hw1.out.drew.gr.trans hU).keep 49 (by decide) (by decide)) (Hw1.out.drew.gr.trans hU).size
 have HC:=iH (kid_writes op t HI.out (HOK.out.keep (hw.drew.gr.keep 49 (by decide) (by decide))) HCK.out hw.drew.ctx hw.drew.wr hLk.out);clear K hw b0;go_wp2;refine wp_region_X (fun w'=>Bk w' W.heap.size 49 [.string op,.int .i64 a,.int .i64 b,.slice (some ⟨bb,off,none⟩) 1 c]∧((w'.cell? ⟨bb,off,none⟩=some (.string t.op)∧w'.cell? ⟨bb,off+1,none⟩=some (.int .i64 t.a)∧w'.cell? ⟨bb,off+2,none⟩=some (.int .i64 t.b)∧w'.cell? ⟨bb,off+3,none⟩=some (.slice t.s.A t.s.n t.s.c))∧bb<w'.heap.size)) 8 (n:=8) rfl (by kernel_rfl) (⟨Hw1.out.drew.bx,HD.out⟩) (fun hS=>?_);refine tU 0 (some 41) (v:=?_) rfl ⟨rfl,?_⟩ hS ?_;rotate_left
 ·intro w' hS';(go_simp;try with_reducible rfl)
 refine tU 1 (some 42) (v:=?_) rfl ⟨rfl,?_⟩ hS ?_;rotate_left
 ·intro w' hS';(go_simp;try with_reducible rfl)
 refine tU 2 (some 43) (v:=?_) rfl ⟨rfl,?_⟩ hS ?_;rotate_left
 ·intro w' hS';have e0:=hS'.1.k0;have e1:=hS'.1.k1;have e2:=hS'.1.k2;have e3:=hS'.1.k3;have el:=hS'.1.lt;(go_simp;try with_reducible rfl)
 refine tU 3 (some 44) (v:=?_) rfl ⟨rfl,?_⟩ hS ?_;rotate_left
 ·intro w' hS';(go_simp;try with_reducible rfl)
 refine tU 4 (some 45) (v:=?_) rfl ⟨rfl,?_⟩ hS ?_;rotate_left
 ·intro w' hS';have e0:=hS'.1.k0;have e1:=hS'.1.k1;have e2:=hS'.1.k2;have e3:=hS'.1.k3;have el:=hS'.1.lt;(go_simp;try with_reducible rfl)
 refine tU 5 (some 46) (v:=?_) rfl ⟨rfl,?_⟩ hS ?_;rotate_left
 ·intro w' hS';(go_simp;try with_reducible rfl)
 refine tU 6 (some 47) (v:=?_) rfl ⟨rfl,?_⟩ hS ?_;rotate_left
 ·intro w' hS';have e0:=hS'.2.1.1;have e1:=hS'.2.1.2.1;have e2:=hS'.2.1.2.2.1;have e3:=hS'.2.1.2.2.2;have el:=hS'.2.2;(go_simp;try with_reducible rfl)
 refine X_o 7 rfl fun K hK=>?_;go_simp;(with_reducible refine HC.out.mono ?_);rintro e w2 ⟨rfl,hw,hg⟩;have HW2:=iH hw;have HG2:=iH hg;refine hK _ _ ⟨Hw1.out.drew.bx.keep (hg.keep 49 (by decide) (by decide)),HD2.out _ hg⟩ ?_;clear hK hw hg;refine X_done (by kernel_rfl) ?_;go_wp2
 go_end0
 refine⟨rfl,?_,Hw1.out.drew.gr.trans HG2.out⟩;have:=HW2.out;rw[List.append_assoc]at this;exact this
theorem write_all {its rus:Sl} {it rn:List ByteArray}:∀m:MkM,WriteS its rus it rn m:=by
 intro m
 induction m using MkM.ind with
 | h m ih =>
   intro w B wb bs fit P h hc hC hW hlen;obtain⟨op,a,b,l,s⟩:=m;dsimp only[MkM.ks,MkM.s,MkM.op,MkM.a,MkM.b]at *;have hcore:MkM.core ⟨op,a,b,l,s⟩=.node op a b (l.map MkM.core):=by simp[MkM.core,coreL_map]
   rw[hcore]at hc hlen⊢;obtain⟨c1,c2⟩:=check_node hc;have hck:∀t∈l,t.core.check it.length rn.length=0:=fun t ht=>c2 _ (List.mem_map_of_mem ht)
   have hsn:s.n=l.length:=h.len;rw[List.length_map]at c1;have hF:op=sAnd∨op=sOr∨op=sNot->condF rn it op a b=true:=by
    intro h;rcases h with rfl|rfl|rfl <;> rfl
   by_cases h1:op=sAnd∨op=sOr
   ·simp only[Mk.text,Mk.named]at hlen⊢;rw[if_pos h1]at hlen⊢;rw[hF (by rcases h1 with h | h <;> simp[h]),Bool.true_and];exact join_writes h h1 ih hck hC hW hlen
   ·by_cases h2:op=sNot
    ·subst h2;have hl1:l.length=1:=alone_not c1;obtain⟨t,rfl⟩:=List.length_eq_one_iff.1 hl1;simp only[Mk.text,Mk.named]at hlen⊢;rw[if_neg (by decide),if_pos trivial]at hlen⊢;rw[hF (by simp),Bool.true_and];have e1:Mk.textL rn it sNot true (List.map MkM.core [t])=wrapT (parT sNot t.op) (Mk.text rn it t.core):=by simp[Mk.textL,sepT,core_op]
     have e2:Mk.namedL rn it (List.map MkM.core [t])=Mk.named rn it t.core:=by simp[Mk.namedL]
     rw[e1]at hlen⊢;rw[e2];exact not_writes h (ih t (by simp)) (hck t (by simp)) hC hW hlen
    ·have h3:=not_or.1 h1;obtain⟨ho,hl0,_,_⟩:=alone_cond c1 h3.1 h3.2 h2;have hl:l=[]:=List.eq_nil_of_length_eq_zero hl0;subst hl;simp only[Mk.text,Mk.named]at hlen⊢;rw[if_neg h1,if_neg h2]at hlen⊢;simp only[List.map_nil,Mk.namedL,Bool.and_true];refine cond_writes hC hW ?_ h3.1 h3.2 h2 h.ha h.hb hlen;rw[hsn];exact c1
theorem MkM.Ok.drew {W:World} {t:TypeId} {P:Nat->Prop} {m:MkM} (h:m.Ok W t P):m.Ok W.drew t P:=h.bel (Below.refl _ _).drew
theorem valid_any (si sr st sx:Sl) (M:MkM) (w:World) (P:Nat->Prop) (h:M.Ok w 49 P) :
 Calls Tryz.prog 20 #[.agg #[.slice si.A si.n si.c,.slice sr.A sr.n sr.c,.slice st.A st.n st.c,.slice sx.A sx.n sx.c],.agg #[.string M.op,.int .i64 M.a,.int .i64 M.b,.slice M.s.A M.s.n M.s.c]] w fun e w'=>e=.returned (.int .i64 (validM si.n sr.n M.core))∧Below w.heap.size w w':=by
 have y:Below w.heap.size w ((w.alloc (.cells #[.slice si.A si.n si.c,.slice sr.A sr.n sr.c,.slice st.A st.n st.c,.slice sx.A sx.n sx.c] 28)).alloc (.cells #[.string M.op,.int .i64 M.a,.int .i64 M.b,.slice M.s.A M.s.n M.s.c] 49)):=((Below.refl _ _).alloc (Nat.le_refl _) _).alloc (by simp) _;have HY:=iH y;have B4:=iH ((Bk.new w 28 [.slice si.A si.n si.c,.slice sr.A sr.n sr.c,.slice st.A st.n st.c,.slice sx.A sx.n sx.c]).alloc (.cells #[.string M.op,.int .i64 M.a,.int .i64 M.b,.slice M.s.A M.s.n M.s.c] 49));have B5:Hid (Bk ((w.alloc (.cells #[.slice si.A si.n si.c,.slice sr.A sr.n sr.c,.slice st.A st.n st.c,.slice sx.A sx.n sx.c] 28)).alloc (.cells #[.string M.op,.int .i64 M.a,.int .i64 M.b,.slice M.s.A M.s.n M.s.c] 49)) (w.heap.size+1) 49 [.string M.op,.int .i64 M.a,.int .i64 M.b,.slice M.s.A M.s.n M.s.c]):=by
  have:=Bk.new (w.alloc (.cells #[.slice si.A si.n si.c,.slice sr.A sr.n sr.c,.slice st.A st.n st.c,.slice sx.A sx.n sx.c] 28)) 49 [.string M.op,.int .i64 M.a,.int .i64 M.b,.slice M.s.A M.s.n M.s.c];rw[World.size_alloc]at this;exact iH this
 have KC:=iH (count_any 64 (by decide) (by decide) 16 (by decide) M _ P (h.bel y));have hov:=cntP_over (most:=64) (d:=16) (m:=M.core) (by decide);have H:=iH h;clear h y;go_enter Tryz.func20,Tryz.ntmps20;go_wp2_with fail;refine KC.out.mono ?_;rintro e w1 ⟨rfl,hb1⟩;have HY1:=iH (HY.out.trans (hb1.mono HY.out.size));have HB4:=iH (B4.out.below hb1 B4.out.lt);have HB5:=iH (B5.out.below hb1 B5.out.lt);clear KC hb1 B4 B5 HY;by_cases hc:64<cntP 64 16 M.core
 ·have HQ:Hid (validM si.n sr.n M.core=4):=by show _=_;unfold validM;rw[if_pos (hov.1 hc)]
  have hc':((64:Nat):Int)<(cntP 64 16 M.core:Int):=by omega
  clear hov hc;generalize(cntP 64 16 M.core:Int)=cc at *;go_wp2;go_ret;exact⟨by rw[HQ.out];rfl,HY1.out⟩
 ·have HQ:Hid (validM si.n sr.n M.core=M.core.check si.n sr.n):=by show _=_;unfold validM;rw[if_neg (fun k=>hc (hov.2 k))]
  have hc':¬ (64:Int)<(cntP 64 16 M.core:Int):=by omega
  clear hov hc;generalize(cntP 64 16 M.core:Int)=cc at *;go_wp2;refine wp_region_X (fun w'=>Bk w' w.heap.size 28 [.slice si.A si.n si.c,.slice sr.A sr.n sr.c,.slice st.A st.n st.c,.slice sx.A sx.n sx.c]∧Bk w' (w.heap.size+1) 49 [.string M.op,.int .i64 M.a,.int .i64 M.b,.slice M.s.A M.s.n M.s.c]) 4 (n:=5) rfl (by kernel_rfl) (⟨HB4.out.drew,HB5.out.drew⟩) (fun hS=>?_);refine tX 1 (some 9) (v:=?_) rfl ⟨rfl,?_⟩ hS ?_;rotate_left
  ·intro w' hS';have e0:=hS'.1.k0;have e1:=hS'.1.k1;have e2:=hS'.1.k2;have e3:=hS'.1.k3;have el:=hS'.1.lt;(go_simp;try with_reducible rfl)
  refine tX 2 (some 10) (v:=?_) rfl ⟨rfl,?_⟩ hS ?_;rotate_left
  ·intro w' hS';have e0:=hS'.2.k0;have e1:=hS'.2.k1;have e2:=hS'.2.k2;have e3:=hS'.2.k3;have el:=hS'.2.lt;(go_simp;try with_reducible rfl)
  refine X_o 0 rfl fun K hK=>?_;go_simp;have K:=iH (conds_any w1.drew);(with_reducible refine K.out.mono ?_);rintro e w2 ⟨bm,kk,b1,b2,b3,rfl,hC,hb2⟩;have HY2:=iH (HY1.out.trans ((show Below w1.heap.size w1 w2 from(Below.refl _ _).drew.trans hb2).mono HY1.out.size));have HB42:=iH (HB4.out.drew.below hb2 HB4.out.lt);have HB52:=iH (HB5.out.drew.below hb2 HB5.out.lt);have KK:=iH (check_any si sr st sx M w2 P ((H.out.bel (HY1.out)).drew.bel hb2) hC.map);refine hK _ _ ⟨HB42.out,HB52.out⟩ ?_;clear hK K hC hb2;refine X_o 3 rfl fun K hK=>?_;go_simp;(with_reducible refine KK.out.mono ?_);rintro e w3 ⟨rfl,hb3⟩;have HY3:=iH (HY2.out.trans (hb3.mono HY2.out.size));refine hK _ _ ⟨HB42.out.below hb3 HB42.out.lt,HB52.out.below hb3 HB52.out.lt⟩ ?_;clear hK KK hb3;refine X_tail (by kernel_rfl) ?_;refine A_one 4 (by kernel_rfl) rfl rfl (fun K hK=>?_);go_simp;refine hK _ _ ?_;clear hK;refine A_done (by kernel_rfl) ?_;go_wp2;go_ret;exact⟨by rw[HQ.out];rfl,HY3.out⟩
theorem wrapT_ne {p:Bool} {l:List UInt8} (h:l≠[]):wrapT p l≠[]:=by cases p <;> simp[wrapT,h]
theorem text_ne {rn it:List ByteArray} {ni nr:Nat}:∀m:Mk,m.check ni nr=0->Mk.text rn it m≠[]:=by
 intro m
 induction m using Mk.ind with
 | h op a b ks ih =>
   intro hc;obtain⟨c1,c2⟩:=check_node hc;simp only[Mk.text];split
   ·rename_i hj
    cases ks with
    | nil =>
      unfold aloneE at c1;rw[if_pos hj]at c1;simp at c1
    | cons x xs =>
      have:=ih x (List.mem_cons_self ..) (c2 x (List.mem_cons_self ..));simp only[Mk.textL];intro e;have e1:=(List.append_eq_nil_iff.1 e).1;exact wrapT_ne this (List.append_eq_nil_iff.1 e1).2
   ·split
    ·simp
    ·unfold condT;simp
def printE (rn it:List ByteArray) (m:Mk):Int:=if validM it.length rn.length m≠0 then validM it.length rn.length m else if Mk.named rn it m then 0 else 6
def printS (rn it:List ByteArray) (m:Mk):ByteArray:=if printE rn it m=0 then⟨(Mk.text rn it m).toArray⟩ else⟨#[]⟩
theorem valid_zero {ni nr:Nat} {m:Mk} (h:validM ni nr m=0):m.size<=64∧m.check ni nr=0:=by
 unfold validM at h;split at h
 ·cases h
 ·rename_i hn
  exact⟨by omega,h⟩
theorem print_any {m:CatM} {M:MkM} {W:World} {P:Nat->Prop} (hT:Tab W) (hP:TabP W) (hi:ItsV W m.si m.items) (hr:RulesV W m.sr m.rules) (h:M.Ok W 49 P) :
 Calls Tryz.prog 18 #[.agg #[.slice m.si.A m.si.n m.si.c,.slice m.sr.A m.sr.n m.sr.c,.slice m.st.A m.st.n m.st.c,.slice m.sx.A m.sx.n m.sx.c],.agg #[.string M.op,.int .i64 M.a,.int .i64 M.b,.slice M.s.A M.s.n M.s.c]] W fun e w'=>e=.returned (.tuple #[.string (printS (m.rules.map RuM.name) (m.items.map It.name) M.core),.int .i64 (printE (m.rules.map RuM.name) (m.items.map It.name) M.core)])∧Below W.heap.size W w':=by
 have hil:m.si.n=(m.items.map It.name).length:=by rw[List.length_map];exact hi.len
 have hrl:m.sr.n=(m.rules.map RuM.name).length:=by rw[List.length_map];exact hr.len
 have hsit:∀s∈m.items.map It.name,s.size<=8192:=fun s hs=>by
  obtain⟨x,hx,rfl⟩:=List.mem_map.1 hs;exact hi.each x hx
 have hsrn:∀s∈m.rules.map RuM.name,s.size<=8192:=fun s hs=>by
  obtain⟨x,hx,rfl⟩:=List.mem_map.1 hs;exact(hr.each x hx).name
 have hcv:validM m.si.n m.sr.n M.core=validM (m.items.map It.name).length (m.rules.map RuM.name).length M.core:=by rw[hil,hrl]
 have hPE:printE (m.rules.map RuM.name) (m.items.map It.name) M.core=if validM m.si.n m.sr.n M.core≠0 then validM m.si.n m.sr.n M.core else if Mk.named (m.rules.map RuM.name) (m.items.map It.name) M.core then 0 else 6:=by unfold printE;rw[<- hcv]
 have y:Below W.heap.size W ((W.alloc (.cells #[.slice m.si.A m.si.n m.si.c,.slice m.sr.A m.sr.n m.sr.c,.slice m.st.A m.st.n m.st.c,.slice m.sx.A m.sx.n m.sx.c] 28)).alloc (.cells #[.string M.op,.int .i64 M.a,.int .i64 M.b,.slice M.s.A M.s.n M.s.c] 49)):=((Below.refl _ _).alloc (Nat.le_refl _) _).alloc (by simp) _;have HBa0:=iH ((Bk.new W 28 [.slice m.si.A m.si.n m.si.c,.slice m.sr.A m.sr.n m.sr.c,.slice m.st.A m.st.n m.st.c,.slice m.sx.A m.sx.n m.sx.c]).alloc (.cells #[.string M.op,.int .i64 M.a,.int .i64 M.b,.slice M.s.A M.s.n M.s.c] 49));have HBb0:Hid (Bk ((W.alloc (.cells #[.slice m.si.A m.si.n m.si.c,.slice m.sr.A m.sr.n m.sr.c,.slice m.st.A m.st.n m.st.c,.slice m.sx.A m.sx.n m.sx.c] 28)).alloc (.cells #[.string M.op,.int .i64 M.a,.int .i64 M.b,.slice M.s.A M.s.n M.s.c] 49)) (W.heap.size+1) 49 [.string M.op,.int .i64 M.a,.int .i64 M.b,.slice M.s.A M.s.n M.s.c]):=by
  have:=Bk.new (W.alloc (.cells #[.slice m.si.A m.si.n m.si.c,.slice m.sr.A m.sr.n m.sr.c,.slice m.st.A m.st.n m.st.c,.slice m.sx.A m.sx.n m.sx.c] 28)) 49 [.string M.op,.int .i64 M.a,.int .i64 M.b,.slice M.s.A M.s.n M.s.c];rw[World.size_alloc]at this;exact iH this
 have KV:=iH (valid_any m.si m.sr m.st m.sx M _ P (h.bel y));have HY:=iH y;have H:=iH h;have HT:=iH hT;have HP:=iH hP;have HI:=iH hi;have HR:=iH hr;have HPE:=iH hPE;have HS1:=iH hsit;have HS2:=iH hsrn;have HIL:=iH hil;have HRL:=iH hrl;clear h y hT hP hi hr hcv hPE hsit hsrn hil hrl;go_enter Tryz.func18,Tryz.ntmps18;go_wp2_with fail;(with_reducible refine KV.out.mono ?_);rintro e w1 ⟨rfl,hb⟩;have HY1:=iH (HY.out.trans (hb.mono HY.out.size));have HBa:=iH (HBa0.out.below hb HBa0.out.lt);have HBb:=iH (HBb0.out.below hb HBb0.out.lt);have HI2:Hid (ItsV w1.drew m.si m.items):=HI.out.below HY1.out.drew;have HR2:Hid (RulesV w1.drew m.sr m.rules):=HR.out.below HY1.out.drew;clear KV hb HBa0 HBb0 HY;by_cases hv:validM m.si.n m.sr.n M.core=0
 ·have hpe:printE (m.rules.map RuM.name) (m.items.map It.name) M.core=if Mk.named (m.rules.map RuM.name) (m.items.map It.name) M.core then 0 else 6:=by rw[HPE.out,if_neg (by simp[hv])]
  obtain⟨hz64,hck⟩:=valid_zero hv;have HCK:Hid (M.core.check (m.items.map It.name).length (m.rules.map RuM.name).length=0):=by
   show _=_;rw[<- HIL.out,<- HRL.out];exact hck
  have HTN:=iH (text_ne (rn:=m.rules.map RuM.name) (it:=m.items.map It.name) M.core hck);have HLEN:Hid ((Mk.text (m.rules.map RuM.name) (m.items.map It.name) M.core).length<=1000000):=by
   show _<=_;have:=text_len HS2.out HS1.out M.core H.out.in_ hck;omega
  have HQ:=iH hpe;clear hpe hz64 hck HPE;generalize hvv:validM m.si.n m.sr.n M.core=vv at *;subst hv;clear hvv;go_wp2;refine wp_region_X (fun w'=>Bk w' W.heap.size 28 [.slice m.si.A m.si.n m.si.c,.slice m.sr.A m.sr.n m.sr.c,.slice m.st.A m.st.n m.st.c,.slice m.sx.A m.sx.n m.sx.c]∧Bk w' (W.heap.size+1) 49 [.string M.op,.int .i64 M.a,.int .i64 M.b,.slice M.s.A M.s.n M.s.c]) 7 (n:=7) rfl (by kernel_rfl) (⟨HBa.out.drew,HBb.out.drew⟩) (fun hS=>?_);refine tU 0 (some 14) (v:=?_) rfl ⟨rfl,?_⟩ hS ?_;rotate_left
  ·intro w' hS';have e0:=hS'.1.k0;have e1:=hS'.1.k1;have e2:=hS'.1.k2;have e3:=hS'.1.k3;have el:=hS'.1.lt;(go_simp;try with_reducible rfl)
  refine tU 2 (some 16) (v:=?_) rfl ⟨rfl,?_⟩ hS ?_;rotate_left
  ·intro w' hS';have e0:=hS'.1.k0;have e1:=hS'.1.k1;have e2:=hS'.1.k2;have e3:=hS'.1.k3;have el:=hS'.1.lt;(go_simp;try with_reducible rfl)
  refine X_o 1 rfl fun K hK=>?_;go_simp;have K:=iH (itemNames_any (m:=m) HI2.out);(with_reducible refine K.out.mono ?_);rintro e w2 ⟨A1,n1,c1,rfl,hN,hb⟩;have hgo:=(Below.refl w1.heap.size w1).drew.trans hb;have HN1:=iH hN;have HBa2:=iH (HBa.out.below hgo HBa.out.lt);have HBb2:=iH (HBb.out.below hgo HBb.out.lt);have HY2:=iH (HY1.out.trans (hgo.mono HY1.out.size));have HR3:=iH (HR2.out.below hb);refine hK _ _ ⟨HBa2.out,HBb2.out⟩ ?_;clear hK K hN hb hgo HBa HBb;refine X_o 3 rfl fun K hK=>?_;go_simp;have K:=iH (ruleNames_any (m:=m) HR3.out);(with_reducible refine K.out.mono ?_);rintro e w3 ⟨A2,n2,c2,rfl,hN,hb⟩;have HN2:=iH hN;have HN12:=iH (HN1.out.below hb);have HBa3:=iH (HBa2.out.below hb HBa2.out.lt);have HBb3:=iH (HBb2.out.below hb HBb2.out.lt);have HY3:=iH (HY2.out.trans (hb.mono HY2.out.size));refine hK _ _ ⟨HBa3.out,HBb3.out⟩ ?_;clear hK K hN hb HBa2 HBb2;refine X_o 4 rfl fun K hK=>?_;go_simp;refine hK _ _ ⟨HBa3.out,HBb3.out⟩ ?_;clear hK;refine X_o 5 rfl fun K hK=>?_;go_simp;refine hK _ _ ⟨HBa3.out.alloc _,HBb3.out.alloc _⟩ ?_;clear hK;refine X_o 6 rfl fun K hK=>?_;go_simp;refine hK _ _ ⟨HBa3.out.alloc _,HBb3.out.alloc _⟩ ?_;clear hK;refine X_done (by kernel_rfl) ?_;clear hS;have hfresh:Hid (WrAt (w3.alloc (.cells #[.pointer none,.slice none 0 0,.slice A1 n1 c1,.slice A2 n2 c2,.bool true] 116)) W.heap.size w3.heap.size [] ⟨A1,n1,c1⟩ ⟨A2,n2,c2⟩ true):=by
   refine iH ⟨_,_,.inl rfl,Bk.new w3 116 [.pointer none,.slice none 0 0,.slice A1 n1 c1,.slice A2 n2 c2,.bool true],World.ownsRow_nil _ _ _ _,HY3.out.size⟩
  have yb:Below W.heap.size W (w3.alloc (.cells #[.pointer none,.slice none 0 0,.slice A1 n1 c1,.slice A2 n2 c2,.bool true] 116)):=HY3.out.alloc HY3.out.size _;have yb3:Below w3.heap.size w3 (w3.alloc (.cells #[.pointer none,.slice none 0 0,.slice A1 n1 c1,.slice A2 n2 c2,.bool true] 116)):=(Below.refl _ _).alloc (Nat.le_refl _) _;have hctx:Hid (WCtx (w3.alloc (.cells #[.pointer none,.slice none 0 0,.slice A1 n1 c1,.slice A2 n2 c2,.bool true] 116)) W.heap.size ⟨A1,n1,c1⟩ ⟨A2,n2,c2⟩ (m.items.map It.name) (m.rules.map RuM.name)) :=
   iH ⟨HT.out.below yb HT.out.1,HP.out.below yb (by have:=HT.out.1;omega),HN12.out.below yb3,HN2.out.below yb3,HT.out.1,yb.size,HS1.out,HS2.out⟩
  have HYB:=iH yb;have KW:=iH (write_all (its:=⟨A1,n1,c1⟩) (rus:=⟨A2,n2,c2⟩) (it:=m.items.map It.name) (rn:=m.rules.map RuM.name) M (w3.alloc (.cells #[.pointer none,.slice none 0 0,.slice A1 n1 c1,.slice A2 n2 c2,.bool true] 116)) W.heap.size w3.heap.size [] true P (H.out.bel yb) HCK.out hctx.out hfresh.out (by have:=HLEN.out;simpa using this));have HBb4:=HBb3.out.alloc (.cells #[.pointer none,.slice none 0 0,.slice A1 n1 c1,.slice A2 n2 c2,.bool true] 116);have b0:(w3.alloc (.cells #[.pointer none,.slice none 0 0,.slice A1 n1 c1,.slice A2 n2 c2,.bool true] 116)).cell? ⟨W.heap.size+1,0,none⟩=some (.string M.op):=HBb4.cell 0;have b1:(w3.alloc (.cells #[.pointer none,.slice none 0 0,.slice A1 n1 c1,.slice A2 n2 c2,.bool true] 116)).cell? ⟨W.heap.size+1,1,none⟩=some (.int .i64 M.a):=HBb4.cell 1;have b2:(w3.alloc (.cells #[.pointer none,.slice none 0 0,.slice A1 n1 c1,.slice A2 n2 c2,.bool true] 116)).cell? ⟨W.heap.size+1,2,none⟩=some (.int .i64 M.b):=HBb4.cell 2;have b3:(w3.alloc (.cells #[.pointer none,.slice none 0 0,.slice A1 n1 c1,.slice A2 n2 c2,.bool true] 116)).cell? ⟨W.heap.size+1,3,none⟩=some (.slice M.s.A M.s.n M.s.c):=HBb4.cell 3;have bl:=HBb3.out.lt;clear HBb4 yb yb3 hctx hfresh HN12 HN2 HN1 HI2 HR2 HR3 HBa3;generalize htx:Mk.text (m.rules.map RuM.name) (m.items.map It.name) M.core=tx at *;have HTX:=iH htx;clear htx;generalize Mk.named (m.rules.map RuM.name) (m.items.map It.name) M.core=nd at *;go_wp2_with fail;(with_reducible refine KW.out.mono ?_);rintro e w4 ⟨rfl,hw,hg⟩;rw[List.nil_append,Bool.true_and]at hw;have hcl:=hw.cells.2.2.1;have hwl:=hw.lt;have HW:=iH hw;have HYF:=iH (HYB.out.trans hg.low);clear KW hw hg b0 b1 b2 b3 bl HYB;cases nd
  ·have HP2:Hid (printS (m.rules.map RuM.name) (m.items.map It.name) M.core=⟨#[]⟩):=by
    show _=_;unfold printS;rw[HQ.out];rfl
   go_wp2;go_ret2;exact⟨by rw[HP2.out,HQ.out];rfl,HYF.out⟩
  ·have HP2:Hid (printS (m.rules.map RuM.name) (m.items.map It.name) M.core=⟨tx.toArray⟩):=by
    show _=_;unfold printS;rw[HQ.out,HTX.out];rfl
   have KS:=iH (string_any HW.out HTN.out HLEN.out);go_wp2_with fail;(with_reducible refine KS.out.mono ?_);rintro e w5 ⟨rfl,hb⟩;have HYE:=iH (HYF.out.trans hb);clear KS hb;go_wp2;go_ret2;exact⟨by rw[HP2.out,HQ.out];rfl,HYE.out⟩
 ·have HQ:Hid (printE (m.rules.map RuM.name) (m.items.map It.name) M.core=validM m.si.n m.sr.n M.core):=by
   show _=_;rw[HPE.out,if_pos hv]
  have HP2:Hid (printS (m.rules.map RuM.name) (m.items.map It.name) M.core=⟨#[]⟩):=by
   show _=_;unfold printS;rw[HQ.out,if_neg hv]
  generalize validM m.si.n m.sr.n M.core=vv at *;clear HPE;have hv2:(vv == 0)=false:=by simpa using hv
  go_wp2;go_ret2;exact⟨by rw[HP2.out,HQ.out];rfl,HY1.out⟩
theorem ta_yes (a:Int) (w:World):(Instr.typeAssert (.iface 178 (.agg #[.int .i64 a])) 20 178 true).run Tryz.prog w=.ok (.tuple #[.agg #[.int .i64 a],.bool true]) w:=by kernel_rfl
theorem ta_no (w:World):(Instr.typeAssert .nilIface 20 178 true).run Tryz.prog w=.ok (.tuple #[.agg #[.int .i64 0],.bool false]) w:=by kernel_rfl
theorem catch_panicking (w:World) (p q:Nat) (x a:Int) (b:Bool) (older:List PanicEntry) (hp:Bk w p 3 [.int .i64 x]) (hq:Bk w q 4 [.bool b]) :
 CallsD Tryz.prog 111 #[.pointer (some ⟨p,0,none⟩),.pointer (some ⟨q,0,none⟩)] (.panicking ({ v:=.iface 178 (.agg #[.int .i64 a]),recovered:=false } :: older)) w fun e u' w' =>
  e=.returned (.tuple #[])∧u'=.panicking ({ v:=.iface 178 (.agg #[.int .i64 a]),recovered:=true } :: older)∧w'=((w.setCell ⟨p,0,none⟩ (.int .i64 a)).setCell ⟨q,0,none⟩ (.bool false)).alloc (.cells #[.int .i64 a] 178):=by
 have cp:=hp.k0;have cq:=hq.k0;have fp:=hp.frozen 0;have fq:=hq.frozen 0;have lp:=hp.lt;have lq:=hq.lt;have hne:q≠p:=by
  rintro rfl;have h1:=hp;have h2:=hq;unfold Bk at h1 h2;rw[h1]at h2;cases h2
 refine callsD_of_wpS Tryz.func111 rfl fun c₀ cs hu=>?_
 apply wpS_seq;apply wpS_region;simp[wpOpsS,go_sem,recoverD,hu,Tryz.ntmps111,Exit.thenS,ta_yes];refine wpS_of_wp ?_;simp[Array.replicate_succ,Array.replicate_zero];go_wp2;exact⟨rfl,_,rfl,_,results_none rfl _ _ _,rfl,rfl,rfl⟩
theorem catch_idle (w:World) (p q:Nat) :
 CallsD Tryz.prog 111 #[.pointer (some ⟨p,0,none⟩),.pointer (some ⟨q,0,none⟩)] .returning w fun e u' w'=>e=.returned (.tuple #[])∧u'=.returning∧w'=w.alloc (.cells #[.int .i64 0] 178):=by
 refine callsD_of_wpS Tryz.func111 rfl fun c₀ cs hu=>?_
 apply wpS_seq;apply wpS_region;simp[wpOpsS,go_sem,recoverD,hu,Tryz.ntmps111,Exit.thenS,ta_no];refine wpS_of_wp ?_;simp[Array.replicate_succ,Array.replicate_zero];go_wp2;refine⟨rfl,.returning,?_,_,results_none rfl _ _ _,rfl,rfl,rfl⟩;cases c₀
 simp_all
def pCellsM (rb:Nat) (m:CatM) (M:MkM) (st:PSt):List Value:=[.pointer (some ⟨rb,0,none⟩),.slice m.si.A m.si.n m.si.c,.slice m.sr.A m.sr.n m.sr.c,.slice m.st.A m.st.n m.st.c,.slice m.sx.A m.sx.n m.sx.c,.string M.op,.int .i64 M.a,.int .i64 M.b,.slice M.s.A M.s.n M.s.c,.int .i64 st.2,.int .i64 st.1]
def CPost (W:World) (rb pb:Nat) (m:CatM) (len:Int) (p:PR Mk) (e:Ending) (w':World):Prop :=
 match p with
 | .bad x=>e=failV x len∧Gr2 rb pb W w'
 | .ok k r st=>∃M:MkM,e=.returned (.tuple #[])∧M.core=k∧M.Ok w' 49 (fun b=>W.heap.size<=b)∧RdAt w' rb r len∧Bk w' pb 142 (pCellsM rb m M st)∧Gr2 rb pb W w'
theorem clos_any {w:World} {rb pb bx:Nat} {m:CatM} {ts:List Tok} {len:Int} {p:PR Mk} (hP:PAt w rb pb m ts len (0,0)) (hb:Bk w bx 140 [.pointer (some ⟨pb,0,none⟩)]) (hx1:bx≠rb) (hx2:bx≠pb)
 (hK:Calls Tryz.prog 74 #[.pointer (some ⟨pb,0,none⟩)] w.drew (PPost w.drew rb pb m len p)) :
 Calls Tryz.prog 73 #[.pointer (some ⟨bx,0,none⟩)] w (CPost w rb pb m len p):=by
 have KR:=iH hK;have HBx:=iH hb;have hpl:=hP.plt;have hlt:=hP.lt;clear hK hb hP;go_enter Tryz.func73,Tryz.ntmps73;refine wp_region_X (fun w'=>Bk w' bx 140 [.pointer (some ⟨pb,0,none⟩)]) 3 (n:=6) rfl (by kernel_rfl) (HBx.out.drew) (fun hS=>?_);refine tX 0 (some 1) (v:=?_) rfl ⟨rfl,?_⟩ hS ?_;rotate_left
 ·intro w' hS';have e0:=hS'.k0;have el:=hS'.lt;(go_simp;try with_reducible rfl)
 refine tX 1 (some 2) (v:=?_) rfl ⟨rfl,?_⟩ hS ?_;rotate_left
 ·intro w' hS';have e0:=hS'.k0;have el:=hS'.lt;(go_simp;try with_reducible rfl)
 refine X_o 2 rfl fun K hK=>?_;go_simp;(with_reducible refine KR.out.mono ?_);intro e w1 hpost;cases p with
 | bad x =>
   obtain⟨rfl,hg⟩:=hpost;exact⟨rfl,rfl,(Gr2.of_below (Below.refl _ _).drew).trans hg⟩
 | ok k r st =>
 obtain⟨M,rfl,rfl,hM,hP,hG⟩:=hpost;have HB1:=iH (HBx.out.drew.gr2 hG hx1 hx2);have HM:=iH hM;have HP:=iH hP;have HG:=iH ((Gr2.of_below (Below.refl _ _).drew).trans hG);refine hK _ _ HB1.out ?_;clear hK KR hM hP hG;refine X_tail (by kernel_rfl) ?_;refine A_one 3 (by kernel_rfl) rfl rfl (fun K hK=>?_);go_simp;refine hK _ _ ?_;clear hK;refine A_one 4 (by kernel_rfl) rfl rfl (fun K hK=>?_);go_simp;refine hK _ _ ?_;clear hK;refine A_one 5 (by kernel_rfl) rfl rfl (fun K hK=>?_);have f5:=HP.out.pk.frozen 5;have f6:=HP.out.pk.frozen 6;have f7:=HP.out.pk.frozen 7;have f8:=HP.out.pk.frozen 8;have g5:=HP.out.pk.k5;have g6:=HP.out.pk.k6;have g7:=HP.out.pk.k7;have g8:=HP.out.pk.k8;have gl:=HP.out.plt;go_simp;refine hK _ _ ?_;clear hK;refine A_done (by kernel_rfl) ?_;have hg4:w1.grownBy ((((w1.setCell ⟨pb,5,none⟩ (.string M.op)).setCell ⟨pb,6,none⟩ (.int .i64 M.a)).setCell ⟨pb,7,none⟩ (.int .i64 M.b)).setCell ⟨pb,8,none⟩ (.slice M.s.A M.s.n M.s.c)) (some pb):=grown_trans2 (grown_trans2 (grown_trans2 (grown_setCell w1 pb 5 _) (grown_setCell _ pb 6 _)) (grown_setCell _ pb 7 _)) (grown_setCell _ pb 8 _);have hB4:Bk ((((w1.setCell ⟨pb,5,none⟩ (.string M.op)).setCell ⟨pb,6,none⟩ (.int .i64 M.a)).setCell ⟨pb,7,none⟩ (.int .i64 M.b)).setCell ⟨pb,8,none⟩ (.slice M.s.A M.s.n M.s.c)) pb 142 (pCellsM rb m M st):=(((HP.out.pk.set 5 _).set 6 _).set 7 _).set 8 _;generalize(((w1.setCell ⟨pb,5,none⟩ (.string M.op)).setCell ⟨pb,6,none⟩ (.int .i64 M.a)).setCell ⟨pb,7,none⟩ (.int .i64 M.b)).setCell ⟨pb,8,none⟩ (.slice M.s.A M.s.n M.s.c)=X at *;refine⟨rfl,_,results_none rfl _ _ _,M,rfl,rfl,HM.out.grown hg4 fun b hb=>?_,HP.out.rd.keep fun i hi=>hg4.block i ?_ ?_,hB4,HG.out.trans (.of_p hg4)⟩
 ·have hb':w.heap.size<=b:=hb;simp;omega
 ·have:=HP.out.rlt;omega
 ·simp;omega
def TPost (W:World) (rb pb:Nat) (m:CatM) (len:Int) (p:PR Mk) (e:Ending) (w':World):Prop :=
 match p with
 | .bad x=>e=.returned (.tuple #[.int .i64 (atOf x len),.bool false])∧Gr2 rb pb W w'
 | .ok k r st=>(r≠[]->e=.returned (.tuple #[.int .i64 (atOf r len),.bool false]))∧(r=[]->e=.returned (.tuple #[.int .i64 0,.bool true]))∧Gr2 rb pb W w'∧∃M:MkM,M.core=k∧M.Ok w' 49 (fun b=>W.heap.size<=b)∧Bk w' pb 142 (pCellsM rb m M st)
theorem caught_g1 (w:World) (g k:Nat) (u:Value):w.grownBy (w.setCell ⟨g,k,none⟩ u) (some g):=grown_setCell w g k u
theorem caught {w w1 w2:World} {p q rb pb:Nat} {x:Int} {b:Bool} (hp:Bk w1 p 3 [.int .i64 x]) (hq:Bk w1 q 4 [.bool b]) (hG:Gr2 rb pb w w1) (h1:w.heap.size<=p) (h2:w.heap.size<=q) (a:Int)
 (hw:w2=((w1.setCell ⟨p,0,none⟩ (.int .i64 a)).setCell ⟨q,0,none⟩ (.bool false)).alloc (.cells #[.int .i64 a] 178)) :
 w2.cell? ⟨p,0,none⟩=some (.int .i64 a)∧w2.cell? ⟨q,0,none⟩=some (.bool false)∧Gr2 rb pb w w2:=by
 have hne:p≠q:=by
  rintro rfl;unfold Bk at hp hq;rw[hp]at hq;cases hq
 subst hw;have k1:=((hp.set 0 (.int .i64 a)).far (p:=⟨q,0,none⟩) hne (.bool false)).alloc (.cells #[.int .i64 a] 178);have k2:=(((hq.far (p:=⟨p,0,none⟩) (Ne.symm hne) (.int .i64 a)).set 0 (.bool false))).alloc (.cells #[.int .i64 a] 178);exact⟨k1.cell 0,k2.cell 0,((hG.new (q:=⟨p,0,none⟩) h1 _).new (q:=⟨q,0,none⟩) h2 _).trans (.of_below ((Below.refl _ _).alloc (Nat.le_refl _) _))⟩
theorem enters73:∀(args:Array Value) (W:World),(callFunc 73 args).run Tryz.prog W=.ok (.enter 73 args) W:=enter_of Tryz.func73 (by kernel_rfl) rfl
theorem try_any {w:World} {rb pb bx:Nat} {m:CatM} {len:Int} {p:PR Mk} (hrl:rb<pb) (hpl:pb<w.heap.size)
 (hK:Hid (Calls Tryz.prog 73 #[.pointer (some ⟨bx,0,none⟩)] ((w.alloc (.cells #[.int .i64 0] 3)).alloc (.cells #[.bool false] 4)) (CPost ((w.alloc (.cells #[.int .i64 0] 3)).alloc (.cells #[.bool false] 4)) rb pb m len p))) :
 Calls Tryz.prog 72 #[.pointer (some ⟨rb,0,none⟩),.func (.func 73) #[] #[.pointer (some ⟨bx,0,none⟩)]] w (TPost w rb pb m len p):=by
 have hmf:=hmfN;have hq:=enters73;have y:Below w.heap.size w ((w.alloc (.cells #[.int .i64 0] 3)).alloc (.cells #[.bool false] 4)):=((Below.refl _ _).alloc (Nat.le_refl _) _).alloc (by simp) _;have BA:=iH ((Bk.new w 3 [.int .i64 0]).alloc (.cells #[.bool false] 4));have BO:Hid (Bk ((w.alloc (.cells #[.int .i64 0] 3)).alloc (.cells #[.bool false] 4)) (w.heap.size+1) 4 [.bool false]):=by
  have:=Bk.new (w.alloc (.cells #[.int .i64 0] 3)) 4 [.bool false];rw[World.size_alloc]at this;exact iH this
 have Y:=iH y;clear y
 go_enter_defers Tryz.func72,Tryz.ntmps72
 go_wp2_with fail;refine hK.out.mono ?_;intro e w1 hpost;clear hK;cases p with
 | bad x =>
   obtain⟨rfl,hg⟩:=hpost;have HG:=iH ((Gr2.of_below (r:=rb) (p:=pb) Y.out).trans hg);have BA1:=BA.out.gr2 hg (by omega) (by omega);have BO1:=BO.out.gr2 hg (by omega) (by omega);refine leaves_cons (f:=111) (args:=#[.pointer (some ⟨w.heap.size,0,none⟩),.pointer (some ⟨w.heap.size+1,0,none⟩)]) (by simp) (by simp[go_sem]) ?_;refine(catch_panicking w1 _ _ 0 (atOf x len) false [] BA1 BO1).mono ?_;rintro e u' w'' ⟨rfl,rfl,hw⟩;obtain⟨ca,co,hgx⟩:=caught BA1 BO1 HG.out (Nat.le_refl _) (Nat.le_succ _) (atOf x len) hw;simp[Leaves,settle,results,Tryz.results72,go_sem,ca,co];exact⟨rfl,hgx⟩
 | ok k r st =>
   obtain⟨M,rfl,rfl,hM,hR,hB,hg⟩:=hpost;have HG:=iH ((Gr2.of_below (r:=rb) (p:=pb) Y.out).trans hg);have BA1:=BA.out.gr2 hg (by omega) (by omega);have BO1:=BO.out.gr2 hg (by omega) (by omega);have hs1:=hg.size;rw[World.size_alloc,World.size_alloc]at hs1;have hM':=hM.mono (Q:=fun b=>w.heap.size<=b∧b≠w.heap.size∧b≠w.heap.size+1) fun b _ hb=>by
    rw[World.size_alloc,World.size_alloc]at hb;exact⟨by omega,by omega,by omega⟩
   obtain⟨A,c,hR1,hR2,hR3,hR4⟩:=hR;have c0:=hR1.k0;have hrl1:=hR1.lt;have HBA:=iH BA1;have HBO:=iH BO1;have HM:=iH hM';have HB:=iH hB;cases r with
   | nil =>
     have a0:=BA1.k0;have o0:=BO1.k0;have fa:=BA1.frozen 0;have fo:=BO1.frozen 0;have la:=BA1.lt;have lo:=BO1.lt;clear hM hM' hB hg BA1 BO1 hR1 hR2 hR3 hR4 BA BO;go_wp2;have hX:∃X,(w1.setCell ⟨w.heap.size,0,none⟩ (.int .i64 0)).setCell ⟨w.heap.size+1,0,none⟩ (.bool true)=X∧Bk X w.heap.size 3 [.int .i64 0]∧Bk X (w.heap.size+1) 4 [.bool true]∧Gr2 rb pb w X∧M.Ok X 49 (fun b=>w.heap.size<=b)∧Bk X pb 142 (pCellsM rb m M st) :=
      ⟨_,rfl,((HBA.out.set 0 (.int .i64 0)).far (p:=⟨w.heap.size+1,0,none⟩) (by simp) _),((HBO.out.far (p:=⟨w.heap.size,0,none⟩) (by simp) _).set 0 (.bool true)),(HG.out.new (q:=⟨w.heap.size,0,none⟩) (Nat.le_refl _) _).new (q:=⟨w.heap.size+1,0,none⟩) (Nat.le_succ _) _,
       ((HM.out.grown (caught_g1 _ _ _ _) fun b hb=>by simp;exact hb.2.1).grown (caught_g1 _ _ _ _) fun b hb=>by simp;exact hb.2.2).mono fun b _ hb=>hb.1,((HB.out.far (p:=⟨w.heap.size,0,none⟩) (by simp;omega) _).far (p:=⟨w.heap.size+1,0,none⟩) (by simp;omega) _)⟩
     obtain⟨X,hXe,x1,x2,x3,x4,x5⟩:=hX;rw[hXe];refine leaves_cons (f:=111) (args:=#[.pointer (some ⟨w.heap.size,0,none⟩),.pointer (some ⟨w.heap.size+1,0,none⟩)]) (by simp) (by simp[go_sem]) ?_;refine(catch_idle X _ _).mono ?_;rintro e u' w'' ⟨rfl,rfl,hw⟩;have yx:Below X.heap.size X w'':=by rw[hw];exact(Below.refl _ _).alloc (Nat.le_refl _) _
     have ca:=(x1.below yx x1.lt).k0;have co:=(x2.below yx x2.lt).k0;clear hXe;simp[Leaves,settle,results,Tryz.results72,go_sem,ca,co];exact And.intro (fun h=>absurd rfl h) (And.intro (fun _=>rfl) ⟨x3.trans (.of_below yx),M,rfl,x4.bel yx,x5.below yx x5.lt⟩)
   | cons t r2 =>
     have KF:=iH (fail_any ⟨A,c,hR1,hR2,hR3,hR4⟩);have hlen:(t :: r2).length=r2.length+1:=rfl;rw[hlen]at c0;generalize r2.length=n2 at c0;clear hM hM' hB hg BA1 BO1 hR1 hR2 hR3 hR4 BA BO hlen;go_wp2_with fail;refine KF.out.mono ?_;rintro e w2 ⟨rfl,rfl⟩;refine leaves_cons (f:=111) (args:=#[.pointer (some ⟨w.heap.size,0,none⟩),.pointer (some ⟨w.heap.size+1,0,none⟩)]) (by simp) (by simp[go_sem]) ?_;refine(catch_panicking w2 _ _ 0 (atOf (t :: r2) len) false [] HBA.out HBO.out).mono ?_;rintro e u' w'' ⟨rfl,rfl,hw⟩;obtain⟨ca,co,hgx⟩:=caught HBA.out HBO.out HG.out (Nat.le_refl _) (Nat.le_succ _) (atOf (t :: r2) len) hw;simp[Leaves,settle,results,Tryz.results72,go_sem,ca,co];refine And.intro (fun _=>rfl) (And.intro (fun h=>absurd h (by simp)) ⟨hgx,M,rfl,?_,?_⟩)
     ·rw[hw];exact((HM.out.grown (caught_g1 _ _ _ _) fun b hb=>by simp;exact hb.2.1).grown (caught_g1 _ _ _ _) fun b hb=>by simp;exact hb.2.2).bel ((Below.refl _ _).alloc (Nat.le_refl _) _) |>.mono fun b _ hb=>hb.1
     ·rw[hw];exact((HB.out.far (p:=⟨w.heap.size,0,none⟩) (by simp;omega) _).far (p:=⟨w.heap.size+1,0,none⟩) (by simp;omega) _).alloc _
def parseAll (m:CatM) (s:ByteArray):PAns:=match badTok (toks s)with
 | some t=>.err t.at_ t.err
 | none=>parseA kindNs (m.rules.map RuM.name) (m.items.map It.name) s.size (toks s)
def ParseQ (w:World) (ans:PAns) (e:Ending) (w':World):Prop :=
 match ans with
 | .err a c=>e=.returned (.tuple #[.agg #[.string ⟨#[]⟩,.int .i64 0,.int .i64 0,.slice none 0 0],.int .i64 a,.int .i64 c])∧Below w.heap.size w w'
 | .mark k=>∃M:MkM,e=.returned (.tuple #[.agg #[.string M.op,.int .i64 M.a,.int .i64 M.b,.slice M.s.A M.s.n M.s.c],.int .i64 0,.int .i64 0])∧M.core=k∧M.Ok w' 49 (fun b=>w.heap.size<=b)∧Below w.heap.size w w'
theorem parseA_eq (kn rn it:List ByteArray) (len:Int) (ts:List Tok):parseA kn rn it len ts=match joinP kn rn it (5*ts.length+5) true ts (0,0)with
 | .bad r=>.err (atOf r len) 2
 | .ok k r st=>if r≠[] then .err (atOf r len) 2 else if st.1≠0 then .err st.2 st.1 else if 64<k.size∨16<k.depth then .err 0 4 else .mark k:=by
 unfold parseA;cases joinP kn rn it (5*ts.length+5) true ts (0,0)with
 | bad r=>cases r <;> rfl
 | ok k r st=>cases r <;> rfl
theorem parse_any {w : World} {m : CatM} (s : ByteArray) (hs : s.size <= 8192) (hT : Tab w) (hi : ItsV w m.si m.items) (hr : RulesV w m.sr m.rules) :
 Calls Tryz.prog 42 #[.agg #[.slice m.si.A m.si.n m.si.c,.slice m.sr.A m.sr.n m.sr.c,.slice m.st.A m.st.n m.st.c,.slice m.sx.A m.sx.n m.sx.c],.string s] w (ParseQ w (parseAll m s)):=by
 have hmf:=hmfN;have y:Below w.heap.size w ((w.alloc (.cells #[.slice m.si.A m.si.n m.si.c,.slice m.sr.A m.sr.n m.sr.c,.slice m.st.A m.st.n m.st.c,.slice m.sx.A m.sx.n m.sx.c] 28)).alloc (.cells #[.string ⟨#[]⟩,.int .i64 0,.int .i64 0,.slice none 0 0] 49)):=((Below.refl _ _).alloc (Nat.le_refl _) _).alloc (by simp) _;have B2:=iH ((Bk.new w 28 [.slice m.si.A m.si.n m.si.c,.slice m.sr.A m.sr.n m.sr.c,.slice m.st.A m.st.n m.st.c,.slice m.sx.A m.sx.n m.sx.c]).alloc (.cells #[.string ⟨#[]⟩,.int .i64 0,.int .i64 0,.slice none 0 0] 49));have B4:Hid (Bk ((w.alloc (.cells #[.slice m.si.A m.si.n m.si.c,.slice m.sr.A m.sr.n m.sr.c,.slice m.st.A m.st.n m.st.c,.slice m.sx.A m.sx.n m.sx.c] 28)).alloc (.cells #[.string ⟨#[]⟩,.int .i64 0,.int .i64 0,.slice none 0 0] 49)) (w.heap.size+1) 49 [.string ⟨#[]⟩,.int .i64 0,.int .i64 0,.slice none 0 0]):=by
  have:=Bk.new (w.alloc (.cells #[.slice m.si.A m.si.n m.si.c,.slice m.sr.A m.sr.n m.sr.c,.slice m.st.A m.st.n m.st.c,.slice m.sx.A m.sx.n m.sx.c] 28)) 49 [.string ⟨#[]⟩,.int .i64 0,.int .i64 0,.slice none 0 0];rw[World.size_alloc]at this;exact iH this
 have KN:=iH (newR_any s hs ((w.alloc (.cells #[.slice m.si.A m.si.n m.si.c,.slice m.sr.A m.sr.n m.sr.c,.slice m.st.A m.st.n m.st.c,.slice m.sx.A m.sx.n m.sx.c] 28)).alloc (.cells #[.string ⟨#[]⟩,.int .i64 0,.int .i64 0,.slice none 0 0] 49)) (hT.below y hT.1));have Y:=iH y;have HI:=iH (hi.below y);have HR:=iH (hr.below y);clear y hi hr;go_enter Tryz.func42,Tryz.ntmps42;go_wp2_with fail;refine KN.out.mono ?_;intro e w1 hp;clear KN;unfold NewR at hp;cases hbt:badTok (toks s)with
 | some t =>
   rw[hbt]at hp;obtain⟨rfl,hne,hb⟩:=hp;have HQ:Hid (parseAll m s=.err t.at_ t.err):=by show _=_;unfold parseAll;rw[hbt]
   have B41:=B4.out.below hb B4.out.lt;have HB:=iH B41;have Y1:=iH (Y.out.trans (hb.mono Y.out.size));have hne':¬ t.err=0:=hne;have z0:=B41.k0;have z1:=B41.k1;have z2:=B41.k2;have z3:=B41.k3;have fz0:=B41.frozen 0;have fz1:=B41.frozen 1;have fz2:=B41.frozen 2;have fz3:=B41.frozen 3;have hzl:=B41.lt;clear hbt hne hb B41 B2 B4 HI HR Y;go_wp2;have HX:=four_laid HB.out (.string ⟨#[]⟩) (.int .i64 0) (.int .i64 0) (.slice none 0 0);have YX:=four_below (w:=w1) (B:=w.heap.size) (g:=w.heap.size+1) (by omega) (.string ⟨#[]⟩) (.int .i64 0) (.int .i64 0) (.slice none 0 0);generalize(((w1.setCell ⟨w.heap.size+1,0,none⟩ (.string ⟨#[]⟩)).setCell ⟨w.heap.size+1,1,none⟩ (.int .i64 0)).setCell ⟨w.heap.size+1,2,none⟩ (.int .i64 0)).setCell ⟨w.heap.size+1,3,none⟩ (.slice none 0 0)=X at *;have x0:=HX.k0;have x1:=HX.k1;have x2:=HX.k2;have x3:=HX.k3;refine bodyPost_ret (v:=.tuple #[.agg #[.string ⟨#[]⟩,.int .i64 0,.int .i64 0,.slice none 0 0],.int .i64 t.at_,.int .i64 t.err]) (by simp[results,Tryz.results42,go_sem,x0,x1,x2,x3]) rfl ?_;rw[HQ.out];exact⟨rfl,Y1.out.trans YX⟩
 | none =>
   rw[hbt]at hp;obtain⟨rb,rfl,hrd,hrb,hb,htk⟩:=hp;have HP0:Hid (parseAll m s=parseA kindNs (m.rules.map RuM.name) (m.items.map It.name) s.size (toks s)):=by show _=_;unfold parseAll;rw[hbt]
   rw[parseA_eq]at HP0;have hrl:=hrd.lt;have Y1:=iH (Y.out.trans (hb.mono Y.out.size));have hsW:(w.heap.size+1)+1<=rb:=by rw[World.size_alloc,World.size_alloc]at hrb;omega
   have HB2:=iH (B2.out.below hb B2.out.lt);have HB4:=iH (B4.out.below hb B4.out.lt);have HI1:=iH (HI.out.below hb);have HR1:=iH (HR.out.below hb);have c20:=HB2.out.k0;have c21:=HB2.out.k1;have c22:=HB2.out.k2;have c23:=HB2.out.k3;have hl2:=HB2.out.lt;have y2:Below w1.heap.size w1 ((w1.alloc (.cells #[.pointer (some ⟨rb,0,none⟩),.slice m.si.A m.si.n m.si.c,.slice m.sr.A m.sr.n m.sr.c,.slice m.st.A m.st.n m.st.c,.slice m.sx.A m.sx.n m.sx.c,.string ⟨#[]⟩,.int .i64 0,.int .i64 0,.slice none 0 0,.int .i64 0,.int .i64 0] 142)).alloc (.cells #[.pointer (some ⟨w1.heap.size,0,none⟩)] 140)):=((Below.refl _ _).alloc (Nat.le_refl _) _).alloc (by simp) _;have HPA:Hid (PAt ((w1.alloc (.cells #[.pointer (some ⟨rb,0,none⟩),.slice m.si.A m.si.n m.si.c,.slice m.sr.A m.sr.n m.sr.c,.slice m.st.A m.st.n m.st.c,.slice m.sx.A m.sx.n m.sx.c,.string ⟨#[]⟩,.int .i64 0,.int .i64 0,.slice none 0 0,.int .i64 0,.int .i64 0] 142)).alloc (.cells #[.pointer (some ⟨w1.heap.size,0,none⟩)] 140)) rb w1.heap.size m (toks s) s.size (0,0)) :=
    iH ⟨hrd.below y2,(Bk.new w1 142 (pCells rb m (0,0))).alloc _,HI1.out.below y2,HR1.out.below y2,hrl,htk⟩
   have HBx:Hid (Bk ((w1.alloc (.cells #[.pointer (some ⟨rb,0,none⟩),.slice m.si.A m.si.n m.si.c,.slice m.sr.A m.sr.n m.sr.c,.slice m.st.A m.st.n m.st.c,.slice m.sx.A m.sx.n m.sx.c,.string ⟨#[]⟩,.int .i64 0,.int .i64 0,.slice none 0 0,.int .i64 0,.int .i64 0] 142)).alloc (.cells #[.pointer (some ⟨w1.heap.size,0,none⟩)] 140)) (w1.heap.size+1) 140 [.pointer (some ⟨w1.heap.size,0,none⟩)]):=by
    have:=Bk.new (w1.alloc (.cells #[.pointer (some ⟨rb,0,none⟩),.slice m.si.A m.si.n m.si.c,.slice m.sr.A m.sr.n m.sr.c,.slice m.st.A m.st.n m.st.c,.slice m.sx.A m.sx.n m.sx.c,.string ⟨#[]⟩,.int .i64 0,.int .i64 0,.slice none 0 0,.int .i64 0,.int .i64 0] 142)) 140 [.pointer (some ⟨w1.heap.size,0,none⟩)];rw[World.size_alloc]at this;exact iH this
   have HY2:=iH y2;have hs2:((w1.alloc (.cells #[.pointer (some ⟨rb,0,none⟩),.slice m.si.A m.si.n m.si.c,.slice m.sr.A m.sr.n m.sr.c,.slice m.st.A m.st.n m.st.c,.slice m.sx.A m.sx.n m.sx.c,.string ⟨#[]⟩,.int .i64 0,.int .i64 0,.slice none 0 0,.int .i64 0,.int .i64 0] 142)).alloc (.cells #[.pointer (some ⟨w1.heap.size,0,none⟩)] 140)).heap.size=w1.heap.size+1+1:=by simp
   have HS2:=iH hs2;clear hbt hb htk hrd B2 B4 HI HR y2 hs2 HI1 HR1 Y;generalize toks s=ts at *;have hzr:(⟨#[]⟩:ByteArray)=⟨#[]⟩:=rfl;go_wp2_with fail;generalize hpb:w1.heap.size=pb at *;generalize hVe:(w1.alloc (.cells #[.pointer (some ⟨rb,0,none⟩),.slice m.si.A m.si.n m.si.c,.slice m.sr.A m.sr.n m.sr.c,.slice m.st.A m.st.n m.st.c,.slice m.sx.A m.sx.n m.sx.c,.string ⟨#[]⟩,.int .i64 0,.int .i64 0,.slice none 0 0,.int .i64 0,.int .i64 0] 142)).alloc (.cells #[.pointer (some ⟨pb,0,none⟩)] 140)=V at *;have yat:Below V.heap.size V ((V.alloc (.cells #[.int .i64 0] 3)).alloc (.cells #[.bool false] 4)):=((Below.refl _ _).alloc (Nat.le_refl _) _).alloc (by simp) _;have hsV:=HS2.out;have KT:=try_any (w:=V) (bx:=pb+1) (m:=m) (len:=s.size) (p:=jP m (5*ts.length+5) true ts (0,0)) hrl (by omega)
    (iH (clos_any (HPA.out.below yat) (HBx.out.below yat (by omega)) (by omega) (by omega) (read_all m s.size rb pb (5*ts.length+5) _ ts (0,0) ((HPA.out.below yat).below (Below.refl _ _).drew) (Nat.le_refl _))))
   refine KT.mono ?_;intro e w3 hp;clear KT yat;have HBV:=iH (HB4.out.below HY2.out (by have:=HB4.out.lt;omega));have HCV:=iH (HB2.out.below HY2.out (by have:=HB2.out.lt;omega));have YV:=iH (Y1.out.trans (HY2.out.mono (by have:=Y1.out.size;omega)));clear HB4 HB2 Y1 HY2 HPA c20 c21 c22 c23 hl2;generalize hjp:jP m (5*ts.length+5) true ts (0,0)=p at *;cases p with
   | bad x =>
     obtain⟨rfl,hg⟩:=hp;have HQ:Hid (parseAll m s=.err (atOf x s.size) 2):=by show _=_;rw[HP0.out];show(match jP m (5*ts.length+5) true ts (0,0)with | .bad r=>_ | .ok k r st=>_)=_;rw[hjp]
     have BR3:=HBV.out.gr2 hg (by omega) (by omega);have HB:=iH BR3;have Y3:=iH (hg.below YV.out (by omega) (by omega) YV.out.size);have z0:=BR3.k0;have z1:=BR3.k1;have z2:=BR3.k2;have z3:=BR3.k3;have fz0:=BR3.frozen 0;have fz1:=BR3.frozen 1;have fz2:=BR3.frozen 2;have fz3:=BR3.frozen 3;have hzl:=BR3.lt;clear hjp hg BR3 HBV HCV;go_wp2;have HX:=four_laid HB.out (.string ⟨#[]⟩) (.int .i64 0) (.int .i64 0) (.slice none 0 0);have YX:=four_below (w:=w3) (B:=w.heap.size) (g:=w.heap.size+1) (by omega) (.string ⟨#[]⟩) (.int .i64 0) (.int .i64 0) (.slice none 0 0);generalize(((w3.setCell ⟨w.heap.size+1,0,none⟩ (.string ⟨#[]⟩)).setCell ⟨w.heap.size+1,1,none⟩ (.int .i64 0)).setCell ⟨w.heap.size+1,2,none⟩ (.int .i64 0)).setCell ⟨w.heap.size+1,3,none⟩ (.slice none 0 0)=X at *;have x0:=HX.k0;have x1:=HX.k1;have x2:=HX.k2;have x3:=HX.k3;refine bodyPost_ret (v:=.tuple #[.agg #[.string ⟨#[]⟩,.int .i64 0,.int .i64 0,.slice none 0 0],.int .i64 (atOf x s.size),.int .i64 2]) (by simp[results,Tryz.results42,go_sem,x0,x1,x2,x3]) rfl ?_;rw[HQ.out];exact⟨rfl,Y3.out.trans YX⟩
   | ok k r st =>
     obtain⟨h1,h2,hg,M,hMc,hMo,hB⟩:=hp;have HMc:=iH hMc;clear hMc;have BR3:=HBV.out.gr2 hg (by omega) (by omega);have HC3:=iH (HCV.out.gr2 hg (by omega) (by omega));have HX3:=iH (HBx.out.gr2 hg (by omega) (by omega));have HRs:=iH BR3;have HB:=iH hB;have Y3:=iH (hg.below YV.out (by omega) (by omega) YV.out.size);have HM:=iH ((hMo.mono (Q:=fun b=>w.heap.size<=b∧b≠w.heap.size+1) fun b _ hb=>⟨by omega,by omega⟩));have HJ:Hid (parseAll m s=if r≠[] then .err (atOf r s.size) 2 else if st.1≠0 then .err st.2 st.1 else if 64<k.size∨16<k.depth then .err 0 4 else .mark k):=by
      show _=_;rw[HP0.out];show(match jP m (5*ts.length+5) true ts (0,0)with | .bad r=>_ | .ok k r st=>_)=_;rw[hjp]
     by_cases hr0:r=[]
     ·rw [h2 hr0];have HJ2:Hid (parseAll m s=if st.1≠0 then .err st.2 st.1 else if 64<k.size∨16<k.depth then .err 0 4 else .mark k):=by show _=_;rw[HJ.out,if_neg (by simp[hr0])]
      have x0:=HX3.out.k0;have xl:=HX3.out.lt;have b10:w3.cell? ⟨pb,10,none⟩=some (.int .i64 st.1):=HB.out.cell 10;have b9:w3.cell? ⟨pb,9,none⟩=some (.int .i64 st.2):=HB.out.cell 9;have bl:=HB.out.lt;clear HJ h1 h2 hr0 hjp hg HBV HCV HBx HP0 hMo hB;obtain⟨s1,s2⟩:=st;dsimp only at *;by_cases hst:s1=0
      ·have HJ3:Hid (parseAll m s=if 64<k.size∨16<k.depth then .err 0 4 else .mark k):=by show _=_;rw[HJ2.out,if_neg (by simp[hst])]
       subst hst;have KV:=iH (valid_any m.si m.sr m.st m.sx M w3.drew _ HM.out.drew);clear HJ2;go_wp2_with fail;have B0:Below w3.heap.size w3 w3:=Below.refl _ _;have HC:Hid (∀U,Below w3.heap.size w3 U->U.cell? ⟨w.heap.size,0,none⟩=some (.slice m.si.A m.si.n m.si.c)∧U.cell? ⟨w.heap.size,1,none⟩=some (.slice m.sr.A m.sr.n m.sr.c)∧U.cell? ⟨w.heap.size,2,none⟩=some (.slice m.st.A m.st.n m.st.c)∧U.cell? ⟨w.heap.size,3,none⟩=some (.slice m.sx.A m.sx.n m.sx.c)∧U.cell? ⟨pb+1,0,none⟩=some (.pointer (some ⟨pb,0,none⟩))∧U.cell? ⟨pb,5,none⟩=some (.string M.op)∧U.cell? ⟨pb,6,none⟩=some (.int .i64 M.a)∧U.cell? ⟨pb,7,none⟩=some (.int .i64 M.b)∧U.cell? ⟨pb,8,none⟩=some (.slice M.s.A M.s.n M.s.c)):=iH fun U hU =>
        ⟨(HC3.out.below hU HC3.out.lt).cell 0,(HC3.out.below hU HC3.out.lt).cell 1,(HC3.out.below hU HC3.out.lt).cell 2,(HC3.out.below hU HC3.out.lt).cell 3,(HX3.out.below hU HX3.out.lt).cell 0,(HB.out.below hU HB.out.lt).cell 5,(HB.out.below hU HB.out.lt).cell 6,(HB.out.below hU HB.out.lt).cell 7,(HB.out.below hU HB.out.lt).cell 8⟩
       go_region_held3 (fun U=>U.cell? ⟨w.heap.size,0,none⟩=some (.slice m.si.A m.si.n m.si.c)∧U.cell? ⟨w.heap.size,1,none⟩=some (.slice m.sr.A m.sr.n m.sr.c)∧U.cell? ⟨w.heap.size,2,none⟩=some (.slice m.st.A m.st.n m.st.c)∧U.cell? ⟨w.heap.size,3,none⟩=some (.slice m.sx.A m.sx.n m.sx.c)∧U.cell? ⟨pb+1,0,none⟩=some (.pointer (some ⟨pb,0,none⟩))∧U.cell? ⟨pb,5,none⟩=some (.string M.op)∧U.cell? ⟨pb,6,none⟩=some (.int .i64 M.a)∧U.cell? ⟨pb,7,none⟩=some (.int .i64 M.b)∧U.cell? ⟨pb,8,none⟩=some (.slice M.s.A M.s.n M.s.c)) (first | exact HC.out _ B0.drew | exact HC.out _ yd)
        (first
         | (go_at_call 20;(with_reducible refine KV.out.mono ?_);rintro e w4 ⟨rfl,hb4⟩;have yd:Below w3.heap.size w3 w4:=(Below.refl _ _).drew.trans hb4))
       have HC4:=iH (HC3.out.below yd HC3.out.lt);have HX4:=iH (HX3.out.below yd HX3.out.lt);have HB44:=iH (HB.out.below yd HB.out.lt);have BR4:=BR3.below yd BR3.lt;have HM4:=iH (HM.out.bel yd);have Y4:=iH (Y3.out.trans (yd.mono Y3.out.size));clear KV hb4 yd HC B0;by_cases hv:validM m.si.n m.sr.n M.core=4
       ·have HQ:Hid (parseAll m s=.err 0 4):=by
         have:=(valid_4 m.si.n m.sr.n M.core).1 hv;rw[HMc.out]at this;show _=_;rw[HJ3.out,if_pos this]
        clear HJ3;have z0:=BR4.k0;have z1:=BR4.k1;have z2:=BR4.k2;have z3:=BR4.k3;have fz0:=BR4.frozen 0;have fz1:=BR4.frozen 1;have fz2:=BR4.frozen 2;have fz3:=BR4.frozen 3;have hzl:=BR4.lt;have hBR:=iH BR4;rw[hv];clear BR4 BR3 HC3 HX3 HB HM HC4 HX4 HB44 HM4 hv;go_wp2;have HX:=four_laid hBR.out (.string ⟨#[]⟩) (.int .i64 0) (.int .i64 0) (.slice none 0 0);have YX:=four_below (w:=w4) (B:=w.heap.size) (g:=w.heap.size+1) (by omega) (.string ⟨#[]⟩) (.int .i64 0) (.int .i64 0) (.slice none 0 0);generalize(((w4.setCell ⟨w.heap.size+1,0,none⟩ (.string ⟨#[]⟩)).setCell ⟨w.heap.size+1,1,none⟩ (.int .i64 0)).setCell ⟨w.heap.size+1,2,none⟩ (.int .i64 0)).setCell ⟨w.heap.size+1,3,none⟩ (.slice none 0 0)=X at *;have x0:=HX.k0;have x1:=HX.k1;have x2:=HX.k2;have x3:=HX.k3;refine bodyPost_ret (v:=.tuple #[.agg #[.string ⟨#[]⟩,.int .i64 0,.int .i64 0,.slice none 0 0],.int .i64 0,.int .i64 4]) (by simp[results,Tryz.results42,go_sem,x0,x1,x2,x3]) rfl ?_;rw[HQ.out];exact⟨rfl,Y4.out.trans YX⟩
       ·have HQ:Hid (parseAll m s=.mark k):=by
         have:¬ (64<k.size∨16<k.depth):=fun h=>hv ((valid_4 m.si.n m.sr.n M.core).2 (by rw[HMc.out];exact h))
         show _=_;rw[HJ3.out,if_neg this]
        clear HJ3;have z0:=BR4.k0;have z1:=BR4.k1;have z2:=BR4.k2;have z3:=BR4.k3;have fz0:=BR4.frozen 0;have fz1:=BR4.frozen 1;have fz2:=BR4.frozen 2;have fz3:=BR4.frozen 3;have hzl:=BR4.lt;have hBR:=iH BR4;have e0:=HX4.out.k0;have el:=HX4.out.lt;have e5:=HB44.out.k5;have e6:=HB44.out.k6;have e7:=HB44.out.k7;have e8:=HB44.out.k8;have el2:=HB44.out.lt;have hv':(validM m.si.n m.sr.n M.core == 4)=false:=by simpa using hv
        clear BR4 BR3 HC3 HX3 HB HM HC4 HX4 HB44 hv;generalize validM m.si.n m.sr.n M.core=vv at *;go_wp2;have hMX:=HM4.out.grown (four_self w4 (w.heap.size+1) (.string M.op) (.int .i64 M.a) (.int .i64 M.b) (.slice M.s.A M.s.n M.s.c)) fun b hb=>by simp;exact hb.2
        have HX:=four_laid hBR.out (.string M.op) (.int .i64 M.a) (.int .i64 M.b) (.slice M.s.A M.s.n M.s.c);have YX:=four_below (w:=w4) (B:=w.heap.size) (g:=w.heap.size+1) (by omega) (.string M.op) (.int .i64 M.a) (.int .i64 M.b) (.slice M.s.A M.s.n M.s.c);generalize(((w4.setCell ⟨w.heap.size+1,0,none⟩ (.string M.op)).setCell ⟨w.heap.size+1,1,none⟩ (.int .i64 M.a)).setCell ⟨w.heap.size+1,2,none⟩ (.int .i64 M.b)).setCell ⟨w.heap.size+1,3,none⟩ (.slice M.s.A M.s.n M.s.c)=X at *;have x0:=HX.k0;have x1:=HX.k1;have x2:=HX.k2;have x3:=HX.k3;refine bodyPost_ret (v:=.tuple #[.agg #[.string M.op,.int .i64 M.a,.int .i64 M.b,.slice M.s.A M.s.n M.s.c],.int .i64 0,.int .i64 0]) (by simp[results,Tryz.results42,go_sem,x0,x1,x2,x3]) rfl ?_;rw[HQ.out];exact⟨M,rfl,HMc.out,hMX.mono fun b _ hb=>hb.1,Y4.out.trans YX⟩
      ·have HQ:Hid (parseAll m s=.err s2 s1):=by show _=_;rw[HJ2.out,if_pos hst]
       clear HJ2;have z0:=BR3.k0;have z1:=BR3.k1;have z2:=BR3.k2;have z3:=BR3.k3;have fz0:=BR3.frozen 0;have fz1:=BR3.frozen 1;have fz2:=BR3.frozen 2;have fz3:=BR3.frozen 3;have hzl:=BR3.lt;clear BR3 HC3 HX3 HB HM;go_wp2
       go_region
       all_goals go_wp2
       have HX:=four_laid HRs.out (.string ⟨#[]⟩) (.int .i64 0) (.int .i64 0) (.slice none 0 0);have YX:=four_below (w:=w3) (B:=w.heap.size) (g:=w.heap.size+1) (by omega) (.string ⟨#[]⟩) (.int .i64 0) (.int .i64 0) (.slice none 0 0);generalize(((w3.setCell ⟨w.heap.size+1,0,none⟩ (.string ⟨#[]⟩)).setCell ⟨w.heap.size+1,1,none⟩ (.int .i64 0)).setCell ⟨w.heap.size+1,2,none⟩ (.int .i64 0)).setCell ⟨w.heap.size+1,3,none⟩ (.slice none 0 0)=X at *;have x0:=HX.k0;have x1:=HX.k1;have x2:=HX.k2;have x3:=HX.k3;refine bodyPost_ret (v:=.tuple #[.agg #[.string ⟨#[]⟩,.int .i64 0,.int .i64 0,.slice none 0 0],.int .i64 s2,.int .i64 s1]) (by simp[results,Tryz.results42,go_sem,x0,x1,x2,x3]) rfl ?_;rw[HQ.out];exact⟨rfl,(Y3.out.trans YX).drew⟩
     ·rw[h1 hr0];have HQ:Hid (parseAll m s=.err (atOf r s.size) 2):=by show _=_;rw[HJ.out,if_pos hr0]
      have HB':=HRs;have z0:=BR3.k0;have z1:=BR3.k1;have z2:=BR3.k2;have z3:=BR3.k3;have fz0:=BR3.frozen 0;have fz1:=BR3.frozen 1;have fz2:=BR3.frozen 2;have fz3:=BR3.frozen 3;have hzl:=BR3.lt;clear HJ h1 h2 hr0 hjp hg BR3 HBV HCV HC3 HX3 HB HM HBx HP0 hMo hB;go_wp2;have HX:=four_laid HRs.out (.string ⟨#[]⟩) (.int .i64 0) (.int .i64 0) (.slice none 0 0);have YX:=four_below (w:=w3) (B:=w.heap.size) (g:=w.heap.size+1) (by omega) (.string ⟨#[]⟩) (.int .i64 0) (.int .i64 0) (.slice none 0 0);generalize(((w3.setCell ⟨w.heap.size+1,0,none⟩ (.string ⟨#[]⟩)).setCell ⟨w.heap.size+1,1,none⟩ (.int .i64 0)).setCell ⟨w.heap.size+1,2,none⟩ (.int .i64 0)).setCell ⟨w.heap.size+1,3,none⟩ (.slice none 0 0)=X at *;have x0:=HX.k0;have x1:=HX.k1;have x2:=HX.k2;have x3:=HX.k3;refine bodyPost_ret (v:=.tuple #[.agg #[.string ⟨#[]⟩,.int .i64 0,.int .i64 0,.slice none 0 0],.int .i64 (atOf r s.size),.int .i64 2]) (by simp[results,Tryz.results42,go_sem,x0,x1,x2,x3]) rfl ?_;rw[HQ.out];exact⟨rfl,Y3.out.trans YX⟩
theorem matches_any (s:StepM) (M:MkM) (w:World) (P:Nat->Prop) (h:M.Ok w 49 P) (hs:s.Ok w) :
 Calls Tryz.prog 23 #[.agg #[.string M.op,.int .i64 M.a,.int .i64 M.b,.slice M.s.A M.s.n M.s.c],.agg #[.int .i64 s.id,.int .i64 s.kind,.int .i64 s.actor,.int .i64 s.tick,.int .i64 s.rule,.int .i64 s.times,.slice s.sm.A s.sm.n s.sm.c]] w fun e w'=>e=.returned (.bool (M.core.val (condV s)))∧Below w.heap.size w w':=by
 have y:Below w.heap.size w ((w.alloc (.cells #[.string M.op,.int .i64 M.a,.int .i64 M.b,.slice M.s.A M.s.n M.s.c] 49)).alloc (.cells #[.int .i64 s.id,.int .i64 s.kind,.int .i64 s.actor,.int .i64 s.tick,.int .i64 s.rule,.int .i64 s.times,.slice s.sm.A s.sm.n s.sm.c] 59)):=((Below.refl _ _).alloc (Nat.le_refl _) _).alloc (by simp) _;have Y:=iH y;have HB4:=iH ((Bk.new w 49 [.string M.op,.int .i64 M.a,.int .i64 M.b,.slice M.s.A M.s.n M.s.c]).alloc (.cells #[.int .i64 s.id,.int .i64 s.kind,.int .i64 s.actor,.int .i64 s.tick,.int .i64 s.rule,.int .i64 s.times,.slice s.sm.A s.sm.n s.sm.c] 59));have HB5:Hid (Bk ((w.alloc (.cells #[.string M.op,.int .i64 M.a,.int .i64 M.b,.slice M.s.A M.s.n M.s.c] 49)).alloc (.cells #[.int .i64 s.id,.int .i64 s.kind,.int .i64 s.actor,.int .i64 s.tick,.int .i64 s.rule,.int .i64 s.times,.slice s.sm.A s.sm.n s.sm.c] 59)) (w.heap.size+1) 59 s.cells):=by
  have:=Bk.new (w.alloc (.cells #[.string M.op,.int .i64 M.a,.int .i64 M.b,.slice M.s.A M.s.n M.s.c] 49)) 59 s.cells;rw[World.size_alloc]at this;exact iH this
 have H:=iH h;have HS:=iH hs;clear h y hs;go_enter Tryz.func23,Tryz.ntmps23;go_wp2;refine wp_region_X (fun w'=>Bk w' w.heap.size 49 [.string M.op,.int .i64 M.a,.int .i64 M.b,.slice M.s.A M.s.n M.s.c]∧Bk w' (w.heap.size+1) 59 s.cells) 4 (n:=5) rfl (by kernel_rfl) (⟨HB4.out.drew,HB5.out.drew⟩) (fun hS=>?_);refine tX 1 (some 6) (v:=?_) rfl ⟨rfl,?_⟩ hS ?_;rotate_left
 ·intro w' hS';have e0:=hS'.1.k0;have e1:=hS'.1.k1;have e2:=hS'.1.k2;have e3:=hS'.1.k3;have el:=hS'.1.lt;(go_simp;try with_reducible rfl)
 refine tX 2 (some 7) (v:=?_) rfl ⟨rfl,?_⟩ hS ?_;rotate_left
 ·intro w' hS';have e0:=hS'.2.k0;have e1:=hS'.2.k1;have e2:=hS'.2.k2;have e3:=hS'.2.k3;have e4:=hS'.2.k4;have e5:=hS'.2.k5;have e6:=hS'.2.k6;have el:=hS'.2.lt;(go_simp;try with_reducible rfl)
 refine X_o 0 rfl fun K hK=>?_;go_simp;have K:=iH (conds_any ((w.alloc (.cells #[.string M.op,.int .i64 M.a,.int .i64 M.b,.slice M.s.A M.s.n M.s.c] 49)).alloc (.cells #[.int .i64 s.id,.int .i64 s.kind,.int .i64 s.actor,.int .i64 s.tick,.int .i64 s.rule,.int .i64 s.times,.slice s.sm.A s.sm.n s.sm.c] 59)).drew);(with_reducible refine K.out.mono ?_);rintro e w2 ⟨bm,kk,b1,b2,b3,rfl,hC,hb2⟩;have yd:Below ((w.alloc (.cells #[.string M.op,.int .i64 M.a,.int .i64 M.b,.slice M.s.A M.s.n M.s.c] 49)).alloc (.cells #[.int .i64 s.id,.int .i64 s.kind,.int .i64 s.actor,.int .i64 s.tick,.int .i64 s.rule,.int .i64 s.times,.slice s.sm.A s.sm.n s.sm.c] 59)).heap.size ((w.alloc (.cells #[.string M.op,.int .i64 M.a,.int .i64 M.b,.slice M.s.A M.s.n M.s.c] 49)).alloc (.cells #[.int .i64 s.id,.int .i64 s.kind,.int .i64 s.actor,.int .i64 s.tick,.int .i64 s.rule,.int .i64 s.times,.slice s.sm.A s.sm.n s.sm.c] 59)) w2:=(Below.refl _ _).drew.trans hb2;have HY2:=iH (Y.out.trans (yd.mono Y.out.size));have HB42:=iH (HB4.out.below yd HB4.out.lt);have HB52:=iH (HB5.out.below yd HB5.out.lt);have KK:=iH (match_any s M w2 P (H.out.bel HY2.out) hC (HS.out.below HY2.out));refine hK _ _ ⟨HB42.out,HB52.out⟩ ?_;clear hK K hC hb2 yd;refine X_o 3 rfl fun K hK=>?_;go_simp;(with_reducible refine KK.out.mono ?_);rintro e w3 ⟨rfl,hb3⟩;have HY3:=iH (HY2.out.trans (hb3.mono HY2.out.size));refine hK _ _ ⟨HB42.out.below hb3 HB42.out.lt,HB52.out.below hb3 HB52.out.lt⟩ ?_;clear hK KK hb3;refine X_tail (by kernel_rfl) ?_;refine A_one 4 (by kernel_rfl) rfl rfl (fun K hK=>?_);go_simp;refine hK _ _ ?_;clear hK;refine A_done (by kernel_rfl) ?_;go_wp2;go_ret;exact⟨rfl,HY3.out⟩
end Go.Proofs.YtocodlpgaamblaaGreatDoor
