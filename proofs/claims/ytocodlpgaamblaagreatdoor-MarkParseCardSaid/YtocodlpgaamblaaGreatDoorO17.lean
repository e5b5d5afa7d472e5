/- The writer writes a mark. Print. Matches, Steps. -/
import Derived.Test.YtocodlpgaamblaaGreatDoorO5
import Derived.Test.YtocodlpgaamblaaGreatDoorO10
import Derived.Test.YtocodlpgaamblaaGreatDoorO14
import Derived.Test.YtocodlpgaamblaaGreatDoorO16
set_option linter.unusedVariables false
set_option linter.unusedSimpArgs false
set_option maxRecDepth 100000
set_option maxHeartbeats 4000000
open Go.RowKit
namespace Go.Proofs.YtocodlpgaamblaaGreatDoor
def WriteS (its rus:Sl) (it rn:List ByteArray) (m:MkM):Prop:=∀(w:World) (B wb:Nat) (bs:List UInt8) (fit:Bool) (P:Nat->Prop),m.Ok w 49 P->m.core.check it.length rn.length=0->WCtx w B its rus it rn->WrAt w B wb bs its rus fit->bs.length+(Mk.text rn it m.core).length<=1000000 ->
 Calls Tryz.prog 52 #[.pointer (some ⟨wb,0,none⟩),.agg #[.string m.op,.int .i64 m.a,.int .i64 m.b,.slice m.s.A m.s.n m.s.c]] w (Wrote w B wb bs its rus fit (Mk.text rn it m.core) (Mk.named rn it m.core))
theorem core_op (m:MkM):m.core.op=m.op:=by cases m;rfl
theorem kid_writes {W:World} {B wb:Nat} {bs:List UInt8} {its rus:Sl} {it rn:List ByteArray} {fit:Bool} {P:Nat->Prop} (o:ByteArray) (m:MkM) (ih:WriteS its rus it rn m) (h:m.Ok W 49 P) (hc:m.core.check it.length rn.length=0) (hC:WCtx W B its rus it rn) (hW:WrAt W B wb bs its rus fit)
 (hlen:bs.length+(wrapT (parT o m.op) (Mk.text rn it m.core)).length<=1000000):Calls Tryz.prog 80 #[.pointer (some ⟨wb,0,none⟩),.string o,.agg #[.string m.op,.int .i64 m.a,.int .i64 m.b,.slice m.s.A m.s.n m.s.c]] W (Wrote W B wb bs its rus fit (wrapT (parT o m.op) (Mk.text rn it m.core)) (Mk.named rn it m.core)):=by
 have H0:=iH (WSt.start hC hW m.op m.a m.b m.s);have H:=iH h;have HI:=iH ih;have HC:=iH hc;have q1:(m.op.toList == [97,110,100])=decide (m.op=sAnd):=by rw[<- lAnd];exact eqL _ _
 have q2:(m.op.toList == [111,114])=decide (m.op=sOr):=by rw[<- lOr];exact eqL _ _
 have q3:(o.toList == [110,111,116])=decide (o=sNot):=by rw[<- lNot];exact eqL _ _
 have q4:(o.toList == m.op.toList)=decide (o=m.op):=eqL _ _;have q5:(o.toList == [97,110,100])=decide (o=sAnd):=by rw[<- lAnd];exact eqL _ _
 have hp:parT o m.op=((decide (m.op=sAnd) || decide (m.op=sOr)) && (decide (o=sNot) || decide (o=m.op) || decide (o=sAnd))):=rfl;have b0:(W.alloc (.cells #[.string m.op,.int .i64 m.a,.int .i64 m.b,.slice m.s.A m.s.n m.s.c] 49)).cell? ⟨W.heap.size,0,none⟩=some (.string m.op):=H0.out.bx.cell 0;generalize decide (m.op=sAnd)=p1 at *;generalize decide (m.op=sOr)=p2 at *;generalize decide (o=sNot)=p3 at *;generalize decide (o=m.op)=p4 at *;generalize decide (o=sAnd)=p5 at *;generalize hpp:parT o m.op=pp at *;clear h hc hC hW ih hpp;have HLEN:=iH hlen;clear hlen;have hYes:pp=true->Hid (∀w1:World,WSt W w1 B wb W.heap.size [.string m.op,.int .i64 m.a,.int .i64 m.b,.slice m.s.A m.s.n m.s.c] (bs ++ (⟨#[40]⟩:ByteArray).data.toList) its rus it rn fit->Calls Tryz.prog 52 #[.pointer (some ⟨wb,0,none⟩),.agg #[.string m.op,.int .i64 m.a,.int .i64 m.b,.slice m.s.A m.s.n m.s.c]] w1 (Wrote w1 B wb (bs ++ (⟨#[40]⟩:ByteArray).data.toList) its rus fit (Mk.text rn it m.core) (Mk.named rn it m.core))):=fun e=>iH fun w1 h1 =>
  HI.out w1 B wb _ fit P (H.out.keep (h1.gr.keep 49 (by decide) (by decide))) HC.out h1.ctx h1.wr (by
   have:=HLEN.out
   rw[e]at this
   simp only[wrapT,if_true,List.length_append,List.length_cons,List.length_nil]at this
   simp
   omega)
 have hLp:pp=true->Hid (bs.length+(⟨#[40]⟩:ByteArray).size<=1000000∧((bs ++ (⟨#[40]⟩:ByteArray).data.toList) ++ Mk.text rn it m.core).length+(⟨#[41]⟩:ByteArray).size<=1000000):=fun e=>iH (by
  have:=HLEN.out
  rw[e]at this
  simp only[wrapT,if_true,List.length_append,List.length_cons,List.length_nil]at this
  refine⟨?_,?_⟩
  ·show bs.length+1<=_;omega
  ·simp only[List.length_append];show bs.length+1+_+1<=_;omega)
 have hNo:pp=false->Hid (Calls Tryz.prog 52 #[.pointer (some ⟨wb,0,none⟩),.agg #[.string m.op,.int .i64 m.a,.int .i64 m.b,.slice m.s.A m.s.n m.s.c]] (W.alloc (.cells #[.string m.op,.int .i64 m.a,.int .i64 m.b,.slice m.s.A m.s.n m.s.c] 49)) (Wrote (W.alloc (.cells #[.string m.op,.int .i64 m.a,.int .i64 m.b,.slice m.s.A m.s.n m.s.c] 49)) B wb bs its rus fit (Mk.text rn it m.core) (Mk.named rn it m.core))):=fun e=>iH
  (HI.out _ B wb _ fit P (H.out.keep (H0.out.gr.keep 49 (by decide) (by decide))) HC.out H0.out.ctx H0.out.wr (by
   have:=HLEN.out
   rw[e]at this
   simpa[wrapT]using this))
 clear HLEN HI H HC;cases pp
 ·have KN:=hNo rfl;clear hYes hLp hNo;generalize Mk.text rn it m.core=tx at *;generalize Mk.named rn it m.core=nd at *;rcases Bool.eq_false_or_eq_true p1 with hp1|hp1 <;> rcases Bool.eq_false_or_eq_true p2 with hp2|hp2 <;> rcases Bool.eq_false_or_eq_true p3 with hp3|hp3 <;> rcases Bool.eq_false_or_eq_true p4 with hp4|hp4 <;> rcases Bool.eq_false_or_eq_true p5 with hp5|hp5 <;> subst hp1 hp2 hp3 hp4 hp5 <;> first
   | (exact absurd hp (by decide))
   | (clear hp
      go_enter Tryz.func80,Tryz.ntmps80
      go_wp2_with fail
      (with_reducible refine KN.out.mono ?_)
      rintro e w1 ⟨rfl,hw,hg⟩
      have HW:=iH hw
      have HG:=iH (H0.out.gr.trans hg)
      clear KN hw hg
      go_wp2
      go_end0
      exact⟨rfl,HW.out,HG.out⟩)
 ·have KY:=hYes rfl;have KL:=hLp rfl;clear hYes hLp hNo;generalize Mk.text rn it m.core=tx at *;generalize Mk.named rn it m.core=nd at *;rcases Bool.eq_false_or_eq_true p1 with hp1|hp1 <;> rcases Bool.eq_false_or_eq_true p2 with hp2|hp2 <;> rcases Bool.eq_false_or_eq_true p3 with hp3|hp3 <;> rcases Bool.eq_false_or_eq_true p4 with hp4|hp4 <;> rcases Bool.eq_false_or_eq_true p5 with hp5|hp5 <;> subst hp1 hp2 hp3 hp4 hp5 <;> first
   | (exact absurd hp (by decide))
   | (clear hp
      have K:=iH (H0.out.write _ KL.out.1)
      go_enter Tryz.func80,Tryz.ntmps80
      go_wp2_with fail
      (with_reducible refine K.out.mono ?_)
      rintro e w1 ⟨rfl,hw,_⟩
      have H1:=iH hw
      have c0:=hw.bx.k0
      have c1:=hw.bx.k1
      have c2:=hw.bx.k2
      have c3:=hw.bx.k3
      have cl:=hw.bx.lt
      have K2:=iH (KY.out w1 hw)
      clear K hw b0
      go_wp2_with fail
      (with_reducible refine K2.out.mono ?_)
      rintro e w2 ⟨rfl,hw,hg⟩
      have H2:=iH (H1.out.go hw hg)
      clear K2 hw hg c0 c1 c2 c3 cl
      have K3:=iH (H2.out.write _ KL.out.2)
      go_wp2_with fail
      (with_reducible refine K3.out.mono ?_)
      rintro e w3 ⟨rfl,hw,_⟩
      have H3:=iH hw
      clear K3 hw
      go_wp2
      go_end0
      refine⟨rfl,?_,H3.out.gr⟩
      have:=H3.out.wr
      simpa[wrapT,List.append_assoc]using this)
theorem kid_bound {rn it:List ByteArray} {o:ByteArray} {ks:List Mk} {k:Mk} {f:Bool} (h:k∈ks):(wrapT (parT o k.op) (Mk.text rn it k)).length<=(Mk.textL rn it o f ks).length:=by
 induction ks generalizing f with
 | nil=>cases h
 | cons x xs ih =>
   simp only[Mk.textL,List.length_append];rcases List.mem_cons.1 h with rfl|h
   ·omega
   ·have:=ih (f:=false) h;omega
theorem textL_take {rn it:List ByteArray} {o:ByteArray} (ks:List Mk) (k:Nat) (h:k<ks.length):Mk.textL rn it o true (ks.take (k+1))=Mk.textL rn it o true (ks.take k) ++ (sepT o (k == 0) ++ wrapT (parT o ks[k].op) (Mk.text rn it ks[k])):=by
 rw[List.take_succ_eq_append_getElem h,textL_snoc];have:(true && (ks.take k).isEmpty)=(k == 0):=by
  cases k with
  | zero=>rfl
  | succ k => cases ks with
    | nil=>simp at h
    | cons x xs=>rfl
 rw[this]
theorem textL_le {rn it:List ByteArray} {o:ByteArray} (ks:List Mk) (k:Nat):(Mk.textL rn it o true (ks.take k)).length<=(Mk.textL rn it o true ks).length:=by
 have h:∀(l m:List Mk) f,(Mk.textL rn it o f l).length<=(Mk.textL rn it o f (l ++ m)).length:=by
  intro l m
  induction l with
  | nil=>intro f;simp[Mk.textL]
  | cons x xs ih=>intro f;simp only[Mk.textL,List.cons_append,List.length_append];have:=ih false;omega
 have:=h (ks.take k) (ks.drop k) true
 rwa [List.take_append_drop]at this
theorem namedL_take {rn it:List ByteArray} (ks:List Mk) (k:Nat) (h:k<ks.length):Mk.namedL rn it (ks.take (k+1))=(Mk.namedL rn it (ks.take k) && Mk.named rn it ks[k]):=by
 rw[List.take_succ_eq_append_getElem h,namedL_snoc]
theorem join_writes {W:World} {B wb:Nat} {bs:List UInt8} {its rus:Sl} {it rn:List ByteArray} {fit:Bool} {P:Nat->Prop} {op:ByteArray} {a b:Int} {l:List MkM} {s:Sl} (h:MkM.Ok W 49 P ⟨op,a,b,l,s⟩) (ho:op=sAnd∨op=sOr) (ih:∀t∈l,WriteS its rus it rn t) (hc:∀t∈l,t.core.check it.length rn.length=0) (hC:WCtx W B its rus it rn) (hW:WrAt W B wb bs its rus fit)
 (hlen:bs.length+(Mk.textL rn it op true (l.map MkM.core)).length<=1000000):Calls Tryz.prog 52 #[.pointer (some ⟨wb,0,none⟩),.agg #[.string op,.int .i64 a,.int .i64 b,.slice s.A s.n s.c]] W (Wrote W B wb bs its rus fit (Mk.textL rn it op true (l.map MkM.core)) (Mk.namedL rn it (l.map MkM.core))):=by
 have H0:=iH (WSt.start hC hW op a b s);have H:=iH h;have Hn:=iH h.len;have hs:=h.small;have HI:=iH ih;have HC:=iH hc;have HLEN:=iH hlen;have hos:op.size<=3:=by rcases ho with rfl | rfl <;> decide
 have b0:(W.alloc (.cells #[.string op,.int .i64 a,.int .i64 b,.slice s.A s.n s.c] 49)).cell? ⟨W.heap.size,0,none⟩=some (.string op):=H0.out.bx.cell 0;have b3:(W.alloc (.cells #[.string op,.int .i64 a,.int .i64 b,.slice s.A s.n s.c] 49)).cell? ⟨W.heap.size,3,none⟩=some (.slice s.A s.n s.c):=H0.out.bx.cell 3;obtain⟨A,n,c⟩:=s;dsimp only at *;have hway:(op.toList == [97,110,100])=true∨((op.toList == [97,110,100])=false∧(op.toList == [111,114])=true):=by
  rcases ho with rfl|rfl
  ·left;rw[lAnd];rfl
  ·right;rw[lOr];exact⟨rfl,rfl⟩
 clear h ih hc hC hW hlen ho;rcases hway with q1|⟨q1,q2⟩
 all_goals
  go_enter Tryz.func52,Tryz.ntmps52;go_wp2_with fail;go_loopw [14] (fun i wr=>∃k:Nat,k<=n∧i=.int .i64 k∧WSt W wr B wb W.heap.size [.string op,.int .i64 a,.int .i64 b,.slice A n c] (bs ++ Mk.textL rn it op true ((l.map MkM.core).take k)) its rus it rn (fit && Mk.namedL rn it ((l.map MkM.core).take k))) (fun i _=>n-(intOf i).toNat)
  case atStart=>exact⟨0,Nat.zero_le _,rfl,by simpa[Mk.textL,Mk.namedL]using H0.out⟩
  case round =>
   obtain⟨k,hk,rfl,hst⟩:=hrel;by_cases hlt:k<n
   ·have hkl:k<l.length:=by have:=Hn.out;omega
    have hkm:k<(l.map MkM.core).length:=by simpa using hkl
    have h49:Keep 49 W wr:=hst.gr.keep 49 (by decide) (by decide);obtain⟨bb,off,rfl,hbb,c0,c1,c2,c3⟩:=(H.out.keep h49).at_ k hkl;dsimp only[MkM.ks,MkM.s]at c0 c1 c2 c3;have hmem:=List.getElem_mem hkl;have hgm:(l.map MkM.core)[k]=l[k].core:=by simp
    have HT:Hid (Mk.textL rn it op true ((l.map MkM.core).take (k+1))=Mk.textL rn it op true ((l.map MkM.core).take k) ++ (sepT op (k == 0) ++ wrapT (parT op l[k].op) (Mk.text rn it l[k].core))):=by
     show _=_;rw[textL_take _ k hkm,hgm,core_op]
    have HN:Hid (Mk.namedL rn it ((l.map MkM.core).take (k+1))=(Mk.namedL rn it ((l.map MkM.core).take k) && Mk.named rn it l[k].core)):=by
     show _=_;rw[namedL_take _ k hkm,hgm]
    have hbd:bs.length+(Mk.textL rn it op true ((l.map MkM.core).take k)).length+((sepT op (k == 0)).length+(wrapT (parT op l[k].op) (Mk.text rn it l[k].core)).length)<=1000000:=by
     have h1:=textL_le (rn:=rn) (it:=it) (o:=op) (l.map MkM.core) (k+1);rw[HT.out]at h1;simp only[List.length_append]at h1;have:=HLEN.out;omega
    have HBD:=iH hbd;have y2:Below wr.heap.size wr (wr.alloc (.cells #[.string l[k].op,.int .i64 l[k].a,.int .i64 l[k].b,.slice l[k].s.A l[k].s.n l[k].s.c] 49)):=(Below.refl _ _).alloc (Nat.le_refl _) _;have HA:=iH (hst.below y2);have HKB:=iH (Bk.new wr 49 [.string l[k].op,.int .i64 l[k].a,.int .i64 l[k].b,.slice l[k].s.A l[k].s.n l[k].s.c]);have HIK:=iH (HI.out _ hmem);have HOK:=iH (H.out.each _ hmem);have HCK:=iH (HC.out _ hmem);have HWL:=iH hst.bx.lt;clear hmem hgm hbd hst h49 y2 hkm;generalize Mk.textL rn it op true ((l.map MkM.core).take k)=tb at *;generalize Mk.namedL rn it ((l.map MkM.core).take k)=nb at *
    try dsimp only[MkM.ks]at HOK
    generalize l[k]=t at *;clear hkl;by_cases hk0:k=0
    ·subst hk0;simp only[Nat.zero_mul,Nat.add_zero]at c0 c1 c2 c3;have b0':(wr.alloc (.cells #[.string t.op,.int .i64 t.a,.int .i64 t.b,.slice t.s.A t.s.n t.s.c] 49)).cell? ⟨W.heap.size,0,none⟩=some (.string op):=HA.out.bx.cell 0;have kw:W.heap.size<wr.heap.size:=HWL.out;have HC2:=iH (kid_writes op t HIK.out (HOK.out.keep (HA.out.gr.keep 49 (by decide) (by decide))) HCK.out HA.out.ctx HA.out.wr (by have:=HBD.out;simp only[List.length_append];omega));have hT0:Hid (bs ++ Mk.textL rn it op true ((l.map MkM.core).take (0+1))=(bs ++ tb) ++ wrapT (parT op t.op) (Mk.text rn it t.core)):=by show _=_;rw[HT.out];simp[sepT]
     go_wp2_with fail;(with_reducible refine HC2.out.mono ?_);rintro e w3 ⟨rfl,hw,hg⟩;have H3:=iH (HA.out.go hw hg);clear HC2 hw hg b0';go_wp2_with fail;go_roundw
     case rel=>exact⟨1,by omega,by go_num,by rw[hT0.out,HN.out,<- Bool.and_assoc];exact H3.out⟩
     case measure=>simp[intOf];omega
    ·have hkp:(0:Int)<(k:Int):=by omega
     have hL1:Hid ((bs ++ tb).length+((⟨#[32]⟩:ByteArray) ++ op ++ (⟨#[32]⟩:ByteArray)).size<=1000000):=by
      show _<=_;have:=HBD.out;have hk1:(k == 0)=false:=by simpa using hk0
      rw[hk1]at this;have h2:(sepT op false).length=((⟨#[32]⟩:ByteArray) ++ op ++ (⟨#[32]⟩:ByteArray)).data.toList.length:=by simp[sepT]
      have h3:((⟨#[32]⟩:ByteArray) ++ op ++ (⟨#[32]⟩:ByteArray)).data.toList.length=((⟨#[32]⟩:ByteArray) ++ op ++ (⟨#[32]⟩:ByteArray)).size:=Array.length_toList;rw[List.length_append];omega
     have hT1:Hid (bs ++ Mk.textL rn it op true ((l.map MkM.core).take (k+1))=((bs ++ tb) ++ ((⟨#[32]⟩:ByteArray) ++ op ++ (⟨#[32]⟩:ByteArray)).data.toList) ++ wrapT (parT op t.op) (Mk.text rn it t.core)):=by
      show _=_;have hk1:(k == 0)=false:=by simpa using hk0
      rw[HT.out,hk1];simp[sepT]
     have hL2:Hid (((bs ++ tb) ++ ((⟨#[32]⟩:ByteArray) ++ op ++ (⟨#[32]⟩:ByteArray)).data.toList).length+(wrapT (parT op t.op) (Mk.text rn it t.core)).length<=1000000):=by
      show _<=_;have:=HBD.out;have hk1:(k == 0)=false:=by simpa using hk0
      rw[hk1]at this;have h2:(sepT op false).length=((⟨#[32]⟩:ByteArray) ++ op ++ (⟨#[32]⟩:ByteArray)).data.toList.length:=by simp[sepT]
      rw[List.length_append,List.length_append];omega
     go_wp2_with fail;refine wp_region_X (fun w'=>Bk w' W.heap.size 49 [.string op,.int .i64 a,.int .i64 b,.slice (some ⟨bb,off,none⟩) n c]) 8 (n:=8) rfl (by kernel_rfl) (HA.out.drew.bx) (fun hS=>?_);refine uT 0 21 hS ?_;refine uT 1 22 hS ?_;refine uT 2 23 hS ?_;refine uT 3 24 hS ?_;refine uT 4 25 hS ?_ (hy:=fun w' hS'=>by have⟨e0,e1,e2,e3,el⟩:=hS'.p4;(go_simp;try with_reducible rfl));refine uT 5 26 hS ?_ (hy:=fun w' hS'=>by have ez:¬ 9223372036854775807<1+op.size:=Nat.not_lt.2 (Nat.le_trans (Nat.add_le_add_left hos 1) (by decide));(go_simp;try with_reducible rfl));refine uT 6 27 hS ?_ (hy:=fun w' hS'=>by have ez:¬ 9223372036854775807<1+op.size+1:=Nat.not_lt.2 (Nat.le_trans (Nat.succ_le_succ (Nat.add_le_add_left hos 1)) (by decide));(go_simp;try with_reducible rfl));refine X_o 7 rfl fun K hK=>?_;go_simp;have K:=iH (HA.out.drew.write _ hL1.out);(with_reducible refine K.out.mono ?_);rintro e w2 ⟨rfl,hw,hg⟩;have Hw2:=iH hw;have HKB2:=iH (HKB.out.drew.keep (hg.keep 49 (by decide) (by decide)));refine hK _ _ Hw2.out.bx ?_;clear hK K hw hg;refine X_done (by kernel_rfl) ?_;clear hL1 hS;have b0':w2.cell? ⟨W.heap.size,0,none⟩=some (.string op):=Hw2.out.bx.cell 0;have kw:W.heap.size<w2.heap.size:=Hw2.out.bx.lt;have⟨k0,k1,k2,k3,kl⟩:=HKB2.out.p4;have HC2:=iH (kid_writes op t HIK.out (HOK.out.keep (Hw2.out.gr.keep 49 (by decide) (by decide))) HCK.out Hw2.out.ctx Hw2.out.wr hL2.out);go_wp2_with fail;(with_reducible refine HC2.out.mono ?_);rintro e w3 ⟨rfl,hw,hg⟩;have H3:=iH (Hw2.out.go hw hg);clear HC2 hw hg b0' k0 k1 k2 k3 kl kw;go_wp2_with fail;go_roundw
     case rel=>exact⟨k+1,by omega,by go_num,by rw[hT1.out,HN.out,<- Bool.and_assoc];exact H3.out⟩
     case measure=>simp[intOf];omega
   ·have hkn:k=n:=by omega
    have hTk:(l.map MkM.core).take k=l.map MkM.core:=List.take_of_length_le (by have:=Hn.out;simp;omega);rw[hTk]at hst;have HST:=iH hst;clear hst hkn hTk;go_wp2
    go_end0
    exact⟨rfl,HST.out.wr,HST.out.gr⟩
theorem not_writes {W:World} {B wb:Nat} {bs:List UInt8} {its rus:Sl} {it rn:List ByteArray} {fit:Bool} {P:Nat->Prop} {a b:Int} {t:MkM} {s:Sl} (h:MkM.Ok W 49 P ⟨sNot,a,b,[t],s⟩) (ih:WriteS its rus it rn t) (hc:t.core.check it.length rn.length=0) (hC:WCtx W B its rus it rn) (hW:WrAt W B wb bs its rus fit)
 (hlen:bs.length+([110,111,116,32] ++ wrapT (parT sNot t.op) (Mk.text rn it t.core)).length<=1000000):Calls Tryz.prog 52 #[.pointer (some ⟨wb,0,none⟩),.agg #[.string sNot,.int .i64 a,.int .i64 b,.slice s.A s.n s.c]] W (Wrote W B wb bs its rus fit ([110,111,116,32] ++ wrapT (parT sNot t.op) (Mk.text rn it t.core)) (Mk.named rn it t.core)):=by
 obtain⟨op,hop⟩:∃op,op=sNot:=⟨_,rfl⟩;rw[<- hop]at h hlen⊢;have q1:(op.toList == [97,110,100])=false:=by rw[hop,lNot];rfl
 have q2:(op.toList == [111,114])=false:=by rw[hop,lNot];rfl
 have q3:(op.toList == [110,111,116])=true:=by rw[hop,lNot];rfl
 have H0:=iH (WSt.start hC hW op a b s);have hn1:s.n=1:=h.len;obtain⟨A,n,c⟩:=s;dsimp only at hn1;subst hn1;obtain⟨bb,off,hA,hbb,d0,d1,d2,d3⟩:=h.at_ 0 (by simp);dsimp only[MkM.ks,MkM.s]at hA d0 d1 d2 d3;subst hA;simp only[Nat.zero_mul,Nat.add_zero,List.getElem_cons_zero]at d0 d1 d2 d3;have b0:(W.alloc (.cells #[.string op,.int .i64 a,.int .i64 b,.slice (some ⟨bb,off,none⟩) 1 c] 49)).cell? ⟨W.heap.size,0,none⟩=some (.string op):=H0.out.bx.cell 0;have hlt2:bb<W.heap.size:=by
  rcases h.row with h0|⟨b',off',cur,fl,hA',_,hb',_⟩
  ·have hl:=congrArg List.length h0;rw[mcells_len]at hl;simp at hl
  ·cases hA';exact(Array.getElem?_eq_some_iff.1 hb').1
 have HD1:Hid (∀U,Keep 49 W U->W.heap.size<=U.heap.size->(U.cell? ⟨bb,off,none⟩=some (.string t.op)∧U.cell? ⟨bb,off+1,none⟩=some (.int .i64 t.a)∧U.cell? ⟨bb,off+2,none⟩=some (.int .i64 t.b)∧U.cell? ⟨bb,off+3,none⟩=some (.slice t.s.A t.s.n t.s.c))∧bb<U.heap.size):=iH fun U hU hz=>by
  obtain⟨bb',off',hA',hbb',f0,f1,f2,f3⟩:=(h.keep hU).at_ 0 (by simp);dsimp only[MkM.ks,MkM.s]at hA' f0 f1 f2 f3;cases hA';simp only[Nat.zero_mul,Nat.add_zero,List.getElem_cons_zero]at f0 f1 f2 f3;exact⟨⟨f0,f1,f2,f3⟩,hbb'⟩
 have HOK:=iH (h.each t (by simp));have HLEN:=iH hlen;have HI:=iH ih;have HCK:=iH hc;have hLn:Hid (bs.length+(⟨#[110,111,116,32]⟩:ByteArray).size<=1000000):=by
  show _<=_;have:=HLEN.out;simp only[List.length_append,List.length_cons,List.length_nil]at this;show bs.length+4<=_;omega
 have hLk:Hid ((bs ++ (⟨#[110,111,116,32]⟩:ByteArray).data.toList).length+(wrapT (parT op t.op) (Mk.text rn it t.core)).length<=1000000):=by
  show _<=_;have:=HLEN.out;simp only[List.length_append,List.length_cons,List.length_nil]at this⊢;omega
 clear h hC hW ih hc hlen hop d0 d1 d2 d3 HLEN hbb;have K:=iH (H0.out.write _ hLn.out);go_enter Tryz.func52,Tryz.ntmps52;go_wp2_with fail;(with_reducible refine K.out.mono ?_);rintro e w1 ⟨rfl,hw,_⟩;have Hw1:=iH hw;have HD:=iH (HD1.out w1.drew (hw.drew.gr.keep 49 (by decide) (by decide)) hw.drew.gr.size);have HD2:Hid (∀U,GrW B w1.drew U->_):=iH fun U hU=>HD1.out U ((Hw1.out.drew.gr.trans hU).keep 49 (by decide) (by decide)) (Hw1.out.drew.gr.trans hU).size
 have HC:=iH (kid_writes op t HI.out (HOK.out.keep (hw.drew.gr.keep 49 (by decide) (by decide))) HCK.out hw.drew.ctx hw.drew.wr hLk.out);clear K hw b0;go_wp2;refine wp_region_X (fun w'=>Bk w' W.heap.size 49 [.string op,.int .i64 a,.int .i64 b,.slice (some ⟨bb,off,none⟩) 1 c]∧((w'.cell? ⟨bb,off,none⟩=some (.string t.op)∧w'.cell? ⟨bb,off+1,none⟩=some (.int .i64 t.a)∧w'.cell? ⟨bb,off+2,none⟩=some (.int .i64 t.b)∧w'.cell? ⟨bb,off+3,none⟩=some (.slice t.s.A t.s.n t.s.c))∧bb<w'.heap.size)) 8 (n:=8) rfl (by kernel_rfl) (⟨Hw1.out.drew.bx,HD.out⟩) (fun hS=>?_);refine uT 0 41 hS ?_;refine uT 1 42 hS ?_;refine uT 2 43 hS ?_ (hy:=fun w' hS'=>by have⟨e0,e1,e2,e3,el⟩:=hS'.1.p4;(go_simp;try with_reducible rfl));refine uT 3 44 hS ?_;refine uT 4 45 hS ?_ (hy:=fun w' hS'=>by have⟨e0,e1,e2,e3,el⟩:=hS'.1.p4;(go_simp;try with_reducible rfl));refine uT 5 46 hS ?_;refine uT 6 47 hS ?_ (hy:=fun w' hS'=>by have e0:=hS'.2.1.1;have e1:=hS'.2.1.2.1;have e2:=hS'.2.1.2.2.1;have e3:=hS'.2.1.2.2.2;have el:=hS'.2.2;(go_simp;try with_reducible rfl));refine X_o 7 rfl fun K hK=>?_;go_simp;(with_reducible refine HC.out.mono ?_);rintro e w2 ⟨rfl,hw,hg⟩;have HW2:=iH hw;have HG2:=iH hg;refine hK _ _ ⟨Hw1.out.drew.bx.keep (hg.keep 49 (by decide) (by decide)),HD2.out _ hg⟩ ?_;clear hK hw hg;refine X_done (by kernel_rfl) ?_;go_wp2
 go_end0
 refine⟨rfl,?_,Hw1.out.drew.gr.trans HG2.out⟩;have:=HW2.out;rw[List.append_assoc]at this;exact this
theorem write_all {its rus:Sl} {it rn:List ByteArray}:∀m:MkM,WriteS its rus it rn m:=by
 intro m
 induction m using MkM.ind with
 | h m ih =>
   intro w B wb bs fit P h hc hC hW hlen;obtain⟨op,a,b,l,s⟩:=m;dsimp only[MkM.ks,MkM.s,MkM.op,MkM.a,MkM.b]at *;have hcore:MkM.core ⟨op,a,b,l,s⟩=.node op a b (l.map MkM.core):=by simp[MkM.core,coreL_map]
   rw[hcore]at hc hlen⊢;obtain⟨c1,c2⟩:=check_node hc;have hck:∀t∈l,t.core.check it.length rn.length=0:=fun t ht=>c2 _ (List.mem_map_of_mem ht)
   have hsn:s.n=l.length:=h.len;rw[List.length_map]at c1;have hF:op=sAnd∨op=sOr∨op=sNot->condF rn it op a b=true:=by
    intro h;rcases h with rfl|rfl|rfl <;> rfl
   by_cases h1:op=sAnd∨op=sOr
   ·simp only[Mk.text,Mk.named]at hlen⊢;rw[if_pos h1]at hlen⊢;rw[hF (by rcases h1 with h | h <;> simp[h]),Bool.true_and];exact join_writes h h1 ih hck hC hW hlen
   ·by_cases h2:op=sNot
    ·subst h2;have hl1:l.length=1:=alone_not c1;obtain⟨t,rfl⟩:=List.length_eq_one_iff.1 hl1;simp only[Mk.text,Mk.named]at hlen⊢;rw[if_neg (by decide),if_pos trivial]at hlen⊢;rw[hF (by simp),Bool.true_and];have e1:Mk.textL rn it sNot true (List.map MkM.core [t])=wrapT (parT sNot t.op) (Mk.text rn it t.core):=by simp[Mk.textL,sepT,core_op]
     have e2:Mk.namedL rn it (List.map MkM.core [t])=Mk.named rn it t.core:=by simp[Mk.namedL]
     rw[e1]at hlen⊢;rw[e2];exact not_writes h (ih t (by simp)) (hck t (by simp)) hC hW hlen
    ·have h3:=not_or.1 h1;obtain⟨ho,hl0,_,_⟩:=alone_cond c1 h3.1 h3.2 h2;have hl:l=[]:=List.eq_nil_of_length_eq_zero hl0;subst hl;simp only[Mk.text,Mk.named]at hlen⊢;rw[if_neg h1,if_neg h2]at hlen⊢;simp only[List.map_nil,Mk.namedL,Bool.and_true];refine cond_writes hC hW ?_ h3.1 h3.2 h2 h.ha h.hb hlen;rw[hsn];exact c1
theorem wrapT_ne {p:Bool} {l:List UInt8} (h:l≠[]):wrapT p l≠[]:=by cases p <;> simp[wrapT,h]
theorem text_ne {rn it:List ByteArray} {ni nr:Nat}:∀m:Mk,m.check ni nr=0->Mk.text rn it m≠[]:=by
 intro m
 induction m using Mk.ind with
 | h op a b ks ih =>
   intro hc;obtain⟨c1,c2⟩:=check_node hc;simp only[Mk.text];split
   ·rename_i hj
    cases ks with
    | nil =>
      unfold aloneE at c1;rw[if_pos hj]at c1;simp at c1
    | cons x xs =>
      have:=ih x (List.mem_cons_self ..) (c2 x (List.mem_cons_self ..));simp only[Mk.textL];intro e;have e1:=(List.append_eq_nil_iff.1 e).1;exact wrapT_ne this (List.append_eq_nil_iff.1 e1).2
   ·split
    ·simp
    ·unfold condT;simp
def printE (rn it:List ByteArray) (m:Mk):Int:=if validM it.length rn.length m≠0 then validM it.length rn.length m else if Mk.named rn it m then 0 else 6
def printS (rn it:List ByteArray) (m:Mk):ByteArray:=if printE rn it m=0 then⟨(Mk.text rn it m).toArray⟩ else⟨#[]⟩
theorem valid_zero {ni nr:Nat} {m:Mk} (h:validM ni nr m=0):m.size<=64∧m.check ni nr=0:=by
 unfold validM at h;split at h
 ·cases h
 ·rename_i hn
  exact⟨by omega,h⟩
theorem print_any {m:CatM} {M:MkM} {W:World} {P:Nat->Prop} (hT:Tab W) (hP:TabP W) (hi:ItsV W m.si m.items) (hr:RulesV W m.sr m.rules) (h:M.Ok W 49 P) :
 Calls Tryz.prog 18 #[.agg #[.slice m.si.A m.si.n m.si.c,.slice m.sr.A m.sr.n m.sr.c,.slice m.st.A m.st.n m.st.c,.slice m.sx.A m.sx.n m.sx.c],.agg #[.string M.op,.int .i64 M.a,.int .i64 M.b,.slice M.s.A M.s.n M.s.c]] W fun e w'=>e=.returned (.tuple #[.string (printS (m.rules.map RuM.name) (m.items.map It.name) M.core),.int .i64 (printE (m.rules.map RuM.name) (m.items.map It.name) M.core)])∧Below W.heap.size W w':=by
 have hil:m.si.n=(m.items.map It.name).length:=by rw[List.length_map];exact hi.len
 have hrl:m.sr.n=(m.rules.map RuM.name).length:=by rw[List.length_map];exact hr.len
 have hsit:∀s∈m.items.map It.name,s.size<=8192:=fun s hs=>by
  obtain⟨x,hx,rfl⟩:=List.mem_map.1 hs;exact hi.each x hx
 have hsrn:∀s∈m.rules.map RuM.name,s.size<=8192:=fun s hs=>by
  obtain⟨x,hx,rfl⟩:=List.mem_map.1 hs;exact(hr.each x hx).name
 have hcv:validM m.si.n m.sr.n M.core=validM (m.items.map It.name).length (m.rules.map RuM.name).length M.core:=by rw[hil,hrl]
 have hPE:printE (m.rules.map RuM.name) (m.items.map It.name) M.core=if validM m.si.n m.sr.n M.core≠0 then validM m.si.n m.sr.n M.core else if Mk.named (m.rules.map RuM.name) (m.items.map It.name) M.core then 0 else 6:=by unfold printE;rw[<- hcv]
 have y:Below W.heap.size W ((W.alloc (.cells #[.slice m.si.A m.si.n m.si.c,.slice m.sr.A m.sr.n m.sr.c,.slice m.st.A m.st.n m.st.c,.slice m.sx.A m.sx.n m.sx.c] 28)).alloc (.cells #[.string M.op,.int .i64 M.a,.int .i64 M.b,.slice M.s.A M.s.n M.s.c] 49)):=((Below.refl _ _).alloc (Nat.le_refl _) _).alloc (by simp) _;have HBa0:=iH ((Bk.new W 28 [.slice m.si.A m.si.n m.si.c,.slice m.sr.A m.sr.n m.sr.c,.slice m.st.A m.st.n m.st.c,.slice m.sx.A m.sx.n m.sx.c]).alloc (.cells #[.string M.op,.int .i64 M.a,.int .i64 M.b,.slice M.s.A M.s.n M.s.c] 49));have HBb0:Hid (Bk ((W.alloc (.cells #[.slice m.si.A m.si.n m.si.c,.slice m.sr.A m.sr.n m.sr.c,.slice m.st.A m.st.n m.st.c,.slice m.sx.A m.sx.n m.sx.c] 28)).alloc (.cells #[.string M.op,.int .i64 M.a,.int .i64 M.b,.slice M.s.A M.s.n M.s.c] 49)) (W.heap.size+1) 49 [.string M.op,.int .i64 M.a,.int .i64 M.b,.slice M.s.A M.s.n M.s.c]):=by
  have:=Bk.new (W.alloc (.cells #[.slice m.si.A m.si.n m.si.c,.slice m.sr.A m.sr.n m.sr.c,.slice m.st.A m.st.n m.st.c,.slice m.sx.A m.sx.n m.sx.c] 28)) 49 [.string M.op,.int .i64 M.a,.int .i64 M.b,.slice M.s.A M.s.n M.s.c];rw[World.size_alloc]at this;exact iH this
 have KV:=iH (valid_any m.si m.sr m.st m.sx M _ P (h.bel y));have HY:=iH y;have H:=iH h;have HT:=iH hT;have HP:=iH hP;have HI:=iH hi;have HR:=iH hr;have HPE:=iH hPE;have HS1:=iH hsit;have HS2:=iH hsrn;have HIL:=iH hil;have HRL:=iH hrl;clear h y hT hP hi hr hcv hPE hsit hsrn hil hrl;go_enter Tryz.func18,Tryz.ntmps18;go_wp2_with fail;(with_reducible refine KV.out.mono ?_);rintro e w1 ⟨rfl,hb⟩;have HY1:=iH (HY.out.trans (hb.mono HY.out.size));have HBa:=iH (HBa0.out.below hb HBa0.out.lt);have HBb:=iH (HBb0.out.below hb HBb0.out.lt);have HI2:Hid (ItsV w1.drew m.si m.items):=HI.out.below HY1.out.drew;have HR2:Hid (RulesV w1.drew m.sr m.rules):=HR.out.below HY1.out.drew;clear KV hb HBa0 HBb0 HY;by_cases hv:validM m.si.n m.sr.n M.core=0
 ·have hpe:printE (m.rules.map RuM.name) (m.items.map It.name) M.core=if Mk.named (m.rules.map RuM.name) (m.items.map It.name) M.core then 0 else 6:=by rw[HPE.out,if_neg (by simp[hv])]
  obtain⟨hz64,hck⟩:=valid_zero hv;have HCK:Hid (M.core.check (m.items.map It.name).length (m.rules.map RuM.name).length=0):=by
   show _=_;rw[<- HIL.out,<- HRL.out];exact hck
  have HTN:=iH (text_ne (rn:=m.rules.map RuM.name) (it:=m.items.map It.name) M.core hck);have HLEN:Hid ((Mk.text (m.rules.map RuM.name) (m.items.map It.name) M.core).length<=1000000):=by
   show _<=_;have:=text_len HS2.out HS1.out M.core H.out.in_ hck;omega
  have HQ:=iH hpe;clear hpe hz64 hck HPE;generalize hvv:validM m.si.n m.sr.n M.core=vv at *;subst hv;clear hvv;go_wp2;refine wp_region_X (fun w'=>Bk w' W.heap.size 28 [.slice m.si.A m.si.n m.si.c,.slice m.sr.A m.sr.n m.sr.c,.slice m.st.A m.st.n m.st.c,.slice m.sx.A m.sx.n m.sx.c]∧Bk w' (W.heap.size+1) 49 [.string M.op,.int .i64 M.a,.int .i64 M.b,.slice M.s.A M.s.n M.s.c]) 7 (n:=7) rfl (by kernel_rfl) (⟨HBa.out.drew,HBb.out.drew⟩) (fun hS=>?_);refine uT 0 14 hS ?_ (hy:=fun w' hS'=>by have⟨e0,e1,e2,e3,el⟩:=hS'.1.p4;(go_simp;try with_reducible rfl));refine uT 2 16 hS ?_ (hy:=fun w' hS'=>by have⟨e0,e1,e2,e3,el⟩:=hS'.1.p4;(go_simp;try with_reducible rfl));refine X_o 1 rfl fun K hK=>?_;go_simp;have K:=iH (itemNames_any (m:=m) HI2.out);(with_reducible refine K.out.mono ?_);rintro e w2 ⟨A1,n1,c1,rfl,hN,hb⟩;have hgo:=(Below.refl w1.heap.size w1).drew.trans hb;have HN1:=iH hN;have HBa2:=iH (HBa.out.below hgo HBa.out.lt);have HBb2:=iH (HBb.out.below hgo HBb.out.lt);have HY2:=iH (HY1.out.trans (hgo.mono HY1.out.size));have HR3:=iH (HR2.out.below hb);refine hK _ _ ⟨HBa2.out,HBb2.out⟩ ?_;clear hK K hN hb hgo HBa HBb;refine X_o 3 rfl fun K hK=>?_;go_simp;have K:=iH (ruleNames_any (m:=m) HR3.out);(with_reducible refine K.out.mono ?_);rintro e w3 ⟨A2,n2,c2,rfl,hN,hb⟩;have HN2:=iH hN;have HN12:=iH (HN1.out.below hb);have HBa3:=iH (HBa2.out.below hb HBa2.out.lt);have HBb3:=iH (HBb2.out.below hb HBb2.out.lt);have HY3:=iH (HY2.out.trans (hb.mono HY2.out.size));refine hK _ _ ⟨HBa3.out,HBb3.out⟩ ?_;clear hK K hN hb HBa2 HBb2;refine X_o 4 rfl fun K hK=>?_;go_simp;refine hK _ _ ⟨HBa3.out,HBb3.out⟩ ?_;clear hK;refine X_o 5 rfl fun K hK=>?_;go_simp;refine hK _ _ ⟨HBa3.out.alloc _,HBb3.out.alloc _⟩ ?_;clear hK;refine X_o 6 rfl fun K hK=>?_;go_simp;refine hK _ _ ⟨HBa3.out.alloc _,HBb3.out.alloc _⟩ ?_;clear hK;refine X_done (by kernel_rfl) ?_;clear hS;have hfresh:Hid (WrAt (w3.alloc (.cells #[.pointer none,.slice none 0 0,.slice A1 n1 c1,.slice A2 n2 c2,.bool true] 116)) W.heap.size w3.heap.size [] ⟨A1,n1,c1⟩ ⟨A2,n2,c2⟩ true):=by
   refine iH ⟨_,_,.inl rfl,Bk.new w3 116 [.pointer none,.slice none 0 0,.slice A1 n1 c1,.slice A2 n2 c2,.bool true],World.ownsRow_nil _ _ _ _,HY3.out.size⟩
  have yb:Below W.heap.size W (w3.alloc (.cells #[.pointer none,.slice none 0 0,.slice A1 n1 c1,.slice A2 n2 c2,.bool true] 116)):=HY3.out.alloc HY3.out.size _;have yb3:Below w3.heap.size w3 (w3.alloc (.cells #[.pointer none,.slice none 0 0,.slice A1 n1 c1,.slice A2 n2 c2,.bool true] 116)):=(Below.refl _ _).alloc (Nat.le_refl _) _;have hctx:Hid (WCtx (w3.alloc (.cells #[.pointer none,.slice none 0 0,.slice A1 n1 c1,.slice A2 n2 c2,.bool true] 116)) W.heap.size ⟨A1,n1,c1⟩ ⟨A2,n2,c2⟩ (m.items.map It.name) (m.rules.map RuM.name)) :=
   iH ⟨HT.out.below yb HT.out.1,HP.out.below yb (by have:=HT.out.1;omega),HN12.out.below yb3,HN2.out.below yb3,HT.out.1,yb.size,HS1.out,HS2.out⟩
  have HYB:=iH yb;have KW:=iH (write_all (its:=⟨A1,n1,c1⟩) (rus:=⟨A2,n2,c2⟩) (it:=m.items.map It.name) (rn:=m.rules.map RuM.name) M (w3.alloc (.cells #[.pointer none,.slice none 0 0,.slice A1 n1 c1,.slice A2 n2 c2,.bool true] 116)) W.heap.size w3.heap.size [] true P (H.out.bel yb) HCK.out hctx.out hfresh.out (by have:=HLEN.out;simpa using this));have HBb4:=HBb3.out.alloc (.cells #[.pointer none,.slice none 0 0,.slice A1 n1 c1,.slice A2 n2 c2,.bool true] 116);have b0:(w3.alloc (.cells #[.pointer none,.slice none 0 0,.slice A1 n1 c1,.slice A2 n2 c2,.bool true] 116)).cell? ⟨W.heap.size+1,0,none⟩=some (.string M.op):=HBb4.cell 0;have b1:(w3.alloc (.cells #[.pointer none,.slice none 0 0,.slice A1 n1 c1,.slice A2 n2 c2,.bool true] 116)).cell? ⟨W.heap.size+1,1,none⟩=some (.int .i64 M.a):=HBb4.cell 1;have b2:(w3.alloc (.cells #[.pointer none,.slice none 0 0,.slice A1 n1 c1,.slice A2 n2 c2,.bool true] 116)).cell? ⟨W.heap.size+1,2,none⟩=some (.int .i64 M.b):=HBb4.cell 2;have b3:(w3.alloc (.cells #[.pointer none,.slice none 0 0,.slice A1 n1 c1,.slice A2 n2 c2,.bool true] 116)).cell? ⟨W.heap.size+1,3,none⟩=some (.slice M.s.A M.s.n M.s.c):=HBb4.cell 3;have bl:=HBb3.out.lt;clear HBb4 yb yb3 hctx hfresh HN12 HN2 HN1 HI2 HR2 HR3 HBa3;generalize htx:Mk.text (m.rules.map RuM.name) (m.items.map It.name) M.core=tx at *;have HTX:=iH htx;clear htx;generalize Mk.named (m.rules.map RuM.name) (m.items.map It.name) M.core=nd at *;go_wp2_with fail;(with_reducible refine KW.out.mono ?_);rintro e w4 ⟨rfl,hw,hg⟩;rw[List.nil_append,Bool.true_and]at hw;have hcl:=hw.cells.2.2.1;have hwl:=hw.lt;have HW:=iH hw;have HYF:=iH (HYB.out.trans hg.low);clear KW hw hg b0 b1 b2 b3 bl HYB;cases nd
  ·have HP2:Hid (printS (m.rules.map RuM.name) (m.items.map It.name) M.core=⟨#[]⟩):=by
    show _=_;unfold printS;rw[HQ.out];rfl
   go_wp2;go_ret2;exact⟨by rw[HP2.out,HQ.out];rfl,HYF.out⟩
  ·have HP2:Hid (printS (m.rules.map RuM.name) (m.items.map It.name) M.core=⟨tx.toArray⟩):=by
    show _=_;unfold printS;rw[HQ.out,HTX.out];rfl
   have KS:=iH (string_any HW.out HTN.out HLEN.out);go_wp2_with fail;(with_reducible refine KS.out.mono ?_);rintro e w5 ⟨rfl,hb⟩;have HYE:=iH (HYF.out.trans hb);clear KS hb;go_wp2;go_ret2;exact⟨by rw[HP2.out,HQ.out];rfl,HYE.out⟩
 ·have HQ:Hid (printE (m.rules.map RuM.name) (m.items.map It.name) M.core=validM m.si.n m.sr.n M.core):=by
   show _=_;rw[HPE.out,if_pos hv]
  have HP2:Hid (printS (m.rules.map RuM.name) (m.items.map It.name) M.core=⟨#[]⟩):=by
   show _=_;unfold printS;rw[HQ.out,if_neg hv]
  generalize validM m.si.n m.sr.n M.core=vv at *;clear HPE;have hv2:(vv == 0)=false:=by simpa using hv
  go_wp2;go_ret2;exact⟨by rw[HP2.out,HQ.out];rfl,HY1.out⟩
theorem matches_any (s:StepM) (M:MkM) (w:World) (P:Nat->Prop) (h:M.Ok w 49 P) (hs:s.Ok w) :
 Calls Tryz.prog 23 #[.agg #[.string M.op,.int .i64 M.a,.int .i64 M.b,.slice M.s.A M.s.n M.s.c],.agg #[.int .i64 s.id,.int .i64 s.kind,.int .i64 s.actor,.int .i64 s.tick,.int .i64 s.rule,.int .i64 s.times,.slice s.sm.A s.sm.n s.sm.c]] w fun e w'=>e=.returned (.bool (M.core.val (condV s)))∧Below w.heap.size w w':=by
 have y:Below w.heap.size w ((w.alloc (.cells #[.string M.op,.int .i64 M.a,.int .i64 M.b,.slice M.s.A M.s.n M.s.c] 49)).alloc (.cells #[.int .i64 s.id,.int .i64 s.kind,.int .i64 s.actor,.int .i64 s.tick,.int .i64 s.rule,.int .i64 s.times,.slice s.sm.A s.sm.n s.sm.c] 59)):=((Below.refl _ _).alloc (Nat.le_refl _) _).alloc (by simp) _;have Y:=iH y;have HB4:=iH ((Bk.new w 49 [.string M.op,.int .i64 M.a,.int .i64 M.b,.slice M.s.A M.s.n M.s.c]).alloc (.cells #[.int .i64 s.id,.int .i64 s.kind,.int .i64 s.actor,.int .i64 s.tick,.int .i64 s.rule,.int .i64 s.times,.slice s.sm.A s.sm.n s.sm.c] 59));have HB5:Hid (Bk ((w.alloc (.cells #[.string M.op,.int .i64 M.a,.int .i64 M.b,.slice M.s.A M.s.n M.s.c] 49)).alloc (.cells #[.int .i64 s.id,.int .i64 s.kind,.int .i64 s.actor,.int .i64 s.tick,.int .i64 s.rule,.int .i64 s.times,.slice s.sm.A s.sm.n s.sm.c] 59)) (w.heap.size+1) 59 s.cells):=by
  have:=Bk.new (w.alloc (.cells #[.string M.op,.int .i64 M.a,.int .i64 M.b,.slice M.s.A M.s.n M.s.c] 49)) 59 s.cells;rw[World.size_alloc]at this;exact iH this
 have H:=iH h;have HS:=iH hs;clear h y hs;go_enter Tryz.func23,Tryz.ntmps23;go_wp2;refine wp_region_X (fun w'=>Bk w' w.heap.size 49 [.string M.op,.int .i64 M.a,.int .i64 M.b,.slice M.s.A M.s.n M.s.c]∧Bk w' (w.heap.size+1) 59 s.cells) 4 (n:=5) rfl (by kernel_rfl) (⟨HB4.out.drew,HB5.out.drew⟩) (fun hS=>?_);refine xT 1 6 hS ?_ (hy:=fun w' hS'=>by have⟨e0,e1,e2,e3,el⟩:=hS'.1.p4;(go_simp;try with_reducible rfl));refine xT 2 7 hS ?_ (hy:=fun w' hS'=>by have⟨e0,e1,e2,e3,e4,e5,e6,el⟩:=hS'.2.p7;(go_simp;try with_reducible rfl));refine X_o 0 rfl fun K hK=>?_;go_simp;have K:=iH (conds_any ((w.alloc (.cells #[.string M.op,.int .i64 M.a,.int .i64 M.b,.slice M.s.A M.s.n M.s.c] 49)).alloc (.cells #[.int .i64 s.id,.int .i64 s.kind,.int .i64 s.actor,.int .i64 s.tick,.int .i64 s.rule,.int .i64 s.times,.slice s.sm.A s.sm.n s.sm.c] 59)).drew);(with_reducible refine K.out.mono ?_);rintro e w2 ⟨bm,kk,b1,b2,b3,rfl,hC,hb2⟩;have yd:Below ((w.alloc (.cells #[.string M.op,.int .i64 M.a,.int .i64 M.b,.slice M.s.A M.s.n M.s.c] 49)).alloc (.cells #[.int .i64 s.id,.int .i64 s.kind,.int .i64 s.actor,.int .i64 s.tick,.int .i64 s.rule,.int .i64 s.times,.slice s.sm.A s.sm.n s.sm.c] 59)).heap.size ((w.alloc (.cells #[.string M.op,.int .i64 M.a,.int .i64 M.b,.slice M.s.A M.s.n M.s.c] 49)).alloc (.cells #[.int .i64 s.id,.int .i64 s.kind,.int .i64 s.actor,.int .i64 s.tick,.int .i64 s.rule,.int .i64 s.times,.slice s.sm.A s.sm.n s.sm.c] 59)) w2:=(Below.refl _ _).drew.trans hb2;have HY2:=iH (Y.out.trans (yd.mono Y.out.size));have HB42:=iH (HB4.out.below yd HB4.out.lt);have HB52:=iH (HB5.out.below yd HB5.out.lt);have KK:=iH (match_any s M w2 P (H.out.bel HY2.out) hC (HS.out.below HY2.out));refine hK _ _ ⟨HB42.out,HB52.out⟩ ?_;clear hK K hC hb2 yd;refine X_o 3 rfl fun K hK=>?_;go_simp;(with_reducible refine KK.out.mono ?_);rintro e w3 ⟨rfl,hb3⟩;have HY3:=iH (HY2.out.trans (hb3.mono HY2.out.size));refine hK _ _ ⟨HB42.out.below hb3 HB42.out.lt,HB52.out.below hb3 HB52.out.lt⟩ ?_;clear hK KK hb3;refine X_tail (by kernel_rfl) ?_;refine A_one 4 (by kernel_rfl) rfl rfl (fun K hK=>?_);go_simp;refine hK _ _ ?_;clear hK;refine A_done (by kernel_rfl) ?_;go_wp2;go_ret;exact⟨rfl,HY3.out⟩
end Go.Proofs.YtocodlpgaamblaaGreatDoor
