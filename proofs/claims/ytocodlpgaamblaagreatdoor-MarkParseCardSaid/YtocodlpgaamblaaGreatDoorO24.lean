/- The reference's text of a joined mark, of a negation. -/
import Derived.Test.YtocodlpgaamblaaGreatDoorO23
set_option linter.unusedVariables false
set_option linter.unusedSimpArgs false
set_option maxRecDepth 100000
set_option maxHeartbeats 8000000
open Go.RowKit
namespace Go.Proofs.YtocodlpgaamblaaGreatDoor
theorem rtext_joined {m:CatM} {op:ByteArray} {a b:Int} {l:List MkM} {A:Option Addr} {n c:Nat} {w:World} {P:Nat->Prop} {rn it:List ByteArray} (ho:op=sAnd∨op=sOr) (ih:∀t∈l,∀U,Below w.heap.size w U->Calls Tryz.prog 39 #[.agg #[.slice m.si.A m.si.n m.si.c,.slice m.sr.A m.sr.n m.sr.c,.slice m.st.A m.st.n m.st.c,.slice m.sx.A m.sx.n m.sx.c],.agg #[.string t.op,.int .i64 t.a,.int .i64 t.b,.slice t.s.A t.s.n t.s.c]] U fun e w'=>e=.returned (.string ⟨(Mk.text rn it t.core).toArray⟩)∧Below U.heap.size U w') (h:MkM.Ok w 35 P ⟨op,a,b,l,⟨A,n,c⟩⟩) (ha:In64 a) (hlen:(Mk.textL rn it op true (l.map MkM.core)).length<=1000000) :
 Calls Tryz.prog 39 #[.agg #[.slice m.si.A m.si.n m.si.c,.slice m.sr.A m.sr.n m.sr.c,.slice m.st.A m.st.n m.st.c,.slice m.sx.A m.sx.n m.sx.c],.agg #[.string op,.int .i64 a,.int .i64 b,.slice A n c]] w fun e w'=>e=.returned (.string ⟨(Mk.textL rn it op true (l.map MkM.core)).toArray⟩)∧Below w.heap.size w w':=by
 have y:Below w.heap.size w ((w.alloc (.cells #[.slice m.si.A m.si.n m.si.c,.slice m.sr.A m.sr.n m.sr.c,.slice m.st.A m.st.n m.st.c,.slice m.sx.A m.sx.n m.sx.c] 28)).alloc (.cells #[.string op,.int .i64 a,.int .i64 b,.slice A n c] 35)):=((Below.refl _ _).alloc (Nat.le_refl _) _).alloc (by simp) _;have Y:=iH y;have B0:=iH ((Bk.new w 28 [.slice m.si.A m.si.n m.si.c,.slice m.sr.A m.sr.n m.sr.c,.slice m.st.A m.st.n m.st.c,.slice m.sx.A m.sx.n m.sx.c]).alloc (.cells #[.string op,.int .i64 a,.int .i64 b,.slice A n c] 35));have B1:Hid (Bk ((w.alloc (.cells #[.slice m.si.A m.si.n m.si.c,.slice m.sr.A m.sr.n m.sr.c,.slice m.st.A m.st.n m.st.c,.slice m.sx.A m.sx.n m.sx.c] 28)).alloc (.cells #[.string op,.int .i64 a,.int .i64 b,.slice A n c] 35)) (w.heap.size+1) 35 [.string op,.int .i64 a,.int .i64 b,.slice A n c]):=by
  have:=Bk.new (w.alloc (.cells #[.slice m.si.A m.si.n m.si.c,.slice m.sr.A m.sr.n m.sr.c,.slice m.st.A m.st.n m.st.c,.slice m.sx.A m.sx.n m.sx.c] 28)) 35 [.string op,.int .i64 a,.int .i64 b,.slice A n c];rw[World.size_alloc]at this;exact iH this
 have qKind:(op.toList == [107,105,110,100])=false:=by rw[<- lKind',eqL];rcases ho with rfl | rfl <;> decide
 have qActor:(op.toList == [97,99,116,111,114])=false:=by rw[<- lActor',eqL];rcases ho with rfl | rfl <;> decide
 have qRule:(op.toList == [114,117,108,101])=false:=by rw[<- lRule',eqL];rcases ho with rfl | rfl <;> decide
 have qTick:(op.toList == [116,105,99,107])=false:=by rw[<- lTick',eqL];rcases ho with rfl | rfl <;> decide
 have qItem:(op.toList == [105,116,101,109])=false:=by rw[<- lItem',eqL];rcases ho with rfl | rfl <;> decide
 have qMore:(op.toList == [109,111,114,101])=false:=by rw[<- lMore',eqL];rcases ho with rfl | rfl <;> decide
 have qStep:(op.toList == [115,116,101,112])=false:=by rw[<- lStep',eqL];rcases ho with rfl | rfl <;> decide
 have qAccount:(op.toList == [97,99,99,111,117,110,116])=false:=by rw[<- lAccount',eqL];rcases ho with rfl | rfl <;> decide
 have qN:(op.toList == [110,111,116])=false:=by rw[<- lNot,eqL];rcases ho with rfl | rfl <;> decide
 have qA:(op.toList == [97,110,100])=decide (op=sAnd):=by rw[<- lAnd,eqL]
 have qO:(op.toList == [111,114])=decide (op=sOr):=by rw[<- lOr,eqL]
 have KD:=iH (decimal_any a ha ((w.alloc (.cells #[.slice m.si.A m.si.n m.si.c,.slice m.sr.A m.sr.n m.sr.c,.slice m.st.A m.st.n m.st.c,.slice m.sx.A m.sx.n m.sx.c] 28)).alloc (.cells #[.string op,.int .i64 a,.int .i64 b,.slice A n c] 35)));have hosz:op.size<=10:=by rcases ho with rfl | rfl <;> decide
 have Hn:=iH h.len;have H:=iH h;have hs:=h.small;dsimp only at Hn hs;have HI:=iH ih;have HLEN:=iH hlen;have HO:=iH ho;have HKB:Hid (∀t∈l,(wrapT (parT op t.op) (Mk.text rn it t.core)).length<=1000000):=iH fun t ht=>by
  have h1:=kid_bound (rn:=rn) (it:=it) (o:=op) (f:=true) (List.mem_map_of_mem (f:=MkM.core) ht);rw[core_op]at h1;have h2:=hlen
  try simp only[List.length_append]at h2
  omega
 clear h y ih hlen ho;go_enter Tryz.func39,Tryz.ntmps39;go_wp2_with fail;refine KD.out.mono ?_;rintro e w1 ⟨rfl,rfl⟩;clear KD;go_wp2_with fail;go_loopw [6,7] (fun v i wr=>∃(k:Nat) (s:ByteArray),k<=n∧v=.string s∧i=.int .i64 k∧s.data.toList=Mk.textL rn it op true ((l.map MkM.core).take k)∧Below w.heap.size w wr∧Bk wr w.heap.size 28 [.slice m.si.A m.si.n m.si.c,.slice m.sr.A m.sr.n m.sr.c,.slice m.st.A m.st.n m.st.c,.slice m.sx.A m.sx.n m.sx.c]∧Bk wr (w.heap.size+1) 35 [.string op,.int .i64 a,.int .i64 b,.slice A n c]) (fun _ i _=>n-(intOf i).toNat)
 case atStart=>exact⟨0,⟨#[]⟩,Nat.zero_le _,rfl,rfl,rfl,Y.out,B0.out,B1.out⟩
 case round =>
  obtain⟨k,s,hk,rfl,rfl,hx,hb,hb0,hb1⟩:=hrel;have HB:=iH hb;have HB0:=iH hb0;have HB1:=iH hb1;have f3:=hb1.k3;have fl:=hb1.lt;clear hb hb0 hb1 Y B0 B1;by_cases hlt:k<n
  ·have hkl:k<l.length:=by have:=Hn.out;omega
   obtain⟨bb,off,hA,hbb,c0,c1,c2,c3⟩:=H.out.at_ k hkl;dsimp only[MkM.ks,MkM.s]at hA c0 c1 c2 c3;subst hA;have HEL:Hid (∀w',Below w.heap.size w w'->((w'.cell? ⟨bb,off+k*4,none⟩=some (.string l[k].op)∧w'.cell? ⟨bb,off+k*4+1,none⟩=some (.int .i64 l[k].a)∧w'.cell? ⟨bb,off+k*4+2,none⟩=some (.int .i64 l[k].b)∧w'.cell? ⟨bb,off+k*4+3,none⟩=some (.slice l[k].s.A l[k].s.n l[k].s.c))∧bb<w'.heap.size)):=iH fun U hU =>
    ⟨⟨(hU.cell (p:=⟨bb,off+k*4,none⟩) hbb).trans c0,(hU.cell (p:=⟨bb,off+k*4+1,none⟩) hbb).trans c1,(hU.cell (p:=⟨bb,off+k*4+2,none⟩) hbb).trans c2,(hU.cell (p:=⟨bb,off+k*4+3,none⟩) hbb).trans c3⟩,Nat.lt_of_lt_of_le hbb hU.size⟩
   have hssz:s.size<=1000000:=by
    have h1:=congrArg List.length hx;have h2:=HLEN.out;have h3:=textL_le (rn:=rn) (it:=it) (o:=op) (l.map MkM.core) k;simp only[Array.length_toList]at h1;show s.data.size<=1000000;omega
   have HT:Hid (Mk.textL rn it op true ((l.map MkM.core).take (k+1))=s.data.toList ++ (sepT op (k == 0) ++ wrapT (parT op l[k].op) (Mk.text rn it l[k].core))):=by
    show _=_;rw[textL_take _ k (by simpa using hkl),<- hx];simp[core_op]
   have hkb:=HKB.out l[k] (List.getElem_mem hkl);have HC:=iH (HI.out l[k] (List.getElem_mem hkl) wr.drew HB.out.drew);obtain⟨kt,hkt⟩:∃kt:ByteArray,kt=⟨(Mk.text rn it l[k].core).toArray⟩:=⟨_,rfl⟩;have hkt2:Mk.text rn it l[k].core=kt.data.toList:=by rw[hkt]
   rw[<- hkt]at HC;rw[hkt2]at HT hkb;have hksz:kt.size<=1000000:=by
    have:kt.data.toList.length<=(wrapT (parT op l[k].op) kt.data.toList).length:=by
     cases parT op l[k].op <;> simp[wrapT]
     try omega
    simp only[Array.length_toList]at this;show kt.data.size<=1000000;omega
   clear c0 c1 c2 c3 hbb hkt hkt2 hkb;have o1:(l[k].op.toList == [111,114])=decide (l[k].op=sOr):=by rw[<- lOr,eqL]
   have o2:(l[k].op.toList == [97,110,100])=decide (l[k].op=sAnd):=by rw[<- lAnd,eqL]
   have o3:(l[k].op.toList == [110,111,116])=decide (l[k].op=sNot):=by rw[<- lNot,eqL]
   have o4:(l[k].op.toList == op.toList)=decide (l[k].op=op):=eqL _ _;generalize l[k]=t at *;clear hkl hx;go_wp2;refine wp_region_X (fun w'=>(Bk w' w.heap.size 28 [.slice m.si.A m.si.n m.si.c,.slice m.sr.A m.sr.n m.sr.c,.slice m.st.A m.st.n m.st.c,.slice m.sx.A m.sx.n m.sx.c]∧Bk w' (w.heap.size+1) 35 [.string op,.int .i64 a,.int .i64 b,.slice (some ⟨bb,off,none⟩) n c])∧((w'.cell? ⟨bb,off+k*4,none⟩=some (.string t.op)∧w'.cell? ⟨bb,off+k*4+1,none⟩=some (.int .i64 t.a)∧w'.cell? ⟨bb,off+k*4+2,none⟩=some (.int .i64 t.b)∧w'.cell? ⟨bb,off+k*4+3,none⟩=some (.slice t.s.A t.s.n t.s.c))∧bb<w'.heap.size)) 8 (n:=8) rfl (by kernel_rfl) (⟨⟨HB0.out.drew,HB1.out.drew⟩,HEL.out _ HB.out.drew⟩) (fun hS=>?_);refine uT 0 84 hS ?_ (hy:=fun w' hS'=>by have⟨e0,e1,e2,e3,el⟩:=hS'.1.1.p4;(go_simp;try with_reducible rfl));refine uT 1 85 hS ?_;refine uT 2 86 hS ?_ (hy:=fun w' hS'=>by have⟨e0,e1,e2,e3,el⟩:=hS'.1.2.p4;(go_simp;try with_reducible rfl));refine uT 3 87 hS ?_;refine uT 4 88 hS ?_;refine uT 5 89 hS ?_ (hy:=fun w' hS'=>by have e0:=hS'.2.1.1;have e1:=hS'.2.1.2.1;have e2:=hS'.2.1.2.2.1;have e3:=hS'.2.1.2.2.2;have el:=hS'.2.2;(go_simp;try with_reducible rfl));refine X_o 6 rfl fun K hK=>?_;go_simp;(with_reducible refine HC.out.mono ?_);rintro e w1 ⟨rfl,hb1⟩;have hd:=(Below.refl wr.heap.size wr).drew.trans hb1;have HBn:=iH (HB.out.trans (hd.mono HB.out.size));have HB0n:=iH (HB0.out.below hd HB0.out.lt);have HB1n:=iH (HB1.out.below hd HB1.out.lt);refine hK _ _ ⟨⟨HB0n.out,HB1n.out⟩,HEL.out _ HBn.out⟩ ?_;clear hK HC hb1 hd HB HB0 HB1;refine X_o 7 rfl fun K hK=>?_;go_simp;refine hK _ _ ⟨⟨HB0n.out,HB1n.out⟩,HEL.out _ HBn.out⟩ ?_;clear hK;refine X_done (by kernel_rfl) ?_;clear hS;have hel:=HEL.out _ HBn.out;have d0:=hel.1.1;have dl:=hel.2;have⟨b0,b1,b2,b3,bl⟩:=HB1n.out.p4;clear hel HEL HKB;rcases HO.out with e1|e1
   ·clear HO;by_cases hk0:k=0
    ·have hkp:¬ (0:Int)<k:=by omega
     have HKE:Hid ((k == 0)=true):=iH (by simp[hk0]);clear hk0;by_cases e2:t.op=sAnd
     ·rw[decide_eq_true e1]at qA;rw[decide_eq_false (by rw[e1];decide)]at qO;rw[decide_eq_false (by rw[e2];decide)]at o1;rw[decide_eq_true e2]at o2;rw[decide_eq_false (by rw[e2];decide)]at o3;rw[decide_eq_true (by rw[e1,e2])]at o4;have hp:parT op t.op=true:=by rw[e1,e2];decide
      rw[hp]at HT;have HZ:Hid ((s ++ ((⟨#[40]⟩ ++ kt) ++ ⟨#[41]⟩)).data.toList=Mk.textL rn it op true ((l.map MkM.core).take (k+1))):=iH (by rw[HT.out];simp[sepT,wrapT,ByteArray.data_append,HKE.out]);clear HT hp e1 e2;go_wp2;go_roundw
      case rel=>exact⟨k+1,_,by omega,rfl,by go_num,HZ.out,HBn.out,HB0n.out,HB1n.out⟩
      case measure=>simp[intOf];omega
     have nAnd:=e2;clear e2;by_cases e2:t.op=sOr
     ·rw[decide_eq_true e1]at qA;rw[decide_eq_false (by rw[e1];decide)]at qO;rw[decide_eq_true e2]at o1;rw[decide_eq_false (by rw[e2];decide)]at o2;rw[decide_eq_false (by rw[e2];decide)]at o3;rw[decide_eq_false (by rw[e1,e2];decide)]at o4;have hp:parT op t.op=true:=by rw[e1,e2];decide
      rw[hp]at HT;have HZ:Hid ((s ++ ((⟨#[40]⟩ ++ kt) ++ ⟨#[41]⟩)).data.toList=Mk.textL rn it op true ((l.map MkM.core).take (k+1))):=iH (by rw[HT.out];simp[sepT,wrapT,ByteArray.data_append,HKE.out]);clear HT hp e1 e2;go_wp2;go_roundw
      case rel=>exact⟨k+1,_,by omega,rfl,by go_num,HZ.out,HBn.out,HB0n.out,HB1n.out⟩
      case measure=>simp[intOf];omega
     have nOr:=e2;clear e2;by_cases e2:t.op=sNot
     ·rw[decide_eq_true e1]at qA;rw[decide_eq_false (by rw[e1];decide)]at qO;rw[decide_eq_false (by rw[e2];decide)]at o1;rw[decide_eq_false (by rw[e2];decide)]at o2;rw[decide_eq_true e2]at o3;rw[decide_eq_false (by rw[e1,e2];decide)]at o4;have hp:parT op t.op=false:=by rw[e1,e2];decide
      rw[hp]at HT;have HZ:Hid ((s ++ kt).data.toList=Mk.textL rn it op true ((l.map MkM.core).take (k+1))):=iH (by rw[HT.out];simp[sepT,wrapT,ByteArray.data_append,HKE.out]);clear HT hp e1 e2;go_wp2;go_roundw
      case rel=>exact⟨k+1,_,by omega,rfl,by go_num,HZ.out,HBn.out,HB0n.out,HB1n.out⟩
      case measure=>simp[intOf];omega
     have nNot:=e2;clear e2;rw[decide_eq_true e1]at qA;rw[decide_eq_false (by rw[e1];decide)]at qO;rw[decide_eq_false nOr]at o1;rw[decide_eq_false nAnd]at o2;rw[decide_eq_false nNot]at o3;rw[decide_eq_false (by rw[e1];exact nAnd)]at o4;have hp:parT op t.op=false:=by unfold parT;rw[decide_eq_false nAnd,decide_eq_false nOr];rfl
     rw[hp]at HT;have HZ:Hid ((s ++ kt).data.toList=Mk.textL rn it op true ((l.map MkM.core).take (k+1))):=iH (by rw[HT.out];simp[sepT,wrapT,ByteArray.data_append,HKE.out]);clear HT hp e1 nAnd nOr nNot;go_wp2;go_roundw
     case rel=>exact⟨k+1,_,by omega,rfl,by go_num,HZ.out,HBn.out,HB0n.out,HB1n.out⟩
     case measure=>simp[intOf];omega
    ·have hkp:(0:Int)<k:=by omega
     have HKE:Hid ((k == 0)=false):=iH (by simp[hk0]);clear hk0;by_cases e2:t.op=sAnd
     ·rw[decide_eq_true e1]at qA;rw[decide_eq_false (by rw[e1];decide)]at qO;rw[decide_eq_false (by rw[e2];decide)]at o1;rw[decide_eq_true e2]at o2;rw[decide_eq_false (by rw[e2];decide)]at o3;rw[decide_eq_true (by rw[e1,e2])]at o4;have hp:parT op t.op=true:=by rw[e1,e2];decide
      rw[hp]at HT;have HZ:Hid (((((s ++ ⟨#[32]⟩) ++ op) ++ ⟨#[32]⟩) ++ ((⟨#[40]⟩ ++ kt) ++ ⟨#[41]⟩)).data.toList=Mk.textL rn it op true ((l.map MkM.core).take (k+1))):=iH (by rw[HT.out];simp[sepT,wrapT,ByteArray.data_append,HKE.out]);clear HT hp e1 e2;go_wp2;go_roundw
      case rel=>exact⟨k+1,_,by omega,rfl,by go_num,HZ.out,HBn.out,HB0n.out,HB1n.out⟩
      case measure=>simp[intOf];omega
     have nAnd:=e2;clear e2;by_cases e2:t.op=sOr
     ·rw[decide_eq_true e1]at qA;rw[decide_eq_false (by rw[e1];decide)]at qO;rw[decide_eq_true e2]at o1;rw[decide_eq_false (by rw[e2];decide)]at o2;rw[decide_eq_false (by rw[e2];decide)]at o3;rw[decide_eq_false (by rw[e1,e2];decide)]at o4;have hp:parT op t.op=true:=by rw[e1,e2];decide
      rw[hp]at HT;have HZ:Hid (((((s ++ ⟨#[32]⟩) ++ op) ++ ⟨#[32]⟩) ++ ((⟨#[40]⟩ ++ kt) ++ ⟨#[41]⟩)).data.toList=Mk.textL rn it op true ((l.map MkM.core).take (k+1))):=iH (by rw[HT.out];simp[sepT,wrapT,ByteArray.data_append,HKE.out]);clear HT hp e1 e2;go_wp2;go_roundw
      case rel=>exact⟨k+1,_,by omega,rfl,by go_num,HZ.out,HBn.out,HB0n.out,HB1n.out⟩
      case measure=>simp[intOf];omega
     have nOr:=e2;clear e2;by_cases e2:t.op=sNot
     ·rw[decide_eq_true e1]at qA;rw[decide_eq_false (by rw[e1];decide)]at qO;rw[decide_eq_false (by rw[e2];decide)]at o1;rw[decide_eq_false (by rw[e2];decide)]at o2;rw[decide_eq_true e2]at o3;rw[decide_eq_false (by rw[e1,e2];decide)]at o4;have hp:parT op t.op=false:=by rw[e1,e2];decide
      rw[hp]at HT;have HZ:Hid (((((s ++ ⟨#[32]⟩) ++ op) ++ ⟨#[32]⟩) ++ kt).data.toList=Mk.textL rn it op true ((l.map MkM.core).take (k+1))):=iH (by rw[HT.out];simp[sepT,wrapT,ByteArray.data_append,HKE.out]);clear HT hp e1 e2;go_wp2;go_roundw
      case rel=>exact⟨k+1,_,by omega,rfl,by go_num,HZ.out,HBn.out,HB0n.out,HB1n.out⟩
      case measure=>simp[intOf];omega
     have nNot:=e2;clear e2;rw[decide_eq_true e1]at qA;rw[decide_eq_false (by rw[e1];decide)]at qO;rw[decide_eq_false nOr]at o1;rw[decide_eq_false nAnd]at o2;rw[decide_eq_false nNot]at o3;rw[decide_eq_false (by rw[e1];exact nAnd)]at o4;have hp:parT op t.op=false:=by unfold parT;rw[decide_eq_false nAnd,decide_eq_false nOr];rfl
     rw[hp]at HT;have HZ:Hid (((((s ++ ⟨#[32]⟩) ++ op) ++ ⟨#[32]⟩) ++ kt).data.toList=Mk.textL rn it op true ((l.map MkM.core).take (k+1))):=iH (by rw[HT.out];simp[sepT,wrapT,ByteArray.data_append,HKE.out]);clear HT hp e1 nAnd nOr nNot;go_wp2;go_roundw
     case rel=>exact⟨k+1,_,by omega,rfl,by go_num,HZ.out,HBn.out,HB0n.out,HB1n.out⟩
     case measure=>simp[intOf];omega
   ·clear HO;by_cases hk0:k=0
    ·have hkp:¬ (0:Int)<k:=by omega
     have HKE:Hid ((k == 0)=true):=iH (by simp[hk0]);clear hk0;by_cases e2:t.op=sAnd
     ·rw[decide_eq_false (by rw[e1];decide)]at qA;rw[decide_eq_true e1]at qO;rw[decide_eq_false (by rw[e2];decide)]at o1;rw[decide_eq_true e2]at o2;rw[decide_eq_false (by rw[e2];decide)]at o3;rw[decide_eq_false (by rw[e1,e2];decide)]at o4;have hp:parT op t.op=false:=by rw[e1,e2];decide
      rw[hp]at HT;have HZ:Hid ((s ++ kt).data.toList=Mk.textL rn it op true ((l.map MkM.core).take (k+1))):=iH (by rw[HT.out];simp[sepT,wrapT,ByteArray.data_append,HKE.out]);clear HT hp e1 e2;go_wp2;go_roundw
      case rel=>exact⟨k+1,_,by omega,rfl,by go_num,HZ.out,HBn.out,HB0n.out,HB1n.out⟩
      case measure=>simp[intOf];omega
     have nAnd:=e2;clear e2;by_cases e2:t.op=sOr
     ·rw[decide_eq_false (by rw[e1];decide)]at qA;rw[decide_eq_true e1]at qO;rw[decide_eq_true e2]at o1;rw[decide_eq_false (by rw[e2];decide)]at o2;rw[decide_eq_false (by rw[e2];decide)]at o3;rw[decide_eq_true (by rw[e1,e2])]at o4;have hp:parT op t.op=true:=by rw[e1,e2];decide
      rw[hp]at HT;have HZ:Hid ((s ++ ((⟨#[40]⟩ ++ kt) ++ ⟨#[41]⟩)).data.toList=Mk.textL rn it op true ((l.map MkM.core).take (k+1))):=iH (by rw[HT.out];simp[sepT,wrapT,ByteArray.data_append,HKE.out]);clear HT hp e1 e2;go_wp2;go_roundw
      case rel=>exact⟨k+1,_,by omega,rfl,by go_num,HZ.out,HBn.out,HB0n.out,HB1n.out⟩
      case measure=>simp[intOf];omega
     have nOr:=e2;clear e2;by_cases e2:t.op=sNot
     ·rw[decide_eq_false (by rw[e1];decide)]at qA;rw[decide_eq_true e1]at qO;rw[decide_eq_false (by rw[e2];decide)]at o1;rw[decide_eq_false (by rw[e2];decide)]at o2;rw[decide_eq_true e2]at o3;rw[decide_eq_false (by rw[e1,e2];decide)]at o4;have hp:parT op t.op=false:=by rw[e1,e2];decide
      rw[hp]at HT;have HZ:Hid ((s ++ kt).data.toList=Mk.textL rn it op true ((l.map MkM.core).take (k+1))):=iH (by rw[HT.out];simp[sepT,wrapT,ByteArray.data_append,HKE.out]);clear HT hp e1 e2;go_wp2;go_roundw
      case rel=>exact⟨k+1,_,by omega,rfl,by go_num,HZ.out,HBn.out,HB0n.out,HB1n.out⟩
      case measure=>simp[intOf];omega
     have nNot:=e2;clear e2;rw[decide_eq_false (by rw[e1];decide)]at qA;rw[decide_eq_true e1]at qO;rw[decide_eq_false nOr]at o1;rw[decide_eq_false nAnd]at o2;rw[decide_eq_false nNot]at o3;rw[decide_eq_false (by rw[e1];exact nOr)]at o4;have hp:parT op t.op=false:=by unfold parT;rw[decide_eq_false nAnd,decide_eq_false nOr];rfl
     rw[hp]at HT;have HZ:Hid ((s ++ kt).data.toList=Mk.textL rn it op true ((l.map MkM.core).take (k+1))):=iH (by rw[HT.out];simp[sepT,wrapT,ByteArray.data_append,HKE.out]);clear HT hp e1 nAnd nOr nNot;go_wp2;go_roundw
     case rel=>exact⟨k+1,_,by omega,rfl,by go_num,HZ.out,HBn.out,HB0n.out,HB1n.out⟩
     case measure=>simp[intOf];omega
    ·have hkp:(0:Int)<k:=by omega
     have HKE:Hid ((k == 0)=false):=iH (by simp[hk0]);clear hk0;by_cases e2:t.op=sAnd
     ·rw[decide_eq_false (by rw[e1];decide)]at qA;rw[decide_eq_true e1]at qO;rw[decide_eq_false (by rw[e2];decide)]at o1;rw[decide_eq_true e2]at o2;rw[decide_eq_false (by rw[e2];decide)]at o3;rw[decide_eq_false (by rw[e1,e2];decide)]at o4;have hp:parT op t.op=false:=by rw[e1,e2];decide
      rw[hp]at HT;have HZ:Hid (((((s ++ ⟨#[32]⟩) ++ op) ++ ⟨#[32]⟩) ++ kt).data.toList=Mk.textL rn it op true ((l.map MkM.core).take (k+1))):=iH (by rw[HT.out];simp[sepT,wrapT,ByteArray.data_append,HKE.out]);clear HT hp e1 e2;go_wp2;go_roundw
      case rel=>exact⟨k+1,_,by omega,rfl,by go_num,HZ.out,HBn.out,HB0n.out,HB1n.out⟩
      case measure=>simp[intOf];omega
     have nAnd:=e2;clear e2;by_cases e2:t.op=sOr
     ·rw[decide_eq_false (by rw[e1];decide)]at qA;rw[decide_eq_true e1]at qO;rw[decide_eq_true e2]at o1;rw[decide_eq_false (by rw[e2];decide)]at o2;rw[decide_eq_false (by rw[e2];decide)]at o3;rw[decide_eq_true (by rw[e1,e2])]at o4;have hp:parT op t.op=true:=by rw[e1,e2];decide
      rw[hp]at HT;have HZ:Hid (((((s ++ ⟨#[32]⟩) ++ op) ++ ⟨#[32]⟩) ++ ((⟨#[40]⟩ ++ kt) ++ ⟨#[41]⟩)).data.toList=Mk.textL rn it op true ((l.map MkM.core).take (k+1))):=iH (by rw[HT.out];simp[sepT,wrapT,ByteArray.data_append,HKE.out]);clear HT hp e1 e2;go_wp2;go_roundw
      case rel=>exact⟨k+1,_,by omega,rfl,by go_num,HZ.out,HBn.out,HB0n.out,HB1n.out⟩
      case measure=>simp[intOf];omega
     have nOr:=e2;clear e2;by_cases e2:t.op=sNot
     ·rw[decide_eq_false (by rw[e1];decide)]at qA;rw[decide_eq_true e1]at qO;rw[decide_eq_false (by rw[e2];decide)]at o1;rw[decide_eq_false (by rw[e2];decide)]at o2;rw[decide_eq_true e2]at o3;rw[decide_eq_false (by rw[e1,e2];decide)]at o4;have hp:parT op t.op=false:=by rw[e1,e2];decide
      rw[hp]at HT;have HZ:Hid (((((s ++ ⟨#[32]⟩) ++ op) ++ ⟨#[32]⟩) ++ kt).data.toList=Mk.textL rn it op true ((l.map MkM.core).take (k+1))):=iH (by rw[HT.out];simp[sepT,wrapT,ByteArray.data_append,HKE.out]);clear HT hp e1 e2;go_wp2;go_roundw
      case rel=>exact⟨k+1,_,by omega,rfl,by go_num,HZ.out,HBn.out,HB0n.out,HB1n.out⟩
      case measure=>simp[intOf];omega
     have nNot:=e2;clear e2;rw[decide_eq_false (by rw[e1];decide)]at qA;rw[decide_eq_true e1]at qO;rw[decide_eq_false nOr]at o1;rw[decide_eq_false nAnd]at o2;rw[decide_eq_false nNot]at o3;rw[decide_eq_false (by rw[e1];exact nOr)]at o4;have hp:parT op t.op=false:=by unfold parT;rw[decide_eq_false nAnd,decide_eq_false nOr];rfl
     rw[hp]at HT;have HZ:Hid (((((s ++ ⟨#[32]⟩) ++ op) ++ ⟨#[32]⟩) ++ kt).data.toList=Mk.textL rn it op true ((l.map MkM.core).take (k+1))):=iH (by rw[HT.out];simp[sepT,wrapT,ByteArray.data_append,HKE.out]);clear HT hp e1 nAnd nOr nNot;go_wp2;go_roundw
     case rel=>exact⟨k+1,_,by omega,rfl,by go_num,HZ.out,HBn.out,HB0n.out,HB1n.out⟩
     case measure=>simp[intOf];omega
  ·have hkn:k=n:=by omega
   have HF:Hid (s=⟨(Mk.textL rn it op true (l.map MkM.core)).toArray⟩):=iH (bytes_of (by
    rw[hx,hkn,List.take_of_length_le (by have:=Hn.out;simp;omega)]))
   clear hkn hx HLEN HKB;go_wp2;go_ret;exact⟨by rw[HF.out];rfl,HB.out⟩
theorem rtext_not {m:CatM} {a b:Int} {l:List MkM} {A:Option Addr} {n c:Nat} {w:World} {P:Nat->Prop} {rn it:List ByteArray} (hn1:n=1) (ih:∀t∈l,∀U,Below w.heap.size w U->Calls Tryz.prog 39 #[.agg #[.slice m.si.A m.si.n m.si.c,.slice m.sr.A m.sr.n m.sr.c,.slice m.st.A m.st.n m.st.c,.slice m.sx.A m.sx.n m.sx.c],.agg #[.string t.op,.int .i64 t.a,.int .i64 t.b,.slice t.s.A t.s.n t.s.c]] U fun e w'=>e=.returned (.string ⟨(Mk.text rn it t.core).toArray⟩)∧Below U.heap.size U w') (h:MkM.Ok w 35 P ⟨sNot,a,b,l,⟨A,n,c⟩⟩) (ha:In64 a) (hlen:([110,111,116,32] ++ Mk.textL rn it sNot true (l.map MkM.core)).length<=1000000) :
 Calls Tryz.prog 39 #[.agg #[.slice m.si.A m.si.n m.si.c,.slice m.sr.A m.sr.n m.sr.c,.slice m.st.A m.st.n m.st.c,.slice m.sx.A m.sx.n m.sx.c],.agg #[.string sNot,.int .i64 a,.int .i64 b,.slice A n c]] w fun e w'=>e=.returned (.string ⟨([110,111,116,32] ++ Mk.textL rn it sNot true (l.map MkM.core)).toArray⟩)∧Below w.heap.size w w':=by
 have y:Below w.heap.size w ((w.alloc (.cells #[.slice m.si.A m.si.n m.si.c,.slice m.sr.A m.sr.n m.sr.c,.slice m.st.A m.st.n m.st.c,.slice m.sx.A m.sx.n m.sx.c] 28)).alloc (.cells #[.string sNot,.int .i64 a,.int .i64 b,.slice A n c] 35)):=((Below.refl _ _).alloc (Nat.le_refl _) _).alloc (by simp) _;have Y:=iH y;have B0:=iH ((Bk.new w 28 [.slice m.si.A m.si.n m.si.c,.slice m.sr.A m.sr.n m.sr.c,.slice m.st.A m.st.n m.st.c,.slice m.sx.A m.sx.n m.sx.c]).alloc (.cells #[.string sNot,.int .i64 a,.int .i64 b,.slice A n c] 35));have B1:Hid (Bk ((w.alloc (.cells #[.slice m.si.A m.si.n m.si.c,.slice m.sr.A m.sr.n m.sr.c,.slice m.st.A m.st.n m.st.c,.slice m.sx.A m.sx.n m.sx.c] 28)).alloc (.cells #[.string sNot,.int .i64 a,.int .i64 b,.slice A n c] 35)) (w.heap.size+1) 35 [.string sNot,.int .i64 a,.int .i64 b,.slice A n c]):=by
  have:=Bk.new (w.alloc (.cells #[.slice m.si.A m.si.n m.si.c,.slice m.sr.A m.sr.n m.sr.c,.slice m.st.A m.st.n m.st.c,.slice m.sx.A m.sx.n m.sx.c] 28)) 35 [.string sNot,.int .i64 a,.int .i64 b,.slice A n c];rw[World.size_alloc]at this;exact iH this
 have qKind:(sNot.toList == [107,105,110,100])=false:=by rw[<- lKind',eqL];decide
 have qActor:(sNot.toList == [97,99,116,111,114])=false:=by rw[<- lActor',eqL];decide
 have qRule:(sNot.toList == [114,117,108,101])=false:=by rw[<- lRule',eqL];decide
 have qTick:(sNot.toList == [116,105,99,107])=false:=by rw[<- lTick',eqL];decide
 have qItem:(sNot.toList == [105,116,101,109])=false:=by rw[<- lItem',eqL];decide
 have qMore:(sNot.toList == [109,111,114,101])=false:=by rw[<- lMore',eqL];decide
 have qStep:(sNot.toList == [115,116,101,112])=false:=by rw[<- lStep',eqL];decide
 have qAccount:(sNot.toList == [97,99,99,111,117,110,116])=false:=by rw[<- lAccount',eqL];decide
 have qN:(sNot.toList == [110,111,116])=true:=by rw[<- lNot,eqL];decide
 have qA:(sNot.toList == [97,110,100])=false:=by rw[<- lAnd,eqL];decide
 have qO:(sNot.toList == [111,114])=false:=by rw[<- lOr,eqL];decide
 have KD:=iH (decimal_any a ha ((w.alloc (.cells #[.slice m.si.A m.si.n m.si.c,.slice m.sr.A m.sr.n m.sr.c,.slice m.st.A m.st.n m.st.c,.slice m.sx.A m.sx.n m.sx.c] 28)).alloc (.cells #[.string sNot,.int .i64 a,.int .i64 b,.slice A n c] 35)));have hosz:sNot.size<=10:=by decide
 have Hn:=iH h.len;have H:=iH h;have hs:=h.small;dsimp only at Hn hs;have HI:=iH ih;have HLEN:=iH hlen;have HKB:Hid (∀t∈l,(wrapT (parT sNot t.op) (Mk.text rn it t.core)).length<=1000000):=iH fun t ht=>by
  have h1:=kid_bound (rn:=rn) (it:=it) (o:=sNot) (f:=true) (List.mem_map_of_mem (f:=MkM.core) ht);rw[core_op]at h1;have h2:=hlen
  try simp only[List.length_append]at h2
  omega
 have HN1:=iH hn1;clear h y ih hlen hn1;go_enter Tryz.func39,Tryz.ntmps39;go_wp2_with fail;refine KD.out.mono ?_;rintro e w1 ⟨rfl,rfl⟩;clear KD;go_wp2_with fail;go_loopw [6,7] (fun v i wr=>∃(k:Nat) (s:ByteArray),k<=n∧v=.string s∧i=.int .i64 k∧s.data.toList=(if k=0 then[] else[110,111,116,32] ++ Mk.textL rn it sNot true ((l.map MkM.core).take k))∧Below w.heap.size w wr∧Bk wr w.heap.size 28 [.slice m.si.A m.si.n m.si.c,.slice m.sr.A m.sr.n m.sr.c,.slice m.st.A m.st.n m.st.c,.slice m.sx.A m.sx.n m.sx.c]∧Bk wr (w.heap.size+1) 35 [.string sNot,.int .i64 a,.int .i64 b,.slice A n c]) (fun _ i _=>n-(intOf i).toNat)
 case atStart=>exact⟨0,⟨#[]⟩,Nat.zero_le _,rfl,rfl,rfl,Y.out,B0.out,B1.out⟩
 case round =>
  obtain⟨k,s,hk,rfl,rfl,hx,hb,hb0,hb1⟩:=hrel;have HB:=iH hb;have HB0:=iH hb0;have HB1:=iH hb1;have f3:=hb1.k3;have fl:=hb1.lt;clear hb hb0 hb1 Y B0 B1;by_cases hlt:k<n
  ·have hkl:k<l.length:=by have:=Hn.out;omega
   obtain⟨bb,off,hA,hbb,c0,c1,c2,c3⟩:=H.out.at_ k hkl;dsimp only[MkM.ks,MkM.s]at hA c0 c1 c2 c3;subst hA;have HEL:Hid (∀w',Below w.heap.size w w'->((w'.cell? ⟨bb,off+k*4,none⟩=some (.string l[k].op)∧w'.cell? ⟨bb,off+k*4+1,none⟩=some (.int .i64 l[k].a)∧w'.cell? ⟨bb,off+k*4+2,none⟩=some (.int .i64 l[k].b)∧w'.cell? ⟨bb,off+k*4+3,none⟩=some (.slice l[k].s.A l[k].s.n l[k].s.c))∧bb<w'.heap.size)):=iH fun U hU =>
    ⟨⟨(hU.cell (p:=⟨bb,off+k*4,none⟩) hbb).trans c0,(hU.cell (p:=⟨bb,off+k*4+1,none⟩) hbb).trans c1,(hU.cell (p:=⟨bb,off+k*4+2,none⟩) hbb).trans c2,(hU.cell (p:=⟨bb,off+k*4+3,none⟩) hbb).trans c3⟩,Nat.lt_of_lt_of_le hbb hU.size⟩
   have hssz:s.size<=1000000:=by
    have h1:=congrArg List.length hx;have h2:=HLEN.out;have h3:=textL_le (rn:=rn) (it:=it) (o:=sNot) (l.map MkM.core) k;simp only[Array.length_toList]at h1;show s.data.size<=1000000;have hz:k=0:=by have:=HN1.out;omega
    rw[h1,hz];simp
   have HK0:Hid (k=0):=iH (by have:=HN1.out;omega);have HT:Hid ([110,111,116,32] ++ Mk.textL rn it sNot true ((l.map MkM.core).take (k+1))=[110,111,116,32] ++ (sepT sNot (k == 0) ++ wrapT (parT sNot l[k].op) (Mk.text rn it l[k].core))):=by
    show _=_;rw[textL_take _ k (by simpa using hkl)];simp[core_op,HK0.out,Mk.textL]
   have hkb:=HKB.out l[k] (List.getElem_mem hkl);have HC:=iH (HI.out l[k] (List.getElem_mem hkl) wr.drew HB.out.drew);obtain⟨kt,hkt⟩:∃kt:ByteArray,kt=⟨(Mk.text rn it l[k].core).toArray⟩:=⟨_,rfl⟩;have hkt2:Mk.text rn it l[k].core=kt.data.toList:=by rw[hkt]
   rw[<- hkt]at HC;rw[hkt2]at HT hkb;have hksz:kt.size<=1000000:=by
    have:kt.data.toList.length<=(wrapT (parT sNot l[k].op) kt.data.toList).length:=by
     cases parT sNot l[k].op <;> simp[wrapT]
     try omega
    simp only[Array.length_toList]at this;show kt.data.size<=1000000;omega
   clear c0 c1 c2 c3 hbb hkt hkt2 hkb;have o1:(l[k].op.toList == [111,114])=decide (l[k].op=sOr):=by rw[<- lOr,eqL]
   have o2:(l[k].op.toList == [97,110,100])=decide (l[k].op=sAnd):=by rw[<- lAnd,eqL]
   have o3:(l[k].op.toList == [110,111,116])=decide (l[k].op=sNot):=by rw[<- lNot,eqL]
   have o4:(l[k].op.toList == sNot.toList)=decide (l[k].op=sNot):=eqL _ _;generalize l[k]=t at *;clear hkl;go_wp2;refine wp_region_X (fun w'=>(Bk w' w.heap.size 28 [.slice m.si.A m.si.n m.si.c,.slice m.sr.A m.sr.n m.sr.c,.slice m.st.A m.st.n m.st.c,.slice m.sx.A m.sx.n m.sx.c]∧Bk w' (w.heap.size+1) 35 [.string sNot,.int .i64 a,.int .i64 b,.slice (some ⟨bb,off,none⟩) n c])∧((w'.cell? ⟨bb,off+k*4,none⟩=some (.string t.op)∧w'.cell? ⟨bb,off+k*4+1,none⟩=some (.int .i64 t.a)∧w'.cell? ⟨bb,off+k*4+2,none⟩=some (.int .i64 t.b)∧w'.cell? ⟨bb,off+k*4+3,none⟩=some (.slice t.s.A t.s.n t.s.c))∧bb<w'.heap.size)) 8 (n:=8) rfl (by kernel_rfl) (⟨⟨HB0.out.drew,HB1.out.drew⟩,HEL.out _ HB.out.drew⟩) (fun hS=>?_);refine uT 0 84 hS ?_ (hy:=fun w' hS'=>by have⟨e0,e1,e2,e3,el⟩:=hS'.1.1.p4;(go_simp;try with_reducible rfl));refine uT 1 85 hS ?_;refine uT 2 86 hS ?_ (hy:=fun w' hS'=>by have⟨e0,e1,e2,e3,el⟩:=hS'.1.2.p4;(go_simp;try with_reducible rfl));refine uT 3 87 hS ?_;refine uT 4 88 hS ?_;refine uT 5 89 hS ?_ (hy:=fun w' hS'=>by have e0:=hS'.2.1.1;have e1:=hS'.2.1.2.1;have e2:=hS'.2.1.2.2.1;have e3:=hS'.2.1.2.2.2;have el:=hS'.2.2;(go_simp;try with_reducible rfl));refine X_o 6 rfl fun K hK=>?_;go_simp;(with_reducible refine HC.out.mono ?_);rintro e w1 ⟨rfl,hb1⟩;have hd:=(Below.refl wr.heap.size wr).drew.trans hb1;have HBn:=iH (HB.out.trans (hd.mono HB.out.size));have HB0n:=iH (HB0.out.below hd HB0.out.lt);have HB1n:=iH (HB1.out.below hd HB1.out.lt);refine hK _ _ ⟨⟨HB0n.out,HB1n.out⟩,HEL.out _ HBn.out⟩ ?_;clear hK HC hb1 hd HB HB0 HB1;refine X_o 7 rfl fun K hK=>?_;go_simp;refine hK _ _ ⟨⟨HB0n.out,HB1n.out⟩,HEL.out _ HBn.out⟩ ?_;clear hK;refine X_done (by kernel_rfl) ?_;clear hS;have hel:=HEL.out _ HBn.out;have d0:=hel.1.1;have dl:=hel.2;have⟨b0,b1,b2,b3,bl⟩:=HB1n.out.p4;clear hel HEL HKB;by_cases e2:t.op=sAnd
   ·rw[decide_eq_false (by rw[e2];decide)]at o1;rw[decide_eq_true e2]at o2;rw[decide_eq_false (by rw[e2];decide)]at o3;rw[decide_eq_false (by rw[e2];decide)]at o4;have hp:parT sNot t.op=true:=by rw[e2];decide
    rw[hp]at HT;have HZ:Hid (((⟨#[110,111,116,32]⟩:ByteArray) ++ ((⟨#[40]⟩ ++ kt) ++ ⟨#[41]⟩)).data.toList=[110,111,116,32] ++ Mk.textL rn it sNot true ((l.map MkM.core).take (k+1))):=iH (by rw[HT.out];simp[sepT,wrapT,ByteArray.data_append,HK0.out]);clear HT hp e2;go_wp2;go_roundw
    case rel=>exact⟨k+1,_,by omega,rfl,by go_num,by rw[if_neg (by omega)];exact HZ.out,HBn.out,HB0n.out,HB1n.out⟩
    case measure=>simp[intOf];omega
   have nAnd:=e2;clear e2;by_cases e2:t.op=sOr
   ·rw[decide_eq_true e2]at o1;rw[decide_eq_false (by rw[e2];decide)]at o2;rw[decide_eq_false (by rw[e2];decide)]at o3;rw[decide_eq_false (by rw[e2];decide)]at o4;have hp:parT sNot t.op=true:=by rw[e2];decide
    rw[hp]at HT;have HZ:Hid (((⟨#[110,111,116,32]⟩:ByteArray) ++ ((⟨#[40]⟩ ++ kt) ++ ⟨#[41]⟩)).data.toList=[110,111,116,32] ++ Mk.textL rn it sNot true ((l.map MkM.core).take (k+1))):=iH (by rw[HT.out];simp[sepT,wrapT,ByteArray.data_append,HK0.out]);clear HT hp e2;go_wp2;go_roundw
    case rel=>exact⟨k+1,_,by omega,rfl,by go_num,by rw[if_neg (by omega)];exact HZ.out,HBn.out,HB0n.out,HB1n.out⟩
    case measure=>simp[intOf];omega
   have nOr:=e2;clear e2;by_cases e2:t.op=sNot
   ·rw[decide_eq_false (by rw[e2];decide)]at o1;rw[decide_eq_false (by rw[e2];decide)]at o2;rw[decide_eq_true e2]at o3;rw[decide_eq_true e2]at o4;have hp:parT sNot t.op=false:=by rw[e2];decide
    rw[hp]at HT;have HZ:Hid (((⟨#[110,111,116,32]⟩:ByteArray) ++ kt).data.toList=[110,111,116,32] ++ Mk.textL rn it sNot true ((l.map MkM.core).take (k+1))):=iH (by rw[HT.out];simp[sepT,wrapT,ByteArray.data_append,HK0.out]);clear HT hp e2;go_wp2;go_roundw
    case rel=>exact⟨k+1,_,by omega,rfl,by go_num,by rw[if_neg (by omega)];exact HZ.out,HBn.out,HB0n.out,HB1n.out⟩
    case measure=>simp[intOf];omega
   have nNot:=e2;clear e2;rw[decide_eq_false nOr]at o1;rw[decide_eq_false nAnd]at o2;rw[decide_eq_false nNot]at o3;rw[decide_eq_false nNot]at o4;have hp:parT sNot t.op=false:=by unfold parT;rw[decide_eq_false nAnd,decide_eq_false nOr];rfl
   rw[hp]at HT;have HZ:Hid (((⟨#[110,111,116,32]⟩:ByteArray) ++ kt).data.toList=[110,111,116,32] ++ Mk.textL rn it sNot true ((l.map MkM.core).take (k+1))):=iH (by rw[HT.out];simp[sepT,wrapT,ByteArray.data_append,HK0.out]);clear HT hp nAnd nOr nNot;go_wp2;go_roundw
   case rel=>exact⟨k+1,_,by omega,rfl,by go_num,by rw[if_neg (by omega)];exact HZ.out,HBn.out,HB0n.out,HB1n.out⟩
   case measure=>simp[intOf];omega
  ·have hkn:k=n:=by omega
   have HF:Hid (s=⟨([110,111,116,32] ++ Mk.textL rn it sNot true (l.map MkM.core)).toArray⟩):=iH (bytes_of (by
    rw[hx,if_neg (by have:=HN1.out;omega),hkn,List.take_of_length_le (by have:=Hn.out;simp;omega)]))
   clear hkn hx HLEN HKB;go_wp2;go_ret;exact⟨by rw[HF.out];rfl,HB.out⟩
end Go.Proofs.YtocodlpgaamblaaGreatDoor
