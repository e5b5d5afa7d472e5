/- The writer writes a condition. -/
import Derived.Test.YtocodlpgaamblaaGreatDoorO5
import Derived.Test.YtocodlpgaamblaaGreatDoorO8
import Derived.Test.YtocodlpgaamblaaGreatDoorO15
set_option linter.unusedVariables false
set_option linter.unusedSimpArgs false
set_option maxRecDepth 100000
set_option maxHeartbeats 4000000
open Go.RowKit
namespace Go.Proofs.YtocodlpgaamblaaGreatDoor
section
structure WCtx (w : World) (B : Nat) (its rus : Sl) (it rn : List ByteArray) : Prop where
 tab:Tab w
 pow:TabP w
 its:NmV w its.A its.n it
 rus:NmV w rus.A rus.n rn
 B2:2<=B
 Bw:B<=w.heap.size
 sit:∀s∈it,s.size<=8192
 srn:∀s∈rn,s.size<=8192
section
variable {w0 w w' : World} {B wb bx : Nat} {ML : List Value} {bs : List UInt8} {its rus : Sl} {it rn : List ByteArray} {fit : Bool}
theorem WCtx.go (h:WCtx w B its rus it rn) (hg:GrW B w w'):WCtx w' B its rus it rn :=
 ⟨h.tab.below hg.low h.B2,h.pow.below hg.low (by have:=h.B2;omega),h.its.keep (hg.keep 9 (by decide) (by decide)),h.rus.keep (hg.keep 9 (by decide) (by decide)),h.B2,Nat.le_trans h.Bw hg.size,h.sit,h.srn⟩
def WC (w:World) (wb:Nat) (its rus:Sl):Prop:=w.cell? ⟨wb,2,none⟩=some (.slice its.A its.n its.c)∧w.cell? ⟨wb,3,none⟩=some (.slice rus.A rus.n rus.c)∧wb<w.heap.size
structure WSt (w0 w : World) (B wb bx : Nat) (ML : List Value) (bs : List UInt8) (its rus : Sl) (it rn : List ByteArray) (fit : Bool) : Prop where
 ctx:WCtx w B its rus it rn
 wr:WrAt w B wb bs its rus fit
 bx:Bk w bx 49 ML
 gr:GrW B w0 w
theorem WSt.wc (h:WSt w0 w B wb bx ML bs its rus it rn fit):WC w wb its rus:=⟨h.wr.cells.1,h.wr.cells.2.1,h.wr.lt⟩
theorem WSt.below (h:WSt w0 w B wb bx ML bs its rus it rn fit) (hb:Below w.heap.size w w'):WSt w0 w' B wb bx ML bs its rus it rn fit :=
 ⟨h.ctx.go (.of_below hb h.ctx.Bw),h.wr.below hb,h.bx.below hb h.bx.lt,h.gr.trans (.of_below hb h.ctx.Bw)⟩
theorem WSt.drew (h:WSt w0 w B wb bx ML bs its rus it rn fit):WSt w0 w.drew B wb bx ML bs its rus it rn fit:=h.below (Below.refl _ _).drew
theorem WSt.go {bs':List UInt8} {fit':Bool} (h:WSt w0 w B wb bx ML bs its rus it rn fit) (h1:WrAt w' B wb bs' its rus fit') (hg:GrW B w w'):WSt w0 w' B wb bx ML bs' its rus it rn fit' :=
 ⟨h.ctx.go hg,h1,h.bx.keep (hg.keep 49 (by decide) (by decide)),h.gr.trans hg⟩
def Wrote (w:World) (B wb:Nat) (bs:List UInt8) (its rus:Sl) (fit:Bool) (t:List UInt8) (ok:Bool) (e:Ending) (w':World):Prop :=
 e=.returned (.tuple #[])∧WrAt w' B wb (bs ++ t) its rus (fit && ok)∧GrW B w w'
theorem WSt.write (h:WSt w0 w B wb bx ML bs its rus it rn fit) (s:ByteArray) (hlen:bs.length+s.size<=1000000) :
 Calls Tryz.prog 79 #[.pointer (some ⟨wb,0,none⟩),.string s] w fun e w'=>e=.returned (.tuple #[.int .i64 s.size,.nilIface])∧WSt w0 w' B wb bx ML (bs ++ s.data.toList) its rus it rn fit∧GrW B w w' :=
 (write_any s h.wr h.ctx.Bw hlen).mono fun _ _ hp=>⟨hp.1,h.go hp.2.1 hp.2.2,hp.2.2⟩
theorem WSt.itoa (h:WSt w0 w B wb bx ML bs its rus it rn fit) (n:Int) (hn:In64 n) :
 Calls Tryz.prog 83 #[.int .i64 n] w fun e w'=>∃s:ByteArray,e=.returned (.string s)∧s.data.toList=Lib.itoa n∧s.size<=21∧WSt w0 w' B wb bx ML bs its rus it rn fit :=
 (itoa_any n hn w h.ctx.pow).mono fun _ _ hp=>⟨_,hp.1,by simp,by have:=Lib.itoa_length_le n hn.1 hn.2;show(Lib.itoa n).toArray.size<=21;simpa using this,h.below hp.2⟩
theorem WSt.kinds (h:WSt w0 w B wb bx ML bs its rus it rn fit) :
 Calls Tryz.prog 81 #[] w fun e w'=>∃A n c,e=.returned (.slice A n c)∧NmV w' A n kindNs∧WSt w0 w' B wb bx ML bs its rus it rn fit :=
 (kinds_any w).mono fun _ _ ⟨A,n,c,h1,h2,h3⟩=>⟨A,n,c,h1,h2,h.below h3⟩
theorem WSt.item (h:WSt w0 w B wb bx ML bs its rus it rn fit) (k:Nat) (hk:k<it.length) :
 Calls Tryz.prog 82 #[.pointer (some ⟨wb,0,none⟩),.slice its.A its.n its.c,.int .i64 k] w fun e w'=>e=.returned (.string it[k])∧WSt w0 w' B wb bx ML bs its rus it rn (fit && wordOk it k) :=
 (nameW_any k h.wr h.ctx.Bw h.ctx.tab h.ctx.its hk (h.ctx.sit _ (List.getElem_mem hk))).mono fun _ _ hp=>⟨hp.1,h.go hp.2.1 hp.2.2⟩
theorem WSt.rule (h:WSt w0 w B wb bx ML bs its rus it rn fit) (k:Nat) (hk:k<rn.length) :
 Calls Tryz.prog 82 #[.pointer (some ⟨wb,0,none⟩),.slice rus.A rus.n rus.c,.int .i64 k] w fun e w'=>e=.returned (.string rn[k])∧WSt w0 w' B wb bx ML bs its rus it rn (fit && wordOk rn k) :=
 (nameW_any k h.wr h.ctx.Bw h.ctx.tab h.ctx.rus hk (h.ctx.srn _ (List.getElem_mem hk))).mono fun _ _ hp=>⟨hp.1,h.go hp.2.1 hp.2.2⟩
end
theorem WSt.start {W:World} {B wb:Nat} {bs:List UInt8} {its rus:Sl} {it rn:List ByteArray} {fit:Bool} (hC:WCtx W B its rus it rn) (hW:WrAt W B wb bs its rus fit) (op:ByteArray) (a b:Int) (s:Sl) :
 WSt W (W.alloc (.cells #[.string op,.int .i64 a,.int .i64 b,.slice s.A s.n s.c] 49)) B wb W.heap.size [.string op,.int .i64 a,.int .i64 b,.slice s.A s.n s.c] bs its rus it rn fit :=
 ⟨hC.go (.of_below ((Below.refl _ _).alloc (Nat.le_refl _) _) hC.Bw),hW.below ((Below.refl _ _).alloc (Nat.le_refl _) _),Bk.new W 49 [.string op,.int .i64 a,.int .i64 b,.slice s.A s.n s.c],.of_below ((Below.refl _ _).alloc (Nat.le_refl _) _) hC.Bw⟩
theorem nmAt_get {l:List ByteArray} {k:Nat} (hk:k<l.length):nmAt l (k:Int)=l[k]:=by
 unfold nmAt;rw[Int.toNat_natCast,List.getElem?_eq_getElem hk];rfl
theorem lKi:sKind.toList=[107,105,110,100]:=by decide +kernel
theorem lRu:sRule.toList=[114,117,108,101]:=by decide +kernel
theorem lIt:sItem.toList=[105,116,101,109]:=by decide +kernel
theorem lMo:sMore.toList=[109,111,114,101]:=by decide +kernel
theorem lTi:sTick.toList=[116,105,99,107]:=by decide +kernel
theorem lSt:sStep.toList=[115,116,101,112]:=by decide +kernel
theorem cond_writes {W:World} {B wb:Nat} {bs:List UInt8} {its rus:Sl} {it rn:List ByteArray} {fit:Bool} {op:ByteArray} {a b:Int} {s:Sl} (hC:WCtx W B its rus it rn) (hW:WrAt W B wb bs its rus fit) (hal:aloneE it.length rn.length op a b s.n=0) (h1:op≠sAnd) (h2:op≠sOr) (h3:op≠sNot) (ha:In64 a) (hb:In64 b)
 (hlen:bs.length+(condT rn it op a b).length<=1000000):Calls Tryz.prog 52 #[.pointer (some ⟨wb,0,none⟩),.agg #[.string op,.int .i64 a,.int .i64 b,.slice s.A s.n s.c]] W (Wrote W B wb bs its rus fit (condT rn it op a b) (condF rn it op a b)):=by
 obtain⟨ho,hn0,hnm,hrg⟩:=alone_cond hal h1 h2 h3;have H0:=iH (WSt.start hC hW op a b s);have hos:op.size<=7:=isOp_size ho;have q1:(op.toList == [97,110,100])=false:=by rw[<- lAnd,eqL];simpa using h1
 have q2:(op.toList == [111,114])=false:=by rw[<- lOr,eqL];simpa using h2
 have q3:(op.toList == [110,111,116])=false:=by rw[<- lNot,eqL];simpa using h3
 have k1:(op.toList == [107,105,110,100])=decide (op=sKind):=by rw[<- lKi];exact eqL _ _
 have k2:(op.toList == [114,117,108,101])=decide (op=sRule):=by rw[<- lRu];exact eqL _ _
 have k3:(op.toList == [105,116,101,109])=decide (op=sItem):=by rw[<- lIt];exact eqL _ _
 have k4:(op.toList == [109,111,114,101])=decide (op=sMore):=by rw[<- lMo];exact eqL _ _
 have k5:(op.toList == [116,105,99,107])=decide (op=sTick):=by rw[<- lTi];exact eqL _ _
 have k6:(op.toList == [115,116,101,112])=decide (op=sStep):=by rw[<- lSt];exact eqL _ _
 clear hal h1 h2 h3 hn0 hC hW;have HT:Hid (condT rn it op a b=op.data.toList ++ [32] ++ (condT rn it op a b).drop (op.data.toList.length+1)):=by
  show _=_;unfold condT;rw[List.drop_append_of_le_length (by simp)];simp
 have hL0:(op ++ (⟨#[32]⟩:ByteArray)).size=op.data.toList.length+1:=by simp[show(⟨#[32]⟩:ByteArray).size=1 from rfl]
 have hL1:Hid (bs.length+(op ++ (⟨#[32]⟩:ByteArray)).size<=1000000):=by
  show _<=_;have h9:=congrArg List.length HT.out;simp only[List.length_append,List.length_drop,List.length_cons,List.length_nil]at h9;omega
 have HLEN:=iH hlen;have hIa:=ha;have hIb:=hb;clear ha hb hlen hL0 HT;go_enter Tryz.func52,Tryz.ntmps52;go_wp2;refine wp_region_X (fun w'=>Bk w' W.heap.size 49 [.string op,.int .i64 a,.int .i64 b,.slice s.A s.n s.c]∧WC w' wb its rus) 7 (n:=7) rfl (by kernel_rfl) (⟨H0.out.drew.bx,H0.out.drew.wc⟩) (fun hS=>?_);refine uT 0 49 hS ?_;refine uT 1 50 hS ?_;refine uT 2 51 hS ?_;refine uT 3 52 hS ?_;refine uT 4 53 hS ?_ (hy:=fun w' hS'=>by have⟨e0,e1,e2,e3,el⟩:=hS'.1.p4;(go_simp;try with_reducible rfl));refine uT 5 54 hS ?_ (hy:=fun w' hS'=>by have ez:¬ 9223372036854775807<op.size+1:=Nat.not_lt.2 (Nat.le_trans (Nat.succ_le_succ hos) (by decide));(go_simp;try with_reducible rfl));refine X_o 6 rfl fun K hK=>?_;go_simp;have K:=iH (H0.out.drew.write _ hL1.out);(with_reducible refine K.out.mono ?_);rintro e w1 ⟨rfl,hw,_⟩;have Hw1:=iH hw;refine hK _ _ ⟨Hw1.out.bx,Hw1.out.wc⟩ ?_;clear hK K hw;refine X_done (by kernel_rfl) ?_;clear H0 hL1 hS;have b0:=Hw1.out.bx.k0;have bl:=Hw1.out.bx.lt;by_cases e1:op=sKind
 ·have HQ:Hid (condT rn it op a b=op.data.toList ++ [32] ++ (nmAt kindNs a).data.toList):=by show _=_;unfold condT;rw[if_pos e1]
  have HF:Hid (condF rn it op a b=true):=by show _=_;unfold condF;subst e1;rfl
  have hr:0<=a∧a<=10:=by
   unfold rangeK at hrg;rw[if_pos e1]at hrg;simpa using hrg
  obtain⟨k,rfl⟩:=Int.eq_ofNat_of_zero_le hr.1;have hk:k<kindNs.length:=by have:(k:Int)<=10:=hr.2;have:kindNs.length=11:=rfl;omega
  have hk2:(k:Int)<11:=by have:=hr.2;omega
  have hnk:nmAt kindNs (k:Int)=kindNs[k]:=nmAt_get hk;have hL2:Hid ((bs ++ (op ++ (⟨#[32]⟩:ByteArray)).data.toList).length+(kindNs[k]).size<=1000000):=by
   show _<=_;have h9:=congrArg List.length HQ.out;have h10:=HLEN.out;rw[hnk]at h9;simp at h9⊢;omega
  have HQ2:Hid (bs ++ condT rn it op k b=(bs ++ (op ++ (⟨#[32]⟩:ByteArray)).data.toList) ++ kindNs[k].data.toList):=by show _=_;rw[HQ.out,hnk];simp
  rw[decide_eq_true e1]at k1;clear k2 k3 k4 k5 k6 hr hnk hnm hrg HQ e1 HLEN;go_wp2;refine wp_region_X (fun w'=>Bk w' W.heap.size 49 [.string op,.int .i64 (k:Int),.int .i64 b,.slice s.A s.n s.c]∧WC w' wb its rus) 9 (n:=9) rfl (by kernel_rfl) (⟨Hw1.out.drew.bx,Hw1.out.drew.wc⟩) (fun hS=>?_);refine uT 0 67 hS ?_;refine uT 1 68 hS ?_;refine uT 2 69 hS ?_;refine uT 4 71 hS ?_;refine uT 5 72 hS ?_ (hy:=fun w' hS'=>by have⟨e0,e1,e2,e3,el⟩:=hS'.1.p4;(go_simp;try with_reducible rfl));refine X_o 3 rfl fun K hK=>?_;go_simp;have K:=iH Hw1.out.drew.kinds;(with_reducible refine K.out.mono ?_);rintro e w2 ⟨A2,n2,c2,rfl,hN,hw⟩;obtain⟨bb,off,rfl,hbb,c0⟩:=hN.at_ k hk;obtain rfl:n2=11:=hN.len;have Hw2:=iH hw;refine hK _ _ ⟨Hw2.out.bx,Hw2.out.wc⟩ ?_;clear hK K hw hN;generalize hnm:kindNs[k]=nm at *;refine X_o 6 rfl fun K hK=>?_;go_simp;refine hK _ _ ⟨Hw2.out.bx,Hw2.out.wc⟩ ?_;clear hK;refine X_o 7 rfl fun K hK=>?_;go_simp;refine hK _ _ ⟨Hw2.out.bx,Hw2.out.wc⟩ ?_;clear hK;refine X_o 8 rfl fun K hK=>?_;go_simp;have K:=iH (Hw2.out.write nm hL2.out);(with_reducible refine K.out.mono ?_);rintro e w3 ⟨rfl,hw,_⟩;have Hw3:=iH hw;refine hK _ _ ⟨Hw3.out.bx,Hw3.out.wc⟩ ?_;clear hK K hw;refine X_done (by kernel_rfl) ?_;go_wp2
  go_end0
  refine⟨rfl,?_,Hw3.out.gr⟩;rw[HQ2.out,HF.out,Bool.and_true];exact Hw3.out.wr
 rw[decide_eq_false e1]at k1;by_cases e2:op=sRule
 ·have HQ:Hid (condT rn it op a b=op.data.toList ++ [32] ++ (nmAt rn a).data.toList):=by show _=_;unfold condT;rw[if_neg e1,if_pos e2]
  have HF:Hid (condF rn it op a b=wordOk rn a.toNat):=by show _=_;unfold condF;rw[if_pos e2]
  have hr:0<=a∧a<rn.length:=by
   unfold namesOk at hnm;rw[if_pos e2]at hnm;simpa using hnm
  obtain⟨k,rfl⟩:=Int.eq_ofNat_of_zero_le hr.1;have hk:k<rn.length:=by omega
  have hnk:nmAt rn (k:Int)=rn[k]:=nmAt_get hk;have hL2:Hid ((bs ++ (op ++ (⟨#[32]⟩:ByteArray)).data.toList).length+(rn[k]).size<=1000000):=by
   show _<=_;have h9:=congrArg List.length HQ.out;have h10:=HLEN.out;rw[hnk]at h9;simp at h9⊢;omega
  have HQ2:Hid (bs ++ condT rn it op k b=(bs ++ (op ++ (⟨#[32]⟩:ByteArray)).data.toList) ++ rn[k].data.toList):=by show _=_;rw[HQ.out,hnk];simp
  rw[decide_eq_true e2]at k2;clear k3 k4 k5 k6 hr hnk hnm hrg HQ e1 e2 HLEN;go_wp2;refine wp_region_X (fun w'=>Bk w' W.heap.size 49 [.string op,.int .i64 (k:Int),.int .i64 b,.slice s.A s.n s.c]∧WC w' wb its rus) 12 (n:=12) rfl (by kernel_rfl) (⟨Hw1.out.drew.bx,Hw1.out.drew.wc⟩) (fun hS=>?_);refine uT 0 78 hS ?_;refine uT 1 79 hS ?_;refine uT 2 80 hS ?_;refine uT 3 81 hS ?_;refine uT 4 82 hS ?_;refine uT 5 83 hS ?_;refine uT 6 84 hS ?_;refine uT 7 85 hS ?_ (hy:=fun w' hS'=>by have e0:=hS'.2.1;have e1:=hS'.2.2.1;have el:=hS'.2.2.2;(go_simp;try with_reducible rfl));refine uT 8 86 hS ?_;refine uT 9 87 hS ?_ (hy:=fun w' hS'=>by have⟨e0,e1,e2,e3,el⟩:=hS'.1.p4;(go_simp;try with_reducible rfl));refine X_o 10 rfl fun K hK=>?_;go_simp;have K:=iH (Hw1.out.drew.rule k hk);(with_reducible refine K.out.mono ?_);rintro e w2 ⟨rfl,hw⟩;have Hw2:=iH hw;refine hK _ _ ⟨Hw2.out.bx,Hw2.out.wc⟩ ?_;clear hK K hw;generalize hnm:rn[k]=nm at *;refine X_o 11 rfl fun K hK=>?_;go_simp;have K:=iH (Hw2.out.write nm hL2.out);(with_reducible refine K.out.mono ?_);rintro e w3 ⟨rfl,hw,_⟩;have Hw3:=iH hw;refine hK _ _ ⟨Hw3.out.bx,Hw3.out.wc⟩ ?_;clear hK K hw;refine X_done (by kernel_rfl) ?_;go_wp2
  go_end0
  refine⟨rfl,?_,Hw3.out.gr⟩;rw[HQ2.out,HF.out];exact Hw3.out.wr
 rw[decide_eq_false e2]at k2;by_cases e3:op=sItem
 ·have HQ:Hid (condT rn it op a b=op.data.toList ++ [32] ++ (nmAt it a).data.toList):=by show _=_;unfold condT;rw[if_neg e1,if_neg e2,if_pos e3]
  have HF:Hid (condF rn it op a b=wordOk it a.toNat):=by show _=_;unfold condF;rw[if_neg e2,if_pos e3]
  have hr:0<=a∧a<it.length:=by
   unfold namesOk at hnm;rw[if_neg e2,if_pos e3]at hnm;simpa using hnm
  obtain⟨k,rfl⟩:=Int.eq_ofNat_of_zero_le hr.1;have hk:k<it.length:=by omega
  have hnk:nmAt it (k:Int)=it[k]:=nmAt_get hk;have hL2:Hid ((bs ++ (op ++ (⟨#[32]⟩:ByteArray)).data.toList).length+(it[k]).size<=1000000):=by
   show _<=_;have h9:=congrArg List.length HQ.out;have h10:=HLEN.out;rw[hnk]at h9;simp at h9⊢;omega
  have HQ2:Hid (bs ++ condT rn it op k b=(bs ++ (op ++ (⟨#[32]⟩:ByteArray)).data.toList) ++ it[k].data.toList):=by show _=_;rw[HQ.out,hnk];simp
  rw[decide_eq_true e3]at k3;clear k4 k5 k6 hr hnk hnm hrg HQ e1 e2 e3 HLEN;go_wp2;refine wp_region_X (fun w'=>Bk w' W.heap.size 49 [.string op,.int .i64 (k:Int),.int .i64 b,.slice s.A s.n s.c]∧WC w' wb its rus) 12 (n:=12) rfl (by kernel_rfl) (⟨Hw1.out.drew.bx,Hw1.out.drew.wc⟩) (fun hS=>?_);refine uT 0 92 hS ?_;refine uT 1 93 hS ?_;refine uT 2 94 hS ?_;refine uT 3 95 hS ?_;refine uT 4 96 hS ?_;refine uT 5 97 hS ?_;refine uT 6 98 hS ?_;refine uT 7 99 hS ?_ (hy:=fun w' hS'=>by have e0:=hS'.2.1;have e1:=hS'.2.2.1;have el:=hS'.2.2.2;(go_simp;try with_reducible rfl));refine uT 8 100 hS ?_;refine uT 9 101 hS ?_ (hy:=fun w' hS'=>by have⟨e0,e1,e2,e3,el⟩:=hS'.1.p4;(go_simp;try with_reducible rfl));refine X_o 10 rfl fun K hK=>?_;go_simp;have K:=iH (Hw1.out.drew.item k hk);(with_reducible refine K.out.mono ?_);rintro e w2 ⟨rfl,hw⟩;have Hw2:=iH hw;refine hK _ _ ⟨Hw2.out.bx,Hw2.out.wc⟩ ?_;clear hK K hw;generalize hnm:it[k]=nm at *;refine X_o 11 rfl fun K hK=>?_;go_simp;have K:=iH (Hw2.out.write nm hL2.out);(with_reducible refine K.out.mono ?_);rintro e w3 ⟨rfl,hw,_⟩;have Hw3:=iH hw;refine hK _ _ ⟨Hw3.out.bx,Hw3.out.wc⟩ ?_;clear hK K hw;refine X_done (by kernel_rfl) ?_;go_wp2
  go_end0
  refine⟨rfl,?_,Hw3.out.gr⟩;rw[HQ2.out,HF.out];exact Hw3.out.wr
 rw[decide_eq_false e3]at k3;by_cases e4:op=sMore
 ·have HQ:Hid (condT rn it op a b=op.data.toList ++ [32] ++ (Lib.itoa a ++ [32] ++ (nmAt it b).data.toList)):=by show _=_;unfold condT;rw[if_neg e1,if_neg e2,if_neg e3,if_pos e4]
  have HF:Hid (condF rn it op a b=wordOk it b.toNat):=by show _=_;unfold condF;rw[if_neg e2,if_neg e3,if_pos e4]
  have hr:0<=b∧b<it.length:=by
   unfold namesOk at hnm;rw[if_neg e2,if_neg e3,if_pos e4]at hnm;simpa using hnm
  obtain⟨k,rfl⟩:=Int.eq_ofNat_of_zero_le hr.1;have hk:k<it.length:=by omega
  have hnk:nmAt it (k:Int)=it[k]:=nmAt_get hk;have hL3:Hid (it[k].size<=8192):=Hw1.out.ctx.sit _ (List.getElem_mem hk);have HQ2:Hid (∀sa:ByteArray,sa.data.toList=Lib.itoa a->bs ++ condT rn it op a k=(bs ++ (op ++ (⟨#[32]⟩:ByteArray)).data.toList) ++ (sa ++ (⟨#[32]⟩:ByteArray) ++ it[k]).data.toList):=by intro sa hsa;rw[HQ.out,hnk,<- hsa];simp
  have hL2:Hid (∀sa:ByteArray,sa.data.toList=Lib.itoa a->(bs ++ (op ++ (⟨#[32]⟩:ByteArray)).data.toList).length+(sa ++ (⟨#[32]⟩:ByteArray) ++ it[k]).size<=1000000):=by
   intro sa hsa;have h9:=congrArg List.length (HQ2.out sa hsa);have h10:=HLEN.out;rw[List.length_append,List.length_append]at h9;have h11:(sa ++ (⟨#[32]⟩:ByteArray) ++ it[k]).data.toList.length=(sa ++ (⟨#[32]⟩:ByteArray) ++ it[k]).size:=by rw[Array.length_toList];rfl
   omega
  rw[decide_eq_true e4]at k4;clear k5 k6 hr hnk hnm hrg HQ e1 e2 e3 e4 HLEN;go_wp2;refine wp_region_X (fun w'=>Bk w' W.heap.size 49 [.string op,.int .i64 a,.int .i64 (k:Int),.slice s.A s.n s.c]∧WC w' wb its rus) 17 (n:=17) rfl (by kernel_rfl) (⟨Hw1.out.drew.bx,Hw1.out.drew.wc⟩) (fun hS=>?_);refine uT 0 106 hS ?_;refine uT 1 107 hS ?_;refine uT 2 108 hS ?_;refine uT 3 109 hS ?_;refine uT 4 110 hS ?_ (hy:=fun w' hS'=>by have⟨e0,e1,e2,e3,el⟩:=hS'.1.p4;(go_simp;try with_reducible rfl));refine uT 7 113 hS ?_;refine uT 8 114 hS ?_;refine uT 9 115 hS ?_;refine uT 10 116 hS ?_;refine uT 11 117 hS ?_ (hy:=fun w' hS'=>by have e0:=hS'.2.1;have e1:=hS'.2.2.1;have el:=hS'.2.2.2;(go_simp;try with_reducible rfl));refine uT 12 118 hS ?_;refine uT 13 119 hS ?_ (hy:=fun w' hS'=>by have⟨e0,e1,e2,e3,el⟩:=hS'.1.p4;(go_simp;try with_reducible rfl));refine X_o 5 rfl fun K hK=>?_;go_simp;have K:=iH (Hw1.out.drew.itoa a hIa);(with_reducible refine K.out.mono ?_);rintro e w2 ⟨sa,rfl,hsa,zsa,hw⟩;have Hw2:=iH hw;have Hsa:=iH hsa;refine hK _ _ ⟨Hw2.out.bx,Hw2.out.wc⟩ ?_;clear hK K hw hsa;refine uT 6 112 ⟨Hw2.out.bx,Hw2.out.wc⟩ ?_ (hy:=fun w' hS'=>by have ez:¬ 9223372036854775807<sa.size+1:=Nat.not_lt.2 (Nat.le_trans (Nat.succ_le_succ zsa) (by decide));(go_simp;try with_reducible rfl));refine X_o 14 rfl fun K hK=>?_;go_simp;have K:=iH (Hw2.out.item k hk);(with_reducible refine K.out.mono ?_);rintro e w3 ⟨rfl,hw⟩;have Hw3:=iH hw;refine hK _ _ ⟨Hw3.out.bx,Hw3.out.wc⟩ ?_;clear hK K hw;have hLm:=hL3.out;generalize hnm:it[k]=nm at *;refine uT 15 121 ⟨Hw3.out.bx,Hw3.out.wc⟩ ?_ (hy:=fun w' hS'=>by have ez:¬ 9223372036854775807<sa.size+1+nm.size:=Nat.not_lt.2 (Nat.le_trans (Nat.add_le_add (Nat.succ_le_succ zsa) hLm) (by decide));(go_simp;try with_reducible rfl));refine X_o 16 rfl fun K hK=>?_;go_simp;have K:=iH (Hw3.out.write _ (hL2.out sa Hsa.out));(with_reducible refine K.out.mono ?_);rintro e w4 ⟨rfl,hw,_⟩;have Hw4:=iH hw;refine hK _ _ ⟨Hw4.out.bx,Hw4.out.wc⟩ ?_;clear hK K hw;refine X_done (by kernel_rfl) ?_;go_wp2
  go_end0
  refine⟨rfl,?_,Hw4.out.gr⟩;rw[HQ2.out sa Hsa.out,HF.out];exact Hw4.out.wr
 rw[decide_eq_false e4]at k4;have HF:Hid (condF rn it op a b=true):=by show _=_;unfold condF;rw[if_neg e2,if_neg e3,if_neg e4]
 cases hq:isTwo op
 ·have HQ:Hid (condT rn it op a b=op.data.toList ++ [32] ++ Lib.itoa a):=by show _=_;unfold condT;rw[if_neg e1,if_neg e2,if_neg e3,if_neg e4,hq];rfl
  have HQ2:Hid (∀sa:ByteArray,sa.data.toList=Lib.itoa a->bs ++ condT rn it op a b=(bs ++ (op ++ (⟨#[32]⟩:ByteArray)).data.toList) ++ sa.data.toList):=by intro sa hsa;rw[HQ.out,<- hsa];simp
  have hL2:Hid (∀sa:ByteArray,sa.data.toList=Lib.itoa a->(bs ++ (op ++ (⟨#[32]⟩:ByteArray)).data.toList).length+sa.size<=1000000):=by
   intro sa hsa;have h9:=congrArg List.length (HQ2.out sa hsa);have h10:=HLEN.out;rw[List.length_append,List.length_append]at h9;have h11:sa.data.toList.length=sa.size:=by rw[Array.length_toList];rfl
   omega
  unfold isTwo at hq;simp only[Bool.or_eq_false_iff]at hq;rw[hq.1]at k5;rw[hq.2]at k6;clear hnm hrg HQ e1 e2 e3 e4 HLEN hq;go_wp2;refine wp_region_X (fun w'=>Bk w' W.heap.size 49 [.string op,.int .i64 a,.int .i64 b,.slice s.A s.n s.c]∧WC w' wb its rus) 7 (n:=7) rfl (by kernel_rfl) (⟨Hw1.out.drew.bx,Hw1.out.drew.wc⟩) (fun hS=>?_);refine uT 0 58 hS ?_;refine uT 1 59 hS ?_;refine uT 2 60 hS ?_;refine uT 3 61 hS ?_;refine uT 4 62 hS ?_ (hy:=fun w' hS'=>by have⟨e0,e1,e2,e3,el⟩:=hS'.1.p4;(go_simp;try with_reducible rfl));refine X_o 5 rfl fun K hK=>?_;go_simp;have K:=iH (Hw1.out.drew.itoa a hIa);(with_reducible refine K.out.mono ?_);rintro e w2 ⟨sa,rfl,hsa,zsa,hw⟩;have Hw2:=iH hw;have Hsa:=iH hsa;refine hK _ _ ⟨Hw2.out.bx,Hw2.out.wc⟩ ?_;clear hK K hw hsa;refine X_o 6 rfl fun K hK=>?_;go_simp;have K:=iH (Hw2.out.write _ (hL2.out sa Hsa.out));(with_reducible refine K.out.mono ?_);rintro e w4 ⟨rfl,hw,_⟩;have Hw4:=iH hw;refine hK _ _ ⟨Hw4.out.bx,Hw4.out.wc⟩ ?_;clear hK K hw;refine X_done (by kernel_rfl) ?_;go_wp2
  go_end0
  refine⟨rfl,?_,Hw4.out.gr⟩;rw[HQ2.out sa Hsa.out,HF.out,Bool.and_true];exact Hw4.out.wr
 ·have HQ:Hid (condT rn it op a b=op.data.toList ++ [32] ++ (Lib.itoa a ++ [46,46] ++ Lib.itoa b)):=by show _=_;unfold condT;rw[if_neg e1,if_neg e2,if_neg e3,if_neg e4,hq];rfl
  have HQ2:Hid (∀sa sb:ByteArray,sa.data.toList=Lib.itoa a->sb.data.toList=Lib.itoa b->bs ++ condT rn it op a b=(bs ++ (op ++ (⟨#[32]⟩:ByteArray)).data.toList) ++ (sa ++ (⟨#[46,46]⟩:ByteArray) ++ sb).data.toList):=by intro sa sb hsa hsb;rw[HQ.out,<- hsa,<- hsb];simp
  have hL2:Hid (∀sa sb:ByteArray,sa.data.toList=Lib.itoa a->sb.data.toList=Lib.itoa b->(bs ++ (op ++ (⟨#[32]⟩:ByteArray)).data.toList).length+(sa ++ (⟨#[46,46]⟩:ByteArray) ++ sb).size<=1000000):=by
   intro sa sb hsa hsb;have h9:=congrArg List.length (HQ2.out sa sb hsa hsb);have h10:=HLEN.out;rw[List.length_append,List.length_append]at h9;have h11:(sa ++ (⟨#[46,46]⟩:ByteArray) ++ sb).data.toList.length=(sa ++ (⟨#[46,46]⟩:ByteArray) ++ sb).size:=by rw[Array.length_toList];rfl
   omega
  unfold isTwo at hq;cases hq5:decide (op=sTick)
  ·rw[hq5]at k5 hq;rw[Bool.false_or]at hq;rw[hq]at k6;clear hnm hrg HQ e1 e2 e3 e4 HLEN hq hq5;go_wp2;refine wp_region_X (fun w'=>Bk w' W.heap.size 49 [.string op,.int .i64 a,.int .i64 b,.slice s.A s.n s.c]∧WC w' wb its rus) 12 (n:=12) rfl (by kernel_rfl) (⟨Hw1.out.drew.bx,Hw1.out.drew.wc⟩) (fun hS=>?_);refine uT 0 126 hS ?_
   refine uT 1 127 hS ?_;refine uT 2 128 hS ?_;refine uT 3 129 hS ?_;refine uT 4 130 hS ?_ (hy:=fun w' hS'=>by have⟨e0,e1,e2,e3,el⟩:=hS'.1.p4;(go_simp;try with_reducible rfl));refine uT 7 133 hS ?_;refine uT 8 134 hS ?_ (hy:=fun w' hS'=>by have⟨e0,e1,e2,e3,el⟩:=hS'.1.p4;(go_simp;try with_reducible rfl));refine X_o 5 rfl fun K hK=>?_;go_simp;have K:=iH (Hw1.out.drew.itoa a hIa);(with_reducible refine K.out.mono ?_);rintro e w2 ⟨sa,rfl,hsa,zsa,hw⟩;have Hw2:=iH hw;have Hsa:=iH hsa;refine hK _ _ ⟨Hw2.out.bx,Hw2.out.wc⟩ ?_;clear hK K hw hsa;refine uT 6 132 ⟨Hw2.out.bx,Hw2.out.wc⟩ ?_ (hy:=fun w' hS'=>by have ez:¬ 9223372036854775807<sa.size+2:=Nat.not_lt.2 (Nat.le_trans (Nat.add_le_add_right zsa 2) (by decide));(go_simp;try with_reducible rfl));refine X_o 9 rfl fun K hK=>?_;go_simp;have K:=iH (Hw2.out.itoa b hIb);(with_reducible refine K.out.mono ?_);rintro e w3 ⟨sb,rfl,hsb,zsb,hw⟩;have Hw3:=iH hw;have Hsb:=iH hsb;refine hK _ _ ⟨Hw3.out.bx,Hw3.out.wc⟩ ?_;clear hK K hw hsb;refine uT 10 136 ⟨Hw3.out.bx,Hw3.out.wc⟩ ?_ (hy:=fun w' hS'=>by have ez:¬ 9223372036854775807<sa.size+2+sb.size:=Nat.not_lt.2 (Nat.le_trans (Nat.add_le_add (Nat.add_le_add_right zsa 2) zsb) (by decide));(go_simp;try with_reducible rfl));refine X_o 11 rfl fun K hK=>?_;go_simp;have K:=iH (Hw3.out.write _ (hL2.out sa sb Hsa.out Hsb.out));(with_reducible refine K.out.mono ?_);rintro e w4 ⟨rfl,hw,_⟩;have Hw4:=iH hw;refine hK _ _ ⟨Hw4.out.bx,Hw4.out.wc⟩ ?_;clear hK K hw;refine X_done (by kernel_rfl) ?_;go_wp2
   go_end0
   refine⟨rfl,?_,Hw4.out.gr⟩;rw[HQ2.out sa sb Hsa.out Hsb.out,HF.out,Bool.and_true];exact Hw4.out.wr
  ·rw[hq5]at k5;clear hnm hrg HQ e1 e2 e3 e4 HLEN hq hq5 k6;go_wp2;refine wp_region_X (fun w'=>Bk w' W.heap.size 49 [.string op,.int .i64 a,.int .i64 b,.slice s.A s.n s.c]∧WC w' wb its rus) 12 (n:=12) rfl (by kernel_rfl) (⟨Hw1.out.drew.bx,Hw1.out.drew.wc⟩) (fun hS=>?_);refine uT 0 126 hS ?_
   refine uT 1 127 hS ?_;refine uT 2 128 hS ?_;refine uT 3 129 hS ?_;refine uT 4 130 hS ?_ (hy:=fun w' hS'=>by have⟨e0,e1,e2,e3,el⟩:=hS'.1.p4;(go_simp;try with_reducible rfl));refine uT 7 133 hS ?_;refine uT 8 134 hS ?_ (hy:=fun w' hS'=>by have⟨e0,e1,e2,e3,el⟩:=hS'.1.p4;(go_simp;try with_reducible rfl));refine X_o 5 rfl fun K hK=>?_;go_simp;have K:=iH (Hw1.out.drew.itoa a hIa);(with_reducible refine K.out.mono ?_);rintro e w2 ⟨sa,rfl,hsa,zsa,hw⟩;have Hw2:=iH hw;have Hsa:=iH hsa;refine hK _ _ ⟨Hw2.out.bx,Hw2.out.wc⟩ ?_;clear hK K hw hsa;refine uT 6 132 ⟨Hw2.out.bx,Hw2.out.wc⟩ ?_ (hy:=fun w' hS'=>by have ez:¬ 9223372036854775807<sa.size+2:=Nat.not_lt.2 (Nat.le_trans (Nat.add_le_add_right zsa 2) (by decide));(go_simp;try with_reducible rfl));refine X_o 9 rfl fun K hK=>?_;go_simp;have K:=iH (Hw2.out.itoa b hIb);(with_reducible refine K.out.mono ?_);rintro e w3 ⟨sb,rfl,hsb,zsb,hw⟩;have Hw3:=iH hw;have Hsb:=iH hsb;refine hK _ _ ⟨Hw3.out.bx,Hw3.out.wc⟩ ?_;clear hK K hw hsb;refine uT 10 136 ⟨Hw3.out.bx,Hw3.out.wc⟩ ?_ (hy:=fun w' hS'=>by have ez:¬ 9223372036854775807<sa.size+2+sb.size:=Nat.not_lt.2 (Nat.le_trans (Nat.add_le_add (Nat.add_le_add_right zsa 2) zsb) (by decide));(go_simp;try with_reducible rfl));refine X_o 11 rfl fun K hK=>?_;go_simp;have K:=iH (Hw3.out.write _ (hL2.out sa sb Hsa.out Hsb.out));(with_reducible refine K.out.mono ?_);rintro e w4 ⟨rfl,hw,_⟩;have Hw4:=iH hw;refine hK _ _ ⟨Hw4.out.bx,Hw4.out.wc⟩ ?_;clear hK K hw;refine X_done (by kernel_rfl) ?_;go_wp2
   go_end0
   refine⟨rfl,?_,Hw4.out.gr⟩;rw[HQ2.out sa sb Hsa.out Hsb.out,HF.out,Bool.and_true];exact Hw4.out.wr
end
end Go.Proofs.YtocodlpgaamblaaGreatDoor
