/- The contracts of plain and of the reference's Same. -/
import Derived.Test.YthjfdfdgbpbanaaGreatDoorX1
import Derived.Laws.StructEq
set_option linter.unusedVariables false
set_option linter.unusedSimpArgs false
set_option maxRecDepth 100000
set_option maxHeartbeats 1000000
open Go.RowKit
namespace Go.Proofs.YthjfdfdgbpbanaaGreatDoor
theorem plain_any {w:World} {A:Option Addr} {n:Nat} (c:Nat) {ts:List Tr} (h:TosV w A n ts) (hs:n<=1000000) :
 Calls Tryz.prog 16 #[.slice A n c] w (RowPost w 68 3 n (tcells ts)):=by
 obtain⟨i0,hi,hz0,hz1,hz2⟩:=info_parts info68;have Hn:=iH h.len;have H:=iH h;clear h;go_enter Tryz.func16,Tryz.ntmps16;go_wp2_with fail;go_loopw [3,4] (fun v i wr=>∃k:Nat,k<=n∧i=.int .i64 k∧wr.ownsRow w.heap.size 68 3 v k (tcells (ts.take k))∧Below w.heap.size w wr) (fun _ i _=>n-(intOf i).toNat)
 case atStart=>exact⟨0,Nat.zero_le _,rfl,World.ownsRow_nil _ _ _ _,Below.refl _ _⟩
 case round =>
  obtain⟨k,hk,rfl,hown,hb⟩:=hrel;by_cases hlt:k<n
  ·have hkl:k<ts.length:=by have:=Hn.out;omega
   obtain⟨b,off,rfl,hbb,hc⟩:=H.out.row.at_ 0 (by rw[tcells_length];omega);obtain⟨t1,t2,t3⟩:=tcells_at ts k hkl;have c1:=hc _ _ t1;have c2:=hc _ _ t2;have c3:=hc _ _ t3;simp only[<- Nat.add_assoc]at c2 c3;have HC:Hid (∀U:World,Below w.heap.size w U->U.cell? ⟨b,off+k*3,none⟩=some (.int .i64 (itemAt ts k))∧U.cell? ⟨b,off+k*3+1,none⟩=some (.int .i64 (numAt ts k))∧U.cell? ⟨b,off+k*3+2,none⟩=some (.int .i64 (denAt ts k))) :=
    fun U hU=>⟨(hU.cell (p:=⟨b,_,none⟩) hbb).trans c1,(hU.cell (p:=⟨b,_,none⟩) hbb).trans c2,(hU.cell (p:=⟨b,_,none⟩) hbb).trans c3⟩
   have HT:=iH (take_tr ts k hkl);have hsz:=hb.size;have OWN:Hid ((wr.drew.alloc (.cells #[.int .i64 (itemAt ts k),.int .i64 (numAt ts k),.int .i64 (denAt ts k)] 68)).ownsRow w.heap.size 68 3 u3 k (tcells (ts.take k))):=(hown.drew).alloc _;clear t1 t2 t3 hc hown hkl c1 c2 c3;generalize itemAt ts k=x at *;generalize numAt ts k=y at *;generalize denAt ts k=z at *;have C1:=iH (new3 wr.drew 68 (.int .i64 x) (.int .i64 y) (.int .i64 z));have k0:(0:Int)<=(k:Int):=by omega
   have k1:(k:Int)<(n:Int):=by omega
   have B1:Below w.heap.size w (wr.drew.alloc (.cells #[.int .i64 x,.int .i64 y,.int .i64 z] 68)):=hb.drew.alloc hsz _;have C3:Hid (k+1<=maxLen):=by show k+1<=maxLen;unfold maxLen;omega
   have C5:Hid (w.heap.size<=(wr.drew.alloc (.cells #[.int .i64 x,.int .i64 y,.int .i64 z] 68)).heap.size):=by show w.heap.size<=_;simp;omega
   have C6:Hid ((wr.drew.alloc (.cells #[.int .i64 x,.int .i64 y,.int .i64 z] 68)).heap.size=wr.heap.size+1):=by show _=_;simp
   go_wp2_with fail
   go_region_held3 (fun U=>U.cell? ⟨b,off+k*3,none⟩=some (.int .i64 x)∧U.cell? ⟨b,off+k*3+1,none⟩=some (.int .i64 y)∧U.cell? ⟨b,off+k*3+2,none⟩=some (.int .i64 z)) (first | exact HC.out _ hb.drew | exact HC.out _ B1 | exact HC.out _ BN)
    ((refine step_append_lies _ (by rfl) (.tmp 11) (.tmp 28) 39 (by rfl) w.heap.size 68 i0 (.agg #[.int .i64 0,.int .i64 0,.int .i64 0]) 3 24 Tryz.underlying39 hi hz0 hz1 hz2 rfl (by decide) _ k (tcells (ts.take k)) (by rfl) OWN.out ⟨wr.heap.size,0,none⟩ 1 1 [.int .i64 x,.int .i64 y,.int .i64 z] (by rfl) rfl C1.out (one3 x y z) (by omega) C3.out (by omega) C5.out (wr.heap.size+1) C6.out ?_;intro g' cap w3 hown hgr hat hlt3;have BN:=B1.grown hgr C5.out (row_base OWN.out);have HO1:=iH hown;clear hown hgr hat))
   go_wp2;go_roundw
   case rel=>exact⟨k+1,by omega,by go_num,by rw[HT.out,tcells_snoc];exact HO1.out,BN⟩
   case measure=>simp[intOf];omega
  ·obtain rfl:k=n:=by omega
   rw[List.take_of_length_le (by have:=Hn.out;omega)]at hown;have HO:=iH hown;clear hown;go_wp2;go_ret;exact⟨_,rfl,HO.out,hb⟩
theorem neq68 (x y z:Int) (W:World):(binOp .neq 68 (.agg #[.int .i64 x,.int .i64 y,.int .i64 z]) (.agg #[.int .i64 x,.int .i64 y,.int .i64 z])).run Tryz.prog W=.ok (.bool false) W:=by
 rw[run_neq_struct,run_equalIn_struct W 9999 68 _ _ (by kernel_rfl) (by kernel_rfl)]
 have hf : (Tryz.prog.fieldsOf 68).toList.map (fun f => (f.name, f.type, f.offset)) = [("Item", 3, 0), ("Num", 3, 1), ("Den", 3, 2)] := by kernel_rfl
 generalize(Tryz.prog.fieldsOf 68).toList=L at hf⊢;obtain⟨f1,f2,f3,rfl⟩:∃f1 f2 f3,L=[f1,f2,f3]:=by
  have hl:L.length=3:=by have:=congrArg List.length hf;simpa using this
  rcases L with _|⟨f1,_|⟨f2,_|⟨f3,_|⟨f4,L⟩⟩⟩⟩ <;> simp at hl
  exact⟨f1,f2,f3,rfl⟩
 ·skip
  simp only[List.map_cons,List.map_nil,List.cons.injEq,Prod.mk.injEq,and_true]at hf;obtain⟨⟨n1,t1,o1⟩,⟨n2,t2,o2⟩,⟨n3,t3,o3⟩⟩:=hf;have p1:∀(W:World),(part 3 #[Value.int .i64 x,.int .i64 y,.int .i64 z] 0).run Tryz.prog W=.ok (.int .i64 x) W:=fun W=>by kernel_rfl
  have p2:∀(W:World),(part 3 #[Value.int .i64 x,.int .i64 y,.int .i64 z] 1).run Tryz.prog W=.ok (.int .i64 y) W:=fun W=>by kernel_rfl
  have p3:∀(W:World),(part 3 #[Value.int .i64 x,.int .i64 y,.int .i64 z] 2).run Tryz.prog W=.ok (.int .i64 z) W:=fun W=>by kernel_rfl
  have q:∀(W:World) (u:Int),(Op.equalIn 9999 3 (.int .i64 u) (.int .i64 u)).run Tryz.prog W=.ok true W:=fun W u=>by
   rw[run_equalIn_int W 9998 3 .i64 .i64 u u Tryz.underlying3];simp
  simp[Op.eqFields,n1,n2,n3,t1,t2,t3,o1,o2,o3,Sem.run_bind,p1,p2,p3,q]
theorem Same_eq {w:World} {A A':Option Addr} {n n':Nat} (c c':Nat) {ts:List Tr} (h:TosV w A n ts) (h':TosV w A' n' ts) (hs:n<=1000000) :
 Calls Tryz.prog 15 #[.slice A n c,.slice A' n' c'] w fun e w'=>e=.returned (.bool true)∧Below w.heap.size w w':=by
 have Hn:=iH h.len;have H:=iH h;have H':=iH h';obtain rfl:n'=n:=by rw[h.len,h'.len]
 clear h h';have e1:((n':Int) != (n':Int))=false:=by simp
 go_enter Tryz.func15,Tryz.ntmps15;go_wp2_with fail;go_loopw [5] (fun i wr=>∃k:Nat,k<=n'∧i=.int .i64 k∧Below w.heap.size w wr) (fun i _=>n'-(intOf i).toNat)
 case atStart=>exact⟨0,Nat.zero_le _,rfl,Below.refl _ _⟩
 case round =>
  obtain⟨k,hk,rfl,hb⟩:=hrel;by_cases hlt:k<n'
  ·have hkl:k<ts.length:=by have:=Hn.out;omega
   obtain⟨b,off,rfl,hbb,hc⟩:=(H.out.below hb).row.at_ 0 (by rw[tcells_length];omega);obtain⟨b',off',rfl,hbb',hc'⟩:=(H'.out.below hb).row.at_ 0 (by rw[tcells_length];omega);obtain⟨t1,t2,t3⟩:=tcells_at ts k hkl;have c1:=hc _ _ t1;have c2:=hc _ _ t2;have c3:=hc _ _ t3;have d1:=hc' _ _ t1;have d2:=hc' _ _ t2;have d3:=hc' _ _ t3;simp only[<- Nat.add_assoc]at c2 c3 d2 d3;clear hc hc' t1 t2 t3 hkl;generalize itemAt ts k=x at *;generalize numAt ts k=y at *;generalize denAt ts k=z at *;have k0:(0:Int)<=(k:Int):=by omega
   have k1:(k:Int)<(n':Int):=by omega
   have hne:=fun W=>neq68 x y z W
   go_wp2_with fail;go_quiet (fail);have HB:=iH (bel_drewN hb nq);generalize wr.drewN nq=W at *;clear c1 c2 c3 d1 d2 d3;go_wp2_with fail;go_roundw
   case rel=>exact⟨k+1,by omega,by go_num,HB.out⟩
   case measure=>simp[intOf];omega
  ·go_wp2_with fail;go_ret;exact⟨rfl,hb⟩
end Go.Proofs.YthjfdfdgbpbanaaGreatDoor
