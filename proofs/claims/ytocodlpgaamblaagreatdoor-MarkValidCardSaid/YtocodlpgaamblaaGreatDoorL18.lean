/- The reference's Bent: a Kid changed; Bent on any mark. -/
import Derived.Test.YtocodlpgaamblaaGreatDoorL17
set_option linter.unusedVariables false
set_option linter.unusedSimpArgs false
set_option maxRecDepth 100000
set_option maxHeartbeats 8000000
open Go.RowKit
namespace Go.Proofs.YtocodlpgaamblaaGreatDoor
section
structure KsAt (B : Nat) (P : Nat -> Prop) (W : World) (v : Value) (ks : List MkM) : Prop where
 own:W.ownsRow (B+2) 35 4 v ks.length (mcells ks)
 each:∀k∈ks,k.Ok W 35 (fun b=>(P b∨B<=b)∧b≠B∧b≠B+1∧some b≠v.ownBlock)
section
variable {B : Nat} {P : Nat -> Prop} {W W' : World} {v v' : Value} {ks : List MkM} {M : MkM}
theorem KsAt.below (h:KsAt B P W v ks) (hb:Below W.heap.size W W'):KsAt B P W' v ks :=
 ⟨h.own.kept (grown_of_below hb none) (by cases v.ownBlock <;> simp),fun k hk=>(h.each k hk).bel hb⟩
theorem KsAt.app (h:KsAt B P W v ks) (hM:M.Ok W 35 (fun b=>(P b∨B<=b)∧b≠B∧b≠B+1∧some b≠v.ownBlock)) (hg:W.grownBy W' v.ownBlock) (hn:W'.ownsRow (B+2) 35 4 v' (ks.length+1) (mcells ks ++ M.cells)) (hat:v'.ownBlock=v.ownBlock∨v'.ownBlock=some W.heap.size):KsAt B P W' v' (ks ++ [M]):=by
 refine⟨by rw[mcells_snoc];simpa using hn,fun k hk=>?_⟩;have hk2:k.Ok W 35 (fun b=>(P b∨B<=b)∧b≠B∧b≠B+1∧some b≠v.ownBlock):=by
  rcases List.mem_append.1 hk with hk|hk
  ·exact h.each k hk
  ·rw[List.mem_singleton.1 hk];exact hM
 refine(hk2.lt.grown hg fun b hb=>hb.1.2.2.2).mono fun b _ hb=>⟨hb.1.1,hb.1.2.1,hb.1.2.2.1,?_⟩
 rcases hat with e|e
 ·rw[e];exact hb.1.2.2.2
 ·rw[e];intro e2;have:=hb.2;cases e2;omega
end
def BentS (t:MkM):Prop:=∀(W:World) (P:Nat->Prop) (q:Nat) (at_ which v:Int),t.Ok W 35 P->(∀b,P b->b<W.heap.size)->t.Fan q->1<=q∧q<=1000->t.core.size<=1000000->In64 at_->In64 which->In64 v->Calls Tryz.prog 17 #[.agg #[.string t.op,.int .i64 t.a,.int .i64 t.b,.slice t.s.A t.s.n t.s.c],.int .i64 at_,.int .i64 which,.int .i64 v] W (BentM W P q t)
theorem bent_kid {W:World} {P:Nat->Prop} {op:ByteArray} {a b:Int} {l:List MkM} {A:Option Addr} {n c:Nat} {at_ which v:Int} {q x:Nat} (ih:∀t∈l,BentS t) (h:MkM.Ok W 35 P ⟨op,a,b,l,⟨A,n,c⟩⟩) (hP:∀q,P q->q<W.heap.size) (hfan:MkM.Fan q ⟨op,a,b,l,⟨A,n,c⟩⟩) (hq:1<=q∧q<=1000) (hsz:(MkM.core ⟨op,a,b,l,⟨A,n,c⟩⟩).size<=1000000) (hat:In64 at_) (hw:In64 which) (hv:In64 v) (hx:around at_ ((MkM.core ⟨op,a,b,l,⟨A,n,c⟩⟩).size:Nat)=x) (hx1:1<=x) (hx2:x<=1000000) :
 Calls Tryz.prog 17 #[.agg #[.string op,.int .i64 a,.int .i64 b,.slice A n c],.int .i64 at_,.int .i64 which,.int .i64 v] W (BentM W P q ⟨op,a,b,l,⟨A,n,c⟩⟩):=by
 have hs1:(1:Int)<=((MkM.core ⟨op,a,b,l,⟨A,n,c⟩⟩).size:Nat):=by have:=core_size ⟨op,a,b,l,⟨A,n,c⟩⟩;omega
 have HSZ:=iH (core_size ⟨op,a,b,l,⟨A,n,c⟩⟩);have HPP:=iH hP;have HW:=iH hw;have HV:=iH hv;have HQ:=iH hq;have HI:=iH ih;obtain⟨i0,hi,hz0,hz1,hz2⟩:=info_parts info35;clear hP hw hv hq ih;have y:Below W.heap.size W ((W.alloc (.cells #[.string op,.int .i64 a,.int .i64 b,.slice A n c] 35)).alloc (.cells #[.string ⟨#[]⟩,.int .i64 0,.int .i64 0,.slice none 0 0] 35)):=((Below.refl _ _).alloc (Nat.le_refl _) _).alloc (by simp) _;have KS:=iH (size_any ⟨op,a,b,l,⟨A,n,c⟩⟩ ((W.alloc (.cells #[.string op,.int .i64 a,.int .i64 b,.slice A n c] 35)).alloc (.cells #[.string ⟨#[]⟩,.int .i64 0,.int .i64 0,.slice none 0 0] 35)) P (h.bel y) (by omega));have Y:=iH y;have BX:=iH ((Bk.new W 35 [.string op,.int .i64 a,.int .i64 b,.slice A n c]).alloc (.cells #[.string ⟨#[]⟩,.int .i64 0,.int .i64 0,.slice none 0 0] 35));have BR:Hid (Bk ((W.alloc (.cells #[.string op,.int .i64 a,.int .i64 b,.slice A n c] 35)).alloc (.cells #[.string ⟨#[]⟩,.int .i64 0,.int .i64 0,.slice none 0 0] 35)) (W.heap.size+1) 35 [.string ⟨#[]⟩,.int .i64 0,.int .i64 0,.slice none 0 0]):=by
  have:=Bk.new (W.alloc (.cells #[.string op,.int .i64 a,.int .i64 b,.slice A n c] 35)) 35 [.string ⟨#[]⟩,.int .i64 0,.int .i64 0,.slice none 0 0];rw[World.size_alloc]at this;exact iH this
 have H:=iH h;have HF:=iH hfan;have hn:=h.small;have HN:=iH h.len;have HX:=iH hx;have HS:=iH hsz;generalize he:(MkM.core ⟨op,a,b,l,⟨A,n,c⟩⟩).size=sz at *;have HE:=iH he;clear he;have KA:=iH (fun w=>around_any at_ sz w hat.1 hat.2 hs1 (by omega));rw[hx]at KA;clear h y hfan hx hsz;dsimp only at hn HN;go_enter Tryz.func17,Tryz.ntmps17;go_wp2_with fail;refine KS.out.mono ?_;rintro e w1 ⟨rfl,hb⟩;have HB1:=iH (Y.out.trans (hb.mono Y.out.size));have HX1:=iH (BX.out.below hb BX.out.lt);have HR1:=iH (BR.out.below hb BR.out.lt);have hs1':=HB1.out.size;have hxl:=HX1.out.lt;have hrl:=HR1.out.lt;clear KS hb Y BX BR;go_wp2_with fail;refine(KA.out _).mono ?_;rintro e w2 ⟨rfl,rfl⟩;clear KA;have hxne:((x:Int) == (0:Int))=false:=by rw[Bool.eq_false_iff];simp;omega
 go_wp2_with fail;go_loopw [11,12,13] (fun vn vk vi wr=>∃(k nn:Nat) (ks:List MkM),k<=n∧vi=.int .i64 k∧nn=1+Mk.sizeL ((l.take k).map MkM.core)∧vn=.int .i64 nn∧KsAt W.heap.size P wr vk ks∧ks.length=k∧Mk.sizeL (ks.map MkM.core)<=21*Mk.sizeL ((l.take k).map MkM.core)∧(∀x∈ks,x.Fan (q+1))∧Below W.heap.size W wr∧Bk wr W.heap.size 35 [.string op,.int .i64 a,.int .i64 b,.slice A n c]∧Bk wr (W.heap.size+1) 35 [.string ⟨#[]⟩,.int .i64 0,.int .i64 0,.slice none 0 0]) (fun _ _ i _=>n-(intOf i).toNat)
 case atStart=>exact⟨0,1,[],Nat.zero_le _,rfl,rfl,rfl,⟨World.ownsRow_nil _ _ _ _,fun _ h=>absurd h List.not_mem_nil⟩,rfl,Nat.zero_le _,fun _ h=>absurd h List.not_mem_nil,HB1.out,HX1.out,HR1.out⟩
 case round =>
  obtain⟨k,nn,ks,hk,rfl,hnn,rfl,hka,hkl0,hsum,hfn,hb,hbx,hbr⟩:=hrel;have HB:=iH hb;have HX2:=iH hbx;have HR2:=iH hbr;have HK:=iH hka;have HKL2:=iH hkl0;have HFN:=iH hfn;have HNQ:=iH hnn;have HSU:=iH hsum;have hsz2:=hb.size;have hxl2:=hbx.lt;have hrl2:=hbr.lt;have x3:=hbx.k3;have HNB:Hid (nn<=sz):=iH (by
   have h1:=sizeL_le (l.map MkM.core) k
   rw[<- List.map_take]at h1
   have h2:=HSZ.out
   omega)
  have HSS:=iH HS.out;have hnb:nn<=1000000:=by have:=HNB.out;have:=HSS.out;omega
  clear hka hkl0 hsum hfn hb hbx hbr hnn;by_cases hlt:k<n
  ·have hkl:k<l.length:=by have:=HN.out;omega
   obtain⟨bb,off,rfl,hbb,c0,c1,c2,c3⟩:=(H.out.bel HB.out).at_ k hkl;dsimp only[MkM.ks,MkM.s]at c0 c1 c2 c3;have hmem:=List.getElem_mem hkl;have HTOK:Hid (∀X,Below W.heap.size W X->l[k].Ok X 35 P):=iH fun X hX=>(H.out.bel hX).each _ hmem
   have hbW:bb<W.heap.size:=by
    obtain⟨b9,off9,e9,hb9,_⟩:=H.out.at_ k hkl;cases e9;exact hb9
   have HKC:Hid (∀U,Below W.heap.size W U->(U.cell? ⟨bb,off+k*4,none⟩=some (.string l[k].op)∧U.cell? ⟨bb,off+k*4+1,none⟩=some (.int .i64 l[k].a)∧U.cell? ⟨bb,off+k*4+2,none⟩=some (.int .i64 l[k].b)∧U.cell? ⟨bb,off+k*4+3,none⟩=some (.slice l[k].s.A l[k].s.n l[k].s.c))∧bb<U.heap.size):=iH fun U hU=>by
    obtain⟨b9,off9,e9,_,q0,q1,q2,q3⟩:=(H.out.bel hU).at_ k hkl;cases e9;exact⟨⟨q0,q1,q2,q3⟩,Nat.lt_of_lt_of_le hbW hU.size⟩
   have hks:l[k].core.size<=1000000:=by
    have h1:=kid_size (M:=⟨op,a,b,l,⟨some ⟨bb,off,none⟩,n,c⟩⟩) hmem;have h2:=HE.out;have h3:=HSS.out;omega
   have HTS:Hid (l[k].core.size<=1000000000):=iH (by omega);have HNN:Hid (nn+l[k].core.size=1+Mk.sizeL ((l.take (k+1)).map MkM.core)):=by
    show _=_;rw[List.take_succ_eq_append_getElem hkl,List.map_append,List.map_cons,List.map_nil,sizeL_app,HNQ.out];omega
   have HSUM:Hid (∀M2:MkM,M2.core.size<=21*l[k].core.size->Mk.sizeL ((ks ++ [M2]).map MkM.core)<=21*Mk.sizeL ((l.take (k+1)).map MkM.core)):=iH fun M2 h2=>by
    rw[List.take_succ_eq_append_getElem hkl,List.map_append,List.map_append,List.map_cons,List.map_nil,List.map_cons,List.map_nil,sizeL_app,sizeL_app];have:=HSU.out;omega
   have HTF:Hid (l[k].Fan q):=iH (HF.out.kid _ hmem);have HIT:=iH (HI.out l[k] hmem);have HKL:Hid (ks.length<=1000):=iH (by have:=HKL2.out;have:=HF.out.len;have:=HQ.out;dsimp only at *;omega);have hwz:IntKind.i64.wrap ((nn:Int)+(l[k].core.size:Int))=((nn+l[k].core.size:Nat):Int):=by simp[IntKind.wrap_i64];omega
   have hx3:wr.cell? ⟨W.heap.size,3,none⟩=some (.slice (some ⟨bb,off,none⟩) n c):=x3;clear hmem hbb hbW;generalize l[k]=t at *;have HWT:Hid (Below wr.heap.size wr (wr.alloc (.cells #[.string t.op,.int .i64 t.a,.int .i64 t.b,.slice t.s.A t.s.n t.s.c] 35))):=iH ((Below.refl _ _).alloc (Nat.le_refl _) _);have HMT:Hid (Bk (wr.alloc (.cells #[.string t.op,.int .i64 t.a,.int .i64 t.b,.slice t.s.A t.s.n t.s.c] 35)) wr.heap.size 35 [.string t.op,.int .i64 t.a,.int .i64 t.b,.slice t.s.A t.s.n t.s.c]):=iH (Bk.new wr 35 [.string t.op,.int .i64 t.a,.int .i64 t.b,.slice t.s.A t.s.n t.s.c]);generalize hnz:nn+t.core.size=nz at *;clear hkl hnz;by_cases h1:(nn:Int)<=(x:Int)
   ·have KZ0:=iH (size_any t (wr.alloc (.cells #[.string t.op,.int .i64 t.a,.int .i64 t.b,.slice t.s.A t.s.n t.s.c] 35)) P (HTOK.out _ (HB.out.trans (HWT.out.mono HB.out.size))) HTS.out);go_wp2_with fail;refine KZ0.out.mono ?_;rintro e w3 ⟨rfl,hb3⟩;have HW3:=iH (HWT.out.trans (hb3.mono HWT.out.size));have HM3:=iH (HMT.out.below hb3 HMT.out.lt);have hs3:wr.heap.size+1<=w3.heap.size:=by have:=hb3.size;simpa using this
    clear KZ0 hb3 HWT HMT c0 c1 c2 c3 x3 hx3;have t0:=HM3.out.k0;have t1:=HM3.out.k1;have t2:=HM3.out.k2;have t3:=HM3.out.k3;have hml3:=HM3.out.lt;by_cases h2:(x:Int)<(nz:Int)
    ·have hwx:IntKind.i64.wrap ((x:Int)-(nn:Int))=(x:Int)-(nn:Int):=by simp[IntKind.wrap_i64];omega
     have KB:=iH (HIT.out w3 P q ((x:Int)-(nn:Int)) which v (HTOK.out _ (HB.out.trans (HW3.out.mono HB.out.size))) (fun b hb=>Nat.lt_of_lt_of_le (HPP.out b hb) (HB.out.trans (HW3.out.mono HB.out.size)).size) HTF.out HQ.out hks ⟨by omega,by omega⟩ HW.out HV.out);go_wp2_with fail;refine KB.out.mono ?_;rintro e w4 ⟨M2,rfl,hok4,hsz4,hfan4,hb4⟩;have HW4:=iH (HW3.out.trans (hb4.mono HW3.out.size));have HM4:=iH (HM3.out.below hb4 HM3.out.lt);have HSZ2:=iH hsz4;have HF2:=iH hfan4;have HO4:=iH hok4;have hs4:=hb4.size;have s0:=HM4.out.k0;have s1:=HM4.out.k1;have s2:=HM4.out.k2;have s3:=HM4.out.k3;have fz0:=HM4.out.frozen 0;have fz1:=HM4.out.frozen 1;have fz2:=HM4.out.frozen 2;have fz3:=HM4.out.frozen 3;have hml4:=HM4.out.lt;clear KB hok4 hsz4 hfan4 hb4 HW3 HM3 t0 t1 t2 t3;go_upto_region 28 with fail;have hz5:Below wr.heap.size wr ((((w4.setCell ⟨wr.heap.size,0,none⟩ (.string M2.op)).setCell ⟨wr.heap.size,1,none⟩ (.int .i64 M2.a)).setCell ⟨wr.heap.size,2,none⟩ (.int .i64 M2.b)).setCell ⟨wr.heap.size,3,none⟩ (.slice M2.s.A M2.s.n M2.s.c)):=HW4.out.trans (four_below (Nat.le_refl _) _ _ _ _);have HMz:Hid (Bk ((((w4.setCell ⟨wr.heap.size,0,none⟩ (.string M2.op)).setCell ⟨wr.heap.size,1,none⟩ (.int .i64 M2.a)).setCell ⟨wr.heap.size,2,none⟩ (.int .i64 M2.b)).setCell ⟨wr.heap.size,3,none⟩ (.slice M2.s.A M2.s.n M2.s.c)) wr.heap.size 35 [.string M2.op,.int .i64 M2.a,.int .i64 M2.b,.slice M2.s.A M2.s.n M2.s.c]):=iH (four_laid HM4.out _ _ _ _);have HOz:Hid (M2.Ok ((((w4.setCell ⟨wr.heap.size,0,none⟩ (.string M2.op)).setCell ⟨wr.heap.size,1,none⟩ (.int .i64 M2.a)).setCell ⟨wr.heap.size,2,none⟩ (.int .i64 M2.b)).setCell ⟨wr.heap.size,3,none⟩ (.slice M2.s.A M2.s.n M2.s.c)) 35 (fun b=>(P b∨W.heap.size<=b)∧b≠W.heap.size∧b≠W.heap.size+1∧some b≠u12.ownBlock∧b≠wr.heap.size)):=iH ((HO4.out.mono (Q:=(fun b=>(P b∨W.heap.size<=b)∧b≠W.heap.size∧b≠W.heap.size+1∧some b≠u12.ownBlock∧b≠wr.heap.size)) fun b _ hb=>by
      rcases hb with hb|hb
      ·have h1:=HPP.out b hb
       exact⟨.inl hb,by omega,by omega,fun e=>by have:=row_base HK.out.own b e.symm;omega,by omega⟩
      ·exact⟨.inr (by omega),by omega,by omega,fun e=>by have:=(HK.out.own.lt b e.symm).2;omega,by omega⟩).grown (four_self _ _ _ _ _ _) fun b hb=>by simp;exact hb.2.2.2.2)
     have HBz:=iH (HB.out.trans (hz5.mono HB.out.size));have HXz:=iH (HX2.out.below hz5 HX2.out.lt);have HRz:=iH (HR2.out.below hz5 HR2.out.lt);have HKz:=iH (HK.out.below hz5);clear hz5 HW4 HM4 HO4 s0 s1 s2 s3 fz0 fz1 fz2 fz3 hml4;generalize((((w4.setCell ⟨wr.heap.size,0,none⟩ (.string M2.op)).setCell ⟨wr.heap.size,1,none⟩ (.int .i64 M2.a)).setCell ⟨wr.heap.size,2,none⟩ (.int .i64 M2.b)).setCell ⟨wr.heap.size,3,none⟩ (.slice M2.s.A M2.s.n M2.s.c))=w5 at *;have x0:=HXz.out.k0;have x1:=HXz.out.k1;have x2:=HXz.out.k2;have x3:=HXz.out.k3;have c0':w5.cell? ⟨bb,off+k*4,none⟩=some (.string t.op):=(HKC.out _ HBz.out).1.1;have c1':w5.cell? ⟨bb,off+k*4+1,none⟩=some (.int .i64 t.a):=(HKC.out _ HBz.out).1.2.1;have c2':w5.cell? ⟨bb,off+k*4+2,none⟩=some (.int .i64 t.b):=(HKC.out _ HBz.out).1.2.2.1;have c3':w5.cell? ⟨bb,off+k*4+3,none⟩=some (.slice t.s.A t.s.n t.s.c):=(HKC.out _ HBz.out).1.2.2.2;have cl:=(HKC.out _ HBz.out).2;have hxz:=HXz.out.lt;have KZ:=iH (size_any t w5 P (HTOK.out _ HBz.out) HTS.out);go_wp2_with fail;refine KZ.out.mono ?_;rintro e w8 ⟨rfl,hb8⟩;have HB8:=iH (HBz.out.trans (hb8.mono HBz.out.size));have HX8:=iH (HXz.out.below hb8 HXz.out.lt);have HR8:=iH (HRz.out.below hb8 HRz.out.lt);have HK8:=iH (HKz.out.below hb8);have HM8:=iH (HMz.out.below hb8 HMz.out.lt);have HO8:=iH (HOz.out.bel hb8);have m0:=HM8.out.k0;have m1:=HM8.out.k1;have m2:=HM8.out.k2;have m3:=HM8.out.k3;have hml8:=HM8.out.lt;have hxl8:=HX8.out.lt;have hrl8:=HR8.out.lt;clear KZ hb8 HBz HXz HRz HKz HMz HOz c0' c1' c2' c3' cl hxz x0 x1 x2 x3;go_wp2_with(at_builtin;refine wpList_append_own_at _ rfl _ _ 33 rfl (W.heap.size+2) 35 i0 (.agg #[.string ⟨#[]⟩,.int .i64 0,.int .i64 0,.slice none 0 0]) 4 56 Tryz.underlying33 hi hz0 hz1 hz2 rfl (by decide) _ ks.length (mcells ks) rfl (HK8.out.own.alloc _) ⟨w8.heap.size,0,none⟩ 1 1 [.string M2.op,.int .i64 M2.a,.int .i64 M2.b,.slice M2.s.A M2.s.n M2.s.c] rfl rfl ?d1 (one4m M2) ?d3 ?d4 ?d5 ?_)
     case d1=>exact new4 w8 35 _ _ _ _
     case d3=>have:=HKL.out;unfold maxLen;omega
     case d4=>have:=HKL.out;omega
     case d5=>simp;omega
     intro v6 w6 hown6 hgrow6 _ hat6;have y8:Below w8.heap.size w8 (w8.alloc (.cells #[.string M2.op,.int .i64 M2.a,.int .i64 M2.b,.slice M2.s.A M2.s.n M2.s.c] 35)):=(Below.refl _ _).alloc (Nat.le_refl _) _;have hat7:v6.ownBlock=u12.ownBlock∨v6.ownBlock=some (w8.alloc (.cells #[.string M2.op,.int .i64 M2.a,.int .i64 M2.b,.slice M2.s.A M2.s.n M2.s.c] 35)).heap.size:=by rw[World.size_alloc];exact hat6
     have HKA:=iH ((HK8.out.below y8).app (M:=M2) (HO8.out.bel y8 |>.mono fun b _ hb=>⟨hb.1,hb.2.1,hb.2.2.1,hb.2.2.2.1⟩) hgrow6 hown6 hat7);have HB9:=iH ((HB8.out.alloc HB8.out.size (.cells #[.string M2.op,.int .i64 M2.a,.int .i64 M2.b,.slice M2.s.A M2.s.n M2.s.c] 35)).grown hgrow6 (by simp;have:=HB8.out.size;omega) (fun g hg=>by have:=row_base HK8.out.own g hg;omega));have HX9:=iH ((HX8.out.alloc (.cells #[.string M2.op,.int .i64 M2.a,.int .i64 M2.b,.slice M2.s.A M2.s.n M2.s.c] 35)).grown hgrow6 (fun e=>by have:=row_base HK8.out.own _ e.symm;omega));have HR9:=iH ((HR8.out.alloc (.cells #[.string M2.op,.int .i64 M2.a,.int .i64 M2.b,.slice M2.s.A M2.s.n M2.s.c] 35)).grown hgrow6 (fun e=>by have:=row_base HK8.out.own _ e.symm;omega));clear hown6 hgrow6 hat6 hat7 y8;go_wp2_with fail;go_roundw
     case rel=>exact⟨k+1,nz,ks ++ [M2],by omega,by go_num,HNN.out,by go_num,HKA.out,by simp[HKL2.out],HSUM.out M2 HSZ2.out,fun x hx=>by
      rcases List.mem_append.1 hx with hx|hx
      ·exact HFN.out x hx
      ·rw[List.mem_singleton.1 hx];exact HF2.out,HB9.out,HX9.out,HR9.out⟩
     case measure=>simp[intOf];omega
    ·go_upto_region 28 with fail;obtain⟨M2,hM2⟩:∃M2,M2=t:=⟨_,rfl⟩;have HMz:Hid (Bk w3 wr.heap.size 35 [.string M2.op,.int .i64 M2.a,.int .i64 M2.b,.slice M2.s.A M2.s.n M2.s.c]):=by rw[hM2];exact iH HM3.out
     have HOz:Hid (M2.Ok w3 35 (fun b=>(P b∨W.heap.size<=b)∧b≠W.heap.size∧b≠W.heap.size+1∧some b≠u12.ownBlock∧b≠wr.heap.size)):=by
      rw[hM2];exact iH ((HTOK.out _ (HB.out.trans (HW3.out.mono HB.out.size))).mono fun b _ hb=>by
       have h1:=HPP.out b hb
       exact⟨.inl hb,by omega,by omega,fun e=>by have:=row_base HK.out.own b e.symm;omega,by omega⟩)
     have HSZ2:Hid (M2.core.size<=21*t.core.size):=by rw[hM2];exact iH (by omega)
     have HF2:Hid (M2.Fan (q+1)):=by rw[hM2];exact iH (HTF.out.mono (Nat.le_succ _))
     have HBz:=iH (HB.out.trans (HW3.out.mono HB.out.size));have HXz:=iH (HX2.out.below HW3.out HX2.out.lt);have HRz:=iH (HR2.out.below HW3.out HR2.out.lt);have HKz:=iH (HK.out.below HW3.out);clear hM2;clear HW3 HM3 t0 t1 t2 t3;have x0:=HXz.out.k0;have x1:=HXz.out.k1;have x2:=HXz.out.k2;have x3:=HXz.out.k3;have c0':w3.cell? ⟨bb,off+k*4,none⟩=some (.string t.op):=(HKC.out _ HBz.out).1.1;have c1':w3.cell? ⟨bb,off+k*4+1,none⟩=some (.int .i64 t.a):=(HKC.out _ HBz.out).1.2.1;have c2':w3.cell? ⟨bb,off+k*4+2,none⟩=some (.int .i64 t.b):=(HKC.out _ HBz.out).1.2.2.1;have c3':w3.cell? ⟨bb,off+k*4+3,none⟩=some (.slice t.s.A t.s.n t.s.c):=(HKC.out _ HBz.out).1.2.2.2;have cl:=(HKC.out _ HBz.out).2;have hxz:=HXz.out.lt;have KZ:=iH (size_any t w3 P (HTOK.out _ HBz.out) HTS.out);go_wp2_with fail;refine KZ.out.mono ?_;rintro e w8 ⟨rfl,hb8⟩;have HB8:=iH (HBz.out.trans (hb8.mono HBz.out.size));have HX8:=iH (HXz.out.below hb8 HXz.out.lt);have HR8:=iH (HRz.out.below hb8 HRz.out.lt);have HK8:=iH (HKz.out.below hb8);have HM8:=iH (HMz.out.below hb8 HMz.out.lt);have HO8:=iH (HOz.out.bel hb8);have m0:=HM8.out.k0;have m1:=HM8.out.k1;have m2:=HM8.out.k2;have m3:=HM8.out.k3;have hml8:=HM8.out.lt;have hxl8:=HX8.out.lt;have hrl8:=HR8.out.lt;clear KZ hb8 HBz HXz HRz HKz HMz HOz c0' c1' c2' c3' cl hxz x0 x1 x2 x3;go_wp2_with(at_builtin;refine wpList_append_own_at _ rfl _ _ 33 rfl (W.heap.size+2) 35 i0 (.agg #[.string ⟨#[]⟩,.int .i64 0,.int .i64 0,.slice none 0 0]) 4 56 Tryz.underlying33 hi hz0 hz1 hz2 rfl (by decide) _ ks.length (mcells ks) rfl (HK8.out.own.alloc _) ⟨w8.heap.size,0,none⟩ 1 1 [.string M2.op,.int .i64 M2.a,.int .i64 M2.b,.slice M2.s.A M2.s.n M2.s.c] rfl rfl ?d1 (one4m M2) ?d3 ?d4 ?d5 ?_)
     case d1=>exact new4 w8 35 _ _ _ _
     case d3=>have:=HKL.out;unfold maxLen;omega
     case d4=>have:=HKL.out;omega
     case d5=>simp;omega
     intro v6 w6 hown6 hgrow6 _ hat6;have y8:Below w8.heap.size w8 (w8.alloc (.cells #[.string M2.op,.int .i64 M2.a,.int .i64 M2.b,.slice M2.s.A M2.s.n M2.s.c] 35)):=(Below.refl _ _).alloc (Nat.le_refl _) _;have hat7:v6.ownBlock=u12.ownBlock∨v6.ownBlock=some (w8.alloc (.cells #[.string M2.op,.int .i64 M2.a,.int .i64 M2.b,.slice M2.s.A M2.s.n M2.s.c] 35)).heap.size:=by rw[World.size_alloc];exact hat6
     have HKA:=iH ((HK8.out.below y8).app (M:=M2) (HO8.out.bel y8 |>.mono fun b _ hb=>⟨hb.1,hb.2.1,hb.2.2.1,hb.2.2.2.1⟩) hgrow6 hown6 hat7);have HB9:=iH ((HB8.out.alloc HB8.out.size (.cells #[.string M2.op,.int .i64 M2.a,.int .i64 M2.b,.slice M2.s.A M2.s.n M2.s.c] 35)).grown hgrow6 (by simp;have:=HB8.out.size;omega) (fun g hg=>by have:=row_base HK8.out.own g hg;omega));have HX9:=iH ((HX8.out.alloc (.cells #[.string M2.op,.int .i64 M2.a,.int .i64 M2.b,.slice M2.s.A M2.s.n M2.s.c] 35)).grown hgrow6 (fun e=>by have:=row_base HK8.out.own _ e.symm;omega));have HR9:=iH ((HR8.out.alloc (.cells #[.string M2.op,.int .i64 M2.a,.int .i64 M2.b,.slice M2.s.A M2.s.n M2.s.c] 35)).grown hgrow6 (fun e=>by have:=row_base HK8.out.own _ e.symm;omega));clear hown6 hgrow6 hat6 hat7 y8;go_wp2_with fail;go_roundw
     case rel=>exact⟨k+1,nz,ks ++ [M2],by omega,by go_num,HNN.out,by go_num,HKA.out,by simp[HKL2.out],HSUM.out M2 HSZ2.out,fun x hx=>by
      rcases List.mem_append.1 hx with hx|hx
      ·exact HFN.out x hx
      ·rw[List.mem_singleton.1 hx];exact HF2.out,HB9.out,HX9.out,HR9.out⟩
     case measure=>simp[intOf];omega
   ·go_upto_region 28 with fail;obtain⟨M2,hM2⟩:∃M2,M2=t:=⟨_,rfl⟩;have HMz:Hid (Bk (wr.alloc (.cells #[.string t.op,.int .i64 t.a,.int .i64 t.b,.slice t.s.A t.s.n t.s.c] 35)) wr.heap.size 35 [.string M2.op,.int .i64 M2.a,.int .i64 M2.b,.slice M2.s.A M2.s.n M2.s.c]):=by rw[hM2];exact iH HMT.out
    have HOz:Hid (M2.Ok (wr.alloc (.cells #[.string t.op,.int .i64 t.a,.int .i64 t.b,.slice t.s.A t.s.n t.s.c] 35)) 35 (fun b=>(P b∨W.heap.size<=b)∧b≠W.heap.size∧b≠W.heap.size+1∧some b≠u12.ownBlock∧b≠wr.heap.size)):=by
     rw[hM2];exact iH ((HTOK.out _ (HB.out.trans (HWT.out.mono HB.out.size))).mono fun b _ hb=>by
      have h1:=HPP.out b hb
      exact⟨.inl hb,by omega,by omega,fun e=>by have:=row_base HK.out.own b e.symm;omega,by omega⟩)
    have HSZ2:Hid (M2.core.size<=21*t.core.size):=by rw[hM2];exact iH (by omega)
    have HF2:Hid (M2.Fan (q+1)):=by rw[hM2];exact iH (HTF.out.mono (Nat.le_succ _))
    have HBz:=iH (HB.out.trans (HWT.out.mono HB.out.size));have HXz:=iH (HX2.out.below HWT.out HX2.out.lt);have HRz:=iH (HR2.out.below HWT.out HR2.out.lt);have HKz:=iH (HK.out.below HWT.out);clear hM2;clear HWT HMT c0 c1 c2 c3 x3 hx3;generalize(wr.alloc (.cells #[.string t.op,.int .i64 t.a,.int .i64 t.b,.slice t.s.A t.s.n t.s.c] 35))=w3 at *;have x0:=HXz.out.k0;have x1:=HXz.out.k1;have x2:=HXz.out.k2;have x3:=HXz.out.k3;have c0':w3.cell? ⟨bb,off+k*4,none⟩=some (.string t.op):=(HKC.out _ HBz.out).1.1;have c1':w3.cell? ⟨bb,off+k*4+1,none⟩=some (.int .i64 t.a):=(HKC.out _ HBz.out).1.2.1;have c2':w3.cell? ⟨bb,off+k*4+2,none⟩=some (.int .i64 t.b):=(HKC.out _ HBz.out).1.2.2.1;have c3':w3.cell? ⟨bb,off+k*4+3,none⟩=some (.slice t.s.A t.s.n t.s.c):=(HKC.out _ HBz.out).1.2.2.2;have cl:=(HKC.out _ HBz.out).2;have hxz:=HXz.out.lt;have KZ:=iH (size_any t w3 P (HTOK.out _ HBz.out) HTS.out);go_wp2_with fail;refine KZ.out.mono ?_;rintro e w8 ⟨rfl,hb8⟩;have HB8:=iH (HBz.out.trans (hb8.mono HBz.out.size));have HX8:=iH (HXz.out.below hb8 HXz.out.lt);have HR8:=iH (HRz.out.below hb8 HRz.out.lt);have HK8:=iH (HKz.out.below hb8);have HM8:=iH (HMz.out.below hb8 HMz.out.lt);have HO8:=iH (HOz.out.bel hb8);have m0:=HM8.out.k0;have m1:=HM8.out.k1;have m2:=HM8.out.k2;have m3:=HM8.out.k3;have hml8:=HM8.out.lt;have hxl8:=HX8.out.lt;have hrl8:=HR8.out.lt;clear KZ hb8 HBz HXz HRz HKz HMz HOz c0' c1' c2' c3' cl hxz x0 x1 x2 x3;go_wp2_with(at_builtin;refine wpList_append_own_at _ rfl _ _ 33 rfl (W.heap.size+2) 35 i0 (.agg #[.string ⟨#[]⟩,.int .i64 0,.int .i64 0,.slice none 0 0]) 4 56 Tryz.underlying33 hi hz0 hz1 hz2 rfl (by decide) _ ks.length (mcells ks) rfl (HK8.out.own.alloc _) ⟨w8.heap.size,0,none⟩ 1 1 [.string M2.op,.int .i64 M2.a,.int .i64 M2.b,.slice M2.s.A M2.s.n M2.s.c] rfl rfl ?d1 (one4m M2) ?d3 ?d4 ?d5 ?_)
    case d1=>exact new4 w8 35 _ _ _ _
    case d3=>have:=HKL.out;unfold maxLen;omega
    case d4=>have:=HKL.out;omega
    case d5=>simp;omega
    intro v6 w6 hown6 hgrow6 _ hat6;have y8:Below w8.heap.size w8 (w8.alloc (.cells #[.string M2.op,.int .i64 M2.a,.int .i64 M2.b,.slice M2.s.A M2.s.n M2.s.c] 35)):=(Below.refl _ _).alloc (Nat.le_refl _) _;have hat7:v6.ownBlock=u12.ownBlock∨v6.ownBlock=some (w8.alloc (.cells #[.string M2.op,.int .i64 M2.a,.int .i64 M2.b,.slice M2.s.A M2.s.n M2.s.c] 35)).heap.size:=by rw[World.size_alloc];exact hat6
    have HKA:=iH ((HK8.out.below y8).app (M:=M2) (HO8.out.bel y8 |>.mono fun b _ hb=>⟨hb.1,hb.2.1,hb.2.2.1,hb.2.2.2.1⟩) hgrow6 hown6 hat7);have HB9:=iH ((HB8.out.alloc HB8.out.size (.cells #[.string M2.op,.int .i64 M2.a,.int .i64 M2.b,.slice M2.s.A M2.s.n M2.s.c] 35)).grown hgrow6 (by simp;have:=HB8.out.size;omega) (fun g hg=>by have:=row_base HK8.out.own g hg;omega));have HX9:=iH ((HX8.out.alloc (.cells #[.string M2.op,.int .i64 M2.a,.int .i64 M2.b,.slice M2.s.A M2.s.n M2.s.c] 35)).grown hgrow6 (fun e=>by have:=row_base HK8.out.own _ e.symm;omega));have HR9:=iH ((HR8.out.alloc (.cells #[.string M2.op,.int .i64 M2.a,.int .i64 M2.b,.slice M2.s.A M2.s.n M2.s.c] 35)).grown hgrow6 (fun e=>by have:=row_base HK8.out.own _ e.symm;omega));clear hown6 hgrow6 hat6 hat7 y8;go_wp2_with fail;go_roundw
    case rel=>exact⟨k+1,nz,ks ++ [M2],by omega,by go_num,HNN.out,by go_num,HKA.out,by simp[HKL2.out],HSUM.out M2 HSZ2.out,fun x hx=>by
     rcases List.mem_append.1 hx with hx|hx
     ·exact HFN.out x hx
     ·rw[List.mem_singleton.1 hx];exact HF2.out,HB9.out,HX9.out,HR9.out⟩
    case measure=>simp[intOf];omega
  ·have hkn:k=n:=by omega
   have hT:l.take k=l:=List.take_of_length_le (by have:=HN.out;omega);obtain⟨A9,c9,e9,_⟩:=row_of_owns HK.out.own;subst e9;have HCAP:=iH (own_cap (s:=⟨A9,ks.length,c9⟩) HK.out.own);have HLN:Hid (ks.length=l.length):=iH (by have:=HKL2.out;have:=HN.out;omega);have HSUT:Hid (Mk.sizeL (ks.map MkM.core)<=21*Mk.sizeL (l.map MkM.core)):=iH (by have:=HSU.out;rw[hT]at this;exact this);have x0:=HX2.out.k0;have x1:=HX2.out.k1;have x2:=HX2.out.k2;have g3:=HX2.out.frozen 3;have r0:=HR2.out.k0;have r1:=HR2.out.k1;have r2:=HR2.out.k2;have r3:=HR2.out.k3;have f0:=HR2.out.frozen 0;have f1:=HR2.out.frozen 1;have f2:=HR2.out.frozen 2;have f3:=HR2.out.frozen 3;clear hkn hT;go_wp2;have hr2:=HR2.out.setOther (b:=W.heap.size) (k:=3) (u:=.slice A9 ks.length c9) (by omega);have hb2:Below W.heap.size W (wr.setCell ⟨W.heap.size,3,none⟩ (.slice A9 ks.length c9)):=HB.out.setCell (Nat.le_refl _) _;have ok2:MkM.Ok (wr.setCell ⟨W.heap.size,3,none⟩ (.slice A9 ks.length c9)) 35 (fun b=>(P b∨W.heap.size<=b)∧b≠W.heap.size+1) ⟨op,a,b,ks,⟨A9,ks.length,c9⟩⟩:=by
    have h2:=H.out;have hrw:=(PRow.of_own HK.out.own).grown (grown_setCell wr W.heap.size 3 (.slice A9 ks.length c9)) (fun b hb=>by simp;intro e;have:=hb.2;omega);refine .mk _ _ _ _ _ (hrw.mono fun b _ hb=>⟨.inr (by have:=hb.2;omega),by have:=hb.2;omega⟩) rfl (by show ks.length<=100000;have:=HLN.out;have:=HN.out;omega) h2.hop h2.ha h2.hb fun x hx=>?_
    exact((HK.out.each x hx).grown (grown_setCell wr W.heap.size 3 _) fun b hb=>by simp;exact hb.2.1).mono fun b _ hb=>⟨hb.1,hb.2.2.1⟩
   have hL:=lay_any (M:=⟨op,a,b,ks,⟨A9,ks.length,c9⟩⟩) (g:=W.heap.size+1) (by omega) hr2 (ok2) (hb2)
   try dsimp only at hL
   generalize(((((wr.setCell ⟨W.heap.size,3,none⟩ (.slice A9 ks.length c9)).setCell ⟨W.heap.size+1,0,none⟩ (.string op)).setCell ⟨W.heap.size+1,1,none⟩ (.int .i64 a)).setCell ⟨W.heap.size+1,2,none⟩ (.int .i64 b)).setCell ⟨W.heap.size+1,3,none⟩ (.slice A9 ks.length c9))=X at *;have xx0:=hL.2.2.k0;have xx1:=hL.2.2.k1;have xx2:=hL.2.2.k2;have xx3:=hL.2.2.k3;refine bodyPost_ret (v:=.agg #[.string op,.int .i64 a,.int .i64 b,.slice A9 ks.length c9]) (by simp[results,Tryz.results17,go_sem,xx0,xx1,xx2,xx3]) rfl ?_;exact⟨⟨op,a,b,ks,⟨A9,ks.length,c9⟩⟩,rfl,hL.1,(by have h1:=core_size ⟨op,a,b,ks,⟨A9,ks.length,c9⟩⟩;have h2:=HSZ.out;have h3:=HE.out;have h4:=HSUT.out;dsimp only at h1 h2;omega),(.mk _ _ _ _ _ (by have:=HLN.out;have:=HF.out.len;dsimp only at *;omega) HCAP.out HFN.out),hL.2.1⟩
theorem bent_any:∀t:MkM,BentS t:=by
 intro t
 induction t using MkM.ind with
 | h M ih =>
   intro W P q at_ which v h hP hfan hq hsz hat hw hv;obtain⟨op,a,b,l,⟨A,n,c⟩⟩:=M;have hs1:(1:Int)<=((MkM.core ⟨op,a,b,l,⟨A,n,c⟩⟩).size:Nat):=by have:=core_size ⟨op,a,b,l,⟨A,n,c⟩⟩;omega
   have x0:=around_lo at_ _ hs1;have x1:=around_hi at_ _ hs1;obtain⟨x,hx⟩:=Int.eq_ofNat_of_zero_le x0;cases x with
   | zero =>
     have d0:=around_lo which 6 (by decide);have d1:=around_hi which 6 (by decide);rcases(show around which 6=0∨around which 6=1∨around which 6=2∨around which 6=3∨around which 6=4∨around which 6=5 by omega)with hd|hd|hd|hd|hd|hd
     ·exact bent_0 h hP hfan hq hsz hat hw hv hx hd
     ·exact bent_1 h hP hfan hq hsz hat hw hv hx hd
     ·exact bent_2 h hP hfan hq hsz hat hw hv hx hd
     ·exact bent_3 h hP hfan hq hsz hat hw hv hx hd
     ·exact bent_4 h hP hfan hq hsz hat hw hv hx hd
     ·exact bent_5 h hP hfan hq hsz hat hw hv hx hd
   | succ x=>exact bent_kid ih h hP hfan hq hsz hat hw hv hx (by omega) (by omega)
end
end Go.Proofs.YtocodlpgaamblaaGreatDoor
